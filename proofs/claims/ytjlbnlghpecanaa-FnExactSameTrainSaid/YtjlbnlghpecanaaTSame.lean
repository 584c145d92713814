/- Contracts of SameTrain, the reference's and the program's, and the law on it. -/
import Derived.Test.YtjlbnlghpecanaaTMap
set_option linter.unusedVariables false
set_option linter.unusedSimpArgs false
namespace Go.Proofs.Ytjlbnlghpecanaa
open Go.RowKit Ieee

def sameTo (F G : Nat → Nat) : Nat → Bool
  | 0 => true
  | k + 1 => sameTo F G k && sameN (F k) (G k)
theorem sameTo_no {F G : Nat → Nat} {k n : Nat} (hk : k < n) (h : sameN (F k) (G k) = false) : sameTo F G n = false := by
  induction n with
  | zero => omega
  | succ n ih =>
    by_cases e : k = n
    · subst e; simp [sameTo, h]
    · simp [sameTo, ih (by omega)]

theorem implSame_q {a b : Nat} {v : Bool} (h : sameN a b = v) (ha : a < 2 ^ 32) (hb : b < 2 ^ 32) (w : World) (n : Nat) : Calls Try.prog 47 #[.float .f32 a, .float .f32 b] (w.drewN n) fun e w' => e = .returned (.bool v) ∧ ∃ m, w' = w.drewN m := by
  subst h
  exact quiet_same (implSame_any a b _ ha hb)
theorem specSame_q {a b : Nat} {v : Bool} (h : sameN a b = v) (w : World) (n : Nat) : Calls Try.prog 64 #[.float .f32 a, .float .f32 b] (w.drewN n) fun e w' => e = .returned (.bool v) ∧ ∃ m, w' = w.drewN m := by
  subst h
  exact quiet_same (specSame_any a b _)

set_option maxHeartbeats 800000 in
theorem sameNumbers_any (F G : Nat → Nat) (n b o b' o' c c' : Nat) (w : World) (hn : n ≤ 64) (hF : ∀ i, i < n → F i < 2 ^ 32) (hG : ∀ i, i < n → G i < 2 ^ 32)
    (hc : ∀ i, i < n → w.cell? ⟨b, o + i, none⟩ = some (.float .f32 (F i))) (hc' : ∀ i, i < n → w.cell? ⟨b', o' + i, none⟩ = some (.float .f32 (G i))) :
    Calls Try.prog 48 #[.slice (some ⟨b, o, none⟩) n c, .slice (some ⟨b', o', none⟩) n c'] w fun e w' => e = .returned (.bool (sameTo F G n)) ∧ ∃ m, w' = w.drewN m := by
  have HC := Lib.hid hc
  have HC' := Lib.hid hc'
  have HF := Lib.hid hF
  have HG := Lib.hid hG
  clear hc hc' hF hG
  go_enter Try.func48, Try.ntmps48
  go_wp2
  go_loopw [8] (fun i wr => ∃ k m : Nat, k ≤ n ∧ i = .int .i64 k ∧ sameTo F G k = true ∧ wr = w.drewN m) (fun i _ => n - (intOf i).toNat)
  case atStart => exact ⟨0, 0, by omega, rfl, rfl, rfl⟩
  case round =>
    obtain ⟨k, m, hk, rfl, hs, hwr⟩ := hrel
    have HW := Lib.hid hwr
    have HS := Lib.hid hs
    clear hs
    by_cases hlt : k < n
    · have ca : wr.cell? ⟨b, o + k, none⟩ = some (.float .f32 (F k)) := by rw [hwr]; exact HC.out k hlt
      have cb : wr.cell? ⟨b', o' + k, none⟩ = some (.float .f32 (G k)) := by rw [hwr]; exact HC'.out k hlt
      clear hwr
      cases hk2 : sameN (F k) (G k)
      · go_wp2
        go_quiet ((go_at_call 47; exact implSame_q hk2 (HF.out k hlt) (HG.out k hlt) _ _))
        go_wp2
        go_ret
        exact ⟨by rw [sameTo_no hlt hk2]; rfl, _, by rw [HW.out, World.drewN_drewN]⟩
      · go_wp2
        go_quiet ((go_at_call 47; exact implSame_q hk2 (HF.out k hlt) (HG.out k hlt) _ _))
        go_wp2
        go_roundw
        case rel => exact ⟨k + 1, _, by omega, by go_num, by simp [sameTo, HS.out, hk2], by rw [HW.out, World.drewN_drewN]⟩
        case measure => simp [intOf]; omega
    · obtain rfl : k = n := by omega
      clear hwr
      go_wp2
      go_ret
      exact ⟨by rw [HS.out]; rfl, m, HW.out⟩

def sameT (r : Int) (s t : Nat) (F : Nat → Nat) (r' : Int) (s' t' : Nat) (F' : Nat → Nat) : Bool := (r == r') && (sameN s s' && (sameN t t' && sameTo F F' 12))

set_option maxHeartbeats 1600000 in
theorem specSameTr_any (r : Int) (s t : Nat) (F : Nat → Nat) (r' : Int) (s' t' : Nat) (F' : Nat → Nat) (w : World) (hs : s < 2 ^ 32) (ht : t < 2 ^ 32) (hF : ∀ i, i < 12 → F i < 2 ^ 32) (hs' : s' < 2 ^ 32) (ht' : t' < 2 ^ 32) (hF' : ∀ i, i < 12 → F' i < 2 ^ 32) (B B' : Nat) (hB : w.heap[B]? = some (.cells (train r s t F) 33 (0, 0))) (hB' : w.heap[B']? = some (.cells (train r' s' t' F') 33 (0, 0))) :
    Calls Try.prog 45 #[.pointer (some ⟨B, 0, none⟩), .pointer (some ⟨B', 0, none⟩)] w fun e w' => e = .returned (.bool (sameT r s t F r' s' t' F')) ∧ ∃ m, w' = w.drewN m := by
  have HB := Lib.hid hB
  have HB' := Lib.hid hB'
  clear hB hB'
  go_enter Try.func45, Try.ntmps45
  go_wp2
  go_loopw [5] (fun i wr => ∃ k m : Nat, k ≤ 12 ∧ i = .int .i64 k ∧ sameTo F F' k = true ∧ wr = w.drewN m) (fun i _ => 12 - (intOf i).toNat)
  case atStart => exact ⟨0, 0, by omega, rfl, rfl, rfl⟩
  case round =>
    obtain ⟨k, m, hk, rfl, hsm, hwr⟩ := hrel
    have HW := Lib.hid hwr
    have HS := Lib.hid hsm
    clear hsm
    by_cases hlt : k < 12
    · have ca : wr.cell? ⟨B, 3 + k, none⟩ = some (.float .f32 (F k)) := by rw [hwr]; exact (cell_of_row w _ (3 + k) _ _ _ HB.out).trans (row_k3 _ _ _ _ _ hlt)
      have cb : wr.cell? ⟨B', 3 + k, none⟩ = some (.float .f32 (F' k)) := by rw [hwr]; exact (cell_of_row w _ (3 + k) _ _ _ HB'.out).trans (row_k3 _ _ _ _ _ hlt)
      clear hwr
      cases hk2 : sameN (F k) (F' k)
      · go_wp2
        go_quiet ((go_at_call 64; with_reducible exact specSame_q hk2 _ _))
        go_wp2
        go_ret
        exact ⟨by unfold sameT; rw [sameTo_no hlt hk2]; simp, _, by rw [HW.out, World.drewN_drewN]⟩
      · go_wp2
        go_quiet ((go_at_call 64; with_reducible exact specSame_q hk2 _ _))
        go_wp2
        go_roundw
        case rel => exact ⟨k + 1, _, by omega, by go_num, by simp [sameTo, HS.out, hk2], by rw [HW.out, World.drewN_drewN]⟩
        case measure => simp [intOf]; omega
    · obtain rfl : k = 12 := by omega
      have d0 : wr.cell? ⟨B, 0, none⟩ = some (.int .i8 r) := by rw [hwr]; exact (cell_of_row w _ 0 _ _ _ HB.out).trans (row_g0 _ _ _ _)
      have d1 : wr.cell? ⟨B, 1, none⟩ = some (.float .f32 s) := by rw [hwr]; exact (cell_of_row w _ 1 _ _ _ HB.out).trans (row_g1 _ _ _ _ _)
      have d2 : wr.cell? ⟨B, 2, none⟩ = some (.float .f32 t) := by rw [hwr]; exact (cell_of_row w _ 2 _ _ _ HB.out).trans (row_g2 _ _ _ _ _ _)
      have e0 : wr.cell? ⟨B', 0, none⟩ = some (.int .i8 r') := by rw [hwr]; exact (cell_of_row w _ 0 _ _ _ HB'.out).trans (row_g0 _ _ _ _)
      have e1 : wr.cell? ⟨B', 1, none⟩ = some (.float .f32 s') := by rw [hwr]; exact (cell_of_row w _ 1 _ _ _ HB'.out).trans (row_g1 _ _ _ _ _)
      have e2 : wr.cell? ⟨B', 2, none⟩ = some (.float .f32 t') := by rw [hwr]; exact (cell_of_row w _ 2 _ _ _ HB'.out).trans (row_g2 _ _ _ _ _ _)
      clear hwr
      by_cases hr : r = r'
      · cases h1 : sameN s s'
        · have h2 := h1
          go_wp2
          go_quiet (first | (go_at_call 64; with_reducible exact specSame_q h1 _ _) | (go_at_call 64; with_reducible exact specSame_q h2 _ _))
          go_wp2
          go_ret
          exact ⟨by unfold sameT; rw [HS.out]; simp [h1], _, by rw [HW.out, World.drewN_drewN]⟩
        · cases h2 : sameN t t'
          · skip
            go_wp2
            go_quiet (first | (go_at_call 64; with_reducible exact specSame_q h1 _ _) | (go_at_call 64; with_reducible exact specSame_q h2 _ _))
            go_wp2
            go_ret
            exact ⟨by unfold sameT; rw [HS.out]; simp [h1, h2], _, by rw [HW.out, World.drewN_drewN]⟩
          · skip
            go_wp2
            go_quiet (first | (go_at_call 64; with_reducible exact specSame_q h1 _ _) | (go_at_call 64; with_reducible exact specSame_q h2 _ _))
            go_wp2
            go_ret
            exact ⟨by unfold sameT; rw [HS.out]; simp [hr, h1, h2], _, by rw [HW.out, World.drewN_drewN]⟩
      · have hrb : (r == r') = false := by simp [hr]
        go_wp2
        go_quiet (fail)
        go_wp2
        go_ret
        exact ⟨by unfold sameT; simp [hr], _, by rw [HW.out, World.drewN_drewN]⟩

theorem sameNums_q {r : Int} {s t : Nat} {F : Nat → Nat} {r' : Int} {s' t' : Nat} {F' : Nat → Nat} {v : Bool} {W : World} {B B' : Nat} (h : sameTo F F' 12 = v) (hF : ∀ i, i < 12 → F i < 2 ^ 32) (hF' : ∀ i, i < 12 → F' i < 2 ^ 32)
    (hB : W.heap[B]? = some (.cells (train r s t F) 33 (0, 0))) (hB' : W.heap[B']? = some (.cells (train r' s' t' F') 33 (0, 0))) (c c' n : Nat) :
    Calls Try.prog 48 #[.slice (some ⟨B, 3, none⟩) 12 c, .slice (some ⟨B', 3, none⟩) 12 c'] (W.drewN n) fun e w'' => e = .returned (.bool v) ∧ ∃ m, w'' = W.drewN m := by
  subst h
  refine (sameNumbers_any F F' 12 B 3 B' 3 c c' (W.drewN n) (by omega) hF hF' (fun i hi => (cell_of_row (W.drewN n) _ (3 + i) _ _ _ hB).trans (row_k3 _ _ _ _ _ hi)) (fun i hi => (cell_of_row (W.drewN n) _ (3 + i) _ _ _ hB').trans (row_k3 _ _ _ _ _ hi))).mono ?_
  rintro e w' ⟨rfl, m, rfl⟩
  exact ⟨rfl, _, by rw [World.drewN_drewN]⟩

set_option maxHeartbeats 1600000 in
theorem implSameTr_any (r : Int) (s t : Nat) (F : Nat → Nat) (r' : Int) (s' t' : Nat) (F' : Nat → Nat) (w : World) (hs : s < 2 ^ 32) (ht : t < 2 ^ 32) (hF : ∀ i, i < 12 → F i < 2 ^ 32) (hs' : s' < 2 ^ 32) (ht' : t' < 2 ^ 32) (hF' : ∀ i, i < 12 → F' i < 2 ^ 32) :
    Calls Try.prog 22 #[.agg (train r s t F), .agg (train r' s' t' F')] w fun e w' => e = .returned (.bool (sameT r s t F r' s' t' F')) ∧ Below w.heap.size w w' := by
  have hB : ((w.alloc (.cells (train r s t F) 33)).alloc (.cells (train r' s' t' F') 33)).heap[w.heap.size]? = some (.cells (train r s t F) 33 (0, 0)) := (by repeat (first | (with_reducible assumption) | ((with_reducible refine blk_new _ _ _ ?_); focus (simp; done)) | ((with_reducible refine blk_old _ _ _ ?_ ?_); focus (simp; done)) | ((with_reducible refine blk_old _ _ _ ?_ ?_); focus (first | omega | (simp; omega))) | ((with_reducible apply blk_set); focus (simp; done)) | ((with_reducible refine blk_off _ _ _ _ ?_ ?_); focus (simp; done)) | ((with_reducible refine blk_off _ _ _ _ ?_ ?_); focus (first | omega | (simp; omega))) | (with_reducible refine blk_drew _ _ ?_) | ((with_reducible refine blk_below (by assumption) ?_ ?_); focus (simp; done)) | ((with_reducible refine blk_below (by assumption) ?_ ?_); focus (first | omega | (simp; omega)))))
  have hB' : ((w.alloc (.cells (train r s t F) 33)).alloc (.cells (train r' s' t' F') 33)).heap[w.heap.size + 1]? = some (.cells (train r' s' t' F') 33 (0, 0)) := (by repeat (first | (with_reducible assumption) | ((with_reducible refine blk_new _ _ _ ?_); focus (simp; done)) | ((with_reducible refine blk_old _ _ _ ?_ ?_); focus (simp; done)) | ((with_reducible refine blk_old _ _ _ ?_ ?_); focus (first | omega | (simp; omega))) | ((with_reducible apply blk_set); focus (simp; done)) | ((with_reducible refine blk_off _ _ _ _ ?_ ?_); focus (simp; done)) | ((with_reducible refine blk_off _ _ _ _ ?_ ?_); focus (first | omega | (simp; omega))) | (with_reducible refine blk_drew _ _ ?_) | ((with_reducible refine blk_below (by assumption) ?_ ?_); focus (simp; done)) | ((with_reducible refine blk_below (by assumption) ?_ ?_); focus (first | omega | (simp; omega)))))
  have hsl := fun b w => run_sliceAt_all (P := Try.prog) w 29 22 12 b 3 Try.underlying29 (by kernel_rfl)
  by_cases hr : r = r'
  · subst hr
    cases h1 : sameN s s'
    · go_enter Try.func22, Try.ntmps22
      go_wp2
      go_quiet ((go_at_call 47; with_reducible exact implSame_q h1 hs hs' _ _))
      go_wp2
      go_ret
      exact ⟨by unfold sameT; simp [h1], bel_drewN _ (by repeat (first | (with_reducible assumption) | (with_reducible exact Below.refl _ _) | ((with_reducible refine bel_alloc _ ?_ ?_); focus (first | omega | (simp; done) | (simp; omega))) | ((with_reducible refine bel_row _ ?_ ?_); focus (first | omega | (simp; done) | (simp; omega))) | ((with_reducible refine bel_cell _ ?_ ?_); focus (first | omega | (simp; done) | (simp; omega))) | (with_reducible refine Below.drew ?_) | (with_reducible refine below_wideW _ ?_) | ((with_reducible refine bel_next (by assumption) ?_ ?_); focus (first | omega | (simp; done) | (simp; omega)))))⟩
    · cases h2 : sameN t t'
      · go_enter Try.func22, Try.ntmps22
        go_wp2
        go_quiet (first | (go_at_call 47; with_reducible exact implSame_q h1 hs hs' _ _) | (go_at_call 47; with_reducible exact implSame_q h2 ht ht' _ _))
        go_wp2
        go_ret
        exact ⟨by unfold sameT; simp [h1, h2], bel_drewN _ (by repeat (first | (with_reducible assumption) | (with_reducible exact Below.refl _ _) | ((with_reducible refine bel_alloc _ ?_ ?_); focus (first | omega | (simp; done) | (simp; omega))) | ((with_reducible refine bel_row _ ?_ ?_); focus (first | omega | (simp; done) | (simp; omega))) | ((with_reducible refine bel_cell _ ?_ ?_); focus (first | omega | (simp; done) | (simp; omega))) | (with_reducible refine Below.drew ?_) | (with_reducible refine below_wideW _ ?_) | ((with_reducible refine bel_next (by assumption) ?_ ?_); focus (first | omega | (simp; done) | (simp; omega)))))⟩
      · cases h3 : sameTo F F' 12
        · go_enter Try.func22, Try.ntmps22
          go_wp2
          go_quiet (first | (go_at_call 47; with_reducible exact implSame_q h1 hs hs' _ _) | (go_at_call 47; with_reducible exact implSame_q h2 ht ht' _ _) | (go_at_call 48; with_reducible exact sameNums_q h3 hF hF' hB hB' _ _ _))
          go_wp2
          go_ret
          exact ⟨by unfold sameT; simp [h1, h2, h3], bel_drewN _ (by repeat (first | (with_reducible assumption) | (with_reducible exact Below.refl _ _) | ((with_reducible refine bel_alloc _ ?_ ?_); focus (first | omega | (simp; done) | (simp; omega))) | ((with_reducible refine bel_row _ ?_ ?_); focus (first | omega | (simp; done) | (simp; omega))) | ((with_reducible refine bel_cell _ ?_ ?_); focus (first | omega | (simp; done) | (simp; omega))) | (with_reducible refine Below.drew ?_) | (with_reducible refine below_wideW _ ?_) | ((with_reducible refine bel_next (by assumption) ?_ ?_); focus (first | omega | (simp; done) | (simp; omega)))))⟩
        · go_enter Try.func22, Try.ntmps22
          go_wp2
          go_quiet (first | (go_at_call 47; with_reducible exact implSame_q h1 hs hs' _ _) | (go_at_call 47; with_reducible exact implSame_q h2 ht ht' _ _) | (go_at_call 48; with_reducible exact sameNums_q h3 hF hF' hB hB' _ _ _))
          go_wp2
          go_ret
          exact ⟨by unfold sameT; simp [h1, h2, h3], bel_drewN _ (by repeat (first | (with_reducible assumption) | (with_reducible exact Below.refl _ _) | ((with_reducible refine bel_alloc _ ?_ ?_); focus (first | omega | (simp; done) | (simp; omega))) | ((with_reducible refine bel_row _ ?_ ?_); focus (first | omega | (simp; done) | (simp; omega))) | ((with_reducible refine bel_cell _ ?_ ?_); focus (first | omega | (simp; done) | (simp; omega))) | (with_reducible refine Below.drew ?_) | (with_reducible refine below_wideW _ ?_) | ((with_reducible refine bel_next (by assumption) ?_ ?_); focus (first | omega | (simp; done) | (simp; omega)))))⟩
  · have hrb : (r == r') = false := by simp [hr]
    go_enter Try.func22, Try.ntmps22
    go_wp2
    go_quiet (fail)
    go_wp2
    go_ret
    exact ⟨by unfold sameT; simp [hr], bel_drewN _ (by repeat (first | (with_reducible assumption) | (with_reducible exact Below.refl _ _) | ((with_reducible refine bel_alloc _ ?_ ?_); focus (first | omega | (simp; done) | (simp; omega))) | ((with_reducible refine bel_row _ ?_ ?_); focus (first | omega | (simp; done) | (simp; omega))) | ((with_reducible refine bel_cell _ ?_ ?_); focus (first | omega | (simp; done) | (simp; omega))) | (with_reducible refine Below.drew ?_) | (with_reducible refine below_wideW _ ?_) | ((with_reducible refine bel_next (by assumption) ?_ ?_); focus (first | omega | (simp; done) | (simp; omega)))))⟩
end Go.Proofs.Ytjlbnlghpecanaa
