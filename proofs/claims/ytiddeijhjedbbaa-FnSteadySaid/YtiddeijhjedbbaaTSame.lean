/- Contracts of SameTrain, the reference's and the program's, and the law on it. -/
import Derived.Test.YtiddeijhjedbbaaTMap
set_option linter.unusedVariables false
set_option linter.unusedSimpArgs false
namespace Go.Proofs.Ytiddeijhjedbbaa
open Go.RowKit Ieee

def sameTo (F G : Nat → Nat) : Nat → Bool
  | 0 => true
  | k + 1 => sameTo F G k && sameN (F k) (G k)
theorem sameTo_no {F G : Nat → Nat} {k n : Nat} (hk : k < n) (h : sameN (F k) (G k) = false) : sameTo F G n = false := by
  induction n with
  | zero => omega
  | succ n ih =>
    by_cases e : k = n
    · subst e; simp [sameTo, h]
    · simp [sameTo, ih (by omega)]

theorem specSame_q {a b : Nat} {v : Bool} (h : sameN a b = v) (w : World) (n : Nat) : Calls Try.prog 56 #[.float .f32 a, .float .f32 b] (w.drewN n) fun e w' => e = .returned (.bool v) ∧ ∃ m, w' = w.drewN m := by
  subst h
  exact quiet_same (specSame_any a b _)

def sameT (r : Int) (s t : Nat) (F : Nat → Nat) (r' : Int) (s' t' : Nat) (F' : Nat → Nat) : Bool := (r == r') && (sameN s s' && (sameN t t' && sameTo F F' 12))

set_option maxHeartbeats 1600000 in
theorem specSameTr_any (r : Int) (s t : Nat) (F : Nat → Nat) (r' : Int) (s' t' : Nat) (F' : Nat → Nat) (w : World) (hs : s < 2 ^ 32) (ht : t < 2 ^ 32) (hF : ∀ i, i < 12 → F i < 2 ^ 32) (hs' : s' < 2 ^ 32) (ht' : t' < 2 ^ 32) (hF' : ∀ i, i < 12 → F' i < 2 ^ 32) (B B' : Nat) (hB : w.heap[B]? = some (.cells (train r s t F) 28 (0, 0))) (hB' : w.heap[B']? = some (.cells (train r' s' t' F') 28 (0, 0))) :
    Calls Try.prog 44 #[.pointer (some ⟨B, 0, none⟩), .pointer (some ⟨B', 0, none⟩)] w fun e w' => e = .returned (.bool (sameT r s t F r' s' t' F')) ∧ ∃ m, w' = w.drewN m := by
  have HB := Lib.hid hB
  have HB' := Lib.hid hB'
  clear hB hB'
  go_enter Try.func44, Try.ntmps44
  go_wp2
  go_loopw [5] (fun i wr => ∃ k m : Nat, k ≤ 12 ∧ i = .int .i64 k ∧ sameTo F F' k = true ∧ wr = w.drewN m) (fun i _ => 12 - (intOf i).toNat)
  case atStart => exact ⟨0, 0, by omega, rfl, rfl, rfl⟩
  case round =>
    obtain ⟨k, m, hk, rfl, hsm, hwr⟩ := hrel
    have HW := Lib.hid hwr
    have HS := Lib.hid hsm
    clear hsm
    by_cases hlt : k < 12
    · have ca : wr.cell? ⟨B, 3 + k, none⟩ = some (.float .f32 (F k)) := by rw [hwr]; exact (cell_of_row w _ (3 + k) _ _ _ HB.out).trans (row_k3 _ _ _ _ _ hlt)
      have cb : wr.cell? ⟨B', 3 + k, none⟩ = some (.float .f32 (F' k)) := by rw [hwr]; exact (cell_of_row w _ (3 + k) _ _ _ HB'.out).trans (row_k3 _ _ _ _ _ hlt)
      clear hwr
      cases hk2 : sameN (F k) (F' k)
      · go_wp2
        go_quiet ((go_at_call 56; with_reducible exact specSame_q hk2 _ _))
        go_wp2
        go_ret
        exact ⟨by unfold sameT; rw [sameTo_no hlt hk2]; simp, _, by rw [HW.out, World.drewN_drewN]⟩
      · go_wp2
        go_quiet ((go_at_call 56; with_reducible exact specSame_q hk2 _ _))
        go_wp2
        go_roundw
        case rel => exact ⟨k + 1, _, by omega, by go_num, by simp [sameTo, HS.out, hk2], by rw [HW.out, World.drewN_drewN]⟩
        case measure => simp [intOf]; omega
    · obtain rfl : k = 12 := by omega
      have d0 : wr.cell? ⟨B, 0, none⟩ = some (.int .i8 r) := by rw [hwr]; exact (cell_of_row w _ 0 _ _ _ HB.out).trans (row_g0 _ _ _ _)
      have d1 : wr.cell? ⟨B, 1, none⟩ = some (.float .f32 s) := by rw [hwr]; exact (cell_of_row w _ 1 _ _ _ HB.out).trans (row_g1 _ _ _ _ _)
      have d2 : wr.cell? ⟨B, 2, none⟩ = some (.float .f32 t) := by rw [hwr]; exact (cell_of_row w _ 2 _ _ _ HB.out).trans (row_g2 _ _ _ _ _ _)
      have e0 : wr.cell? ⟨B', 0, none⟩ = some (.int .i8 r') := by rw [hwr]; exact (cell_of_row w _ 0 _ _ _ HB'.out).trans (row_g0 _ _ _ _)
      have e1 : wr.cell? ⟨B', 1, none⟩ = some (.float .f32 s') := by rw [hwr]; exact (cell_of_row w _ 1 _ _ _ HB'.out).trans (row_g1 _ _ _ _ _)
      have e2 : wr.cell? ⟨B', 2, none⟩ = some (.float .f32 t') := by rw [hwr]; exact (cell_of_row w _ 2 _ _ _ HB'.out).trans (row_g2 _ _ _ _ _ _)
      clear hwr
      by_cases hr : r = r'
      · cases h1 : sameN s s'
        · have h2 := h1
          go_wp2
          go_quiet (first | (go_at_call 56; with_reducible exact specSame_q h1 _ _) | (go_at_call 56; with_reducible exact specSame_q h2 _ _))
          go_wp2
          go_ret
          exact ⟨by unfold sameT; rw [HS.out]; simp [h1], _, by rw [HW.out, World.drewN_drewN]⟩
        · cases h2 : sameN t t'
          · skip
            go_wp2
            go_quiet (first | (go_at_call 56; with_reducible exact specSame_q h1 _ _) | (go_at_call 56; with_reducible exact specSame_q h2 _ _))
            go_wp2
            go_ret
            exact ⟨by unfold sameT; rw [HS.out]; simp [h1, h2], _, by rw [HW.out, World.drewN_drewN]⟩
          · skip
            go_wp2
            go_quiet (first | (go_at_call 56; with_reducible exact specSame_q h1 _ _) | (go_at_call 56; with_reducible exact specSame_q h2 _ _))
            go_wp2
            go_ret
            exact ⟨by unfold sameT; rw [HS.out]; simp [hr, h1, h2], _, by rw [HW.out, World.drewN_drewN]⟩
      · have hrb : (r == r') = false := by simp [hr]
        go_wp2
        go_quiet (fail)
        go_wp2
        go_ret
        exact ⟨by unfold sameT; simp [hr], _, by rw [HW.out, World.drewN_drewN]⟩

end Go.Proofs.Ytiddeijhjedbbaa
