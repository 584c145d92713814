/- Parts of a proof, merged; each under its own premises. -/
import Derived.Test.YtkokekndiammpaaGreatDoorPF
import Derived.Test.YtkokekndiammpaaGreatDoorPB
import Derived.Test.YtkokekndiammpaaGreatDoorPE
import Derived.StillTailTactics
import Derived.Laws.CopyOwn

/-! Contracts of SameTrain, the reference's, of numbers of any size; each under its own premises. -/
set_option linter.unusedVariables false
set_option linter.unusedSimpArgs false
namespace Go.Proofs.YtkokekndiammpaaGreatDoor
open Go.RowKit Ieee
set_option maxHeartbeats 1600000 in
theorem specSameTr0_any (r : Int) (s t : Nat) (F : Nat → Nat) (r' : Int) (s' t' : Nat) (F' : Nat → Nat) (w : World) (B B' : Nat) (hB : w.heap[B]? = some (.cells (train r s t F) 28 (0, 0))) (hB' : w.heap[B']? = some (.cells (train r' s' t' F') 28 (0, 0))) :
    Calls Tryz.prog 41 #[.pointer (some ⟨B, 0, none⟩), .pointer (some ⟨B', 0, none⟩)] w fun e w' => e = .returned (.bool (sameT r s t F r' s' t' F')) ∧ ∃ m, w' = w.drewN m := by
  have HB := Lib.hid hB
  have HB' := Lib.hid hB'
  clear hB hB'
  go_enter Tryz.func41, Tryz.ntmps41
  go_wp2
  go_loopw [5] (fun i wr => ∃ k m : Nat, k ≤ 12 ∧ i = .int .i64 k ∧ sameTo F F' k = true ∧ wr = w.drewN m) (fun i _ => 12 - (intOf i).toNat)
  case atStart => exact ⟨0, 0, by omega, rfl, rfl, rfl⟩
  case round =>
    obtain ⟨k, m, hk, rfl, hsm, hwr⟩ := hrel
    have HW := Lib.hid hwr
    have HS := Lib.hid hsm
    clear hsm
    by_cases hlt : k < 12
    · have ca : wr.cell? ⟨B, 3 + k, none⟩ = some (.float .f32 (F k)) := by rw [hwr]; exact (cell_of_row w _ (3 + k) _ _ _ HB.out).trans (row_k3 _ _ _ _ _ hlt)
      have cb : wr.cell? ⟨B', 3 + k, none⟩ = some (.float .f32 (F' k)) := by rw [hwr]; exact (cell_of_row w _ (3 + k) _ _ _ HB'.out).trans (row_k3 _ _ _ _ _ hlt)
      clear hwr
      cases hk2 : sameN (F k) (F' k)
      · go_wp2
        go_quiet ((go_at_call 44; with_reducible exact specSame_q hk2 _ _))
        go_wp2
        go_ret
        exact ⟨by unfold sameT; rw [sameTo_no hlt hk2]; simp, _, by rw [HW.out, World.drewN_drewN]⟩
      · go_wp2
        go_quiet ((go_at_call 44; with_reducible exact specSame_q hk2 _ _))
        go_wp2
        go_roundw
        case rel => exact ⟨k + 1, _, by omega, by go_num, by simp [sameTo, HS.out, hk2], by rw [HW.out, World.drewN_drewN]⟩
        case measure => simp [intOf]; omega
    · obtain rfl : k = 12 := by omega
      have d0 : wr.cell? ⟨B, 0, none⟩ = some (.int .i8 r) := by rw [hwr]; exact (cell_of_row w _ 0 _ _ _ HB.out).trans (row_g0 _ _ _ _)
      have d1 : wr.cell? ⟨B, 1, none⟩ = some (.float .f32 s) := by rw [hwr]; exact (cell_of_row w _ 1 _ _ _ HB.out).trans (row_g1 _ _ _ _ _)
      have d2 : wr.cell? ⟨B, 2, none⟩ = some (.float .f32 t) := by rw [hwr]; exact (cell_of_row w _ 2 _ _ _ HB.out).trans (row_g2 _ _ _ _ _ _)
      have e0 : wr.cell? ⟨B', 0, none⟩ = some (.int .i8 r') := by rw [hwr]; exact (cell_of_row w _ 0 _ _ _ HB'.out).trans (row_g0 _ _ _ _)
      have e1 : wr.cell? ⟨B', 1, none⟩ = some (.float .f32 s') := by rw [hwr]; exact (cell_of_row w _ 1 _ _ _ HB'.out).trans (row_g1 _ _ _ _ _)
      have e2 : wr.cell? ⟨B', 2, none⟩ = some (.float .f32 t') := by rw [hwr]; exact (cell_of_row w _ 2 _ _ _ HB'.out).trans (row_g2 _ _ _ _ _ _)
      clear hwr
      by_cases hr : r = r'
      · cases h1 : sameN s s'
        · have h2 := h1
          go_wp2
          go_quiet (first | (go_at_call 44; with_reducible exact specSame_q h1 _ _) | (go_at_call 44; with_reducible exact specSame_q h2 _ _))
          go_wp2
          go_ret
          exact ⟨by unfold sameT; rw [HS.out]; simp [h1], _, by rw [HW.out, World.drewN_drewN]⟩
        · cases h2 : sameN t t'
          · skip
            go_wp2
            go_quiet (first | (go_at_call 44; with_reducible exact specSame_q h1 _ _) | (go_at_call 44; with_reducible exact specSame_q h2 _ _))
            go_wp2
            go_ret
            exact ⟨by unfold sameT; rw [HS.out]; simp [h1, h2], _, by rw [HW.out, World.drewN_drewN]⟩
          · skip
            go_wp2
            go_quiet (first | (go_at_call 44; with_reducible exact specSame_q h1 _ _) | (go_at_call 44; with_reducible exact specSame_q h2 _ _))
            go_wp2
            go_ret
            exact ⟨by unfold sameT; rw [HS.out]; simp [hr, h1, h2], _, by rw [HW.out, World.drewN_drewN]⟩
      · have hrb : (r == r') = false := by simp [hr]
        go_wp2
        go_quiet (fail)
        go_wp2
        go_ret
        exact ⟨by unfold sameT; simp [hr], _, by rw [HW.out, World.drewN_drewN]⟩

theorem specSameT0_any (r : Int) (s t : Nat) (F : Nat → Nat) (r' : Int) (s' t' : Nat) (F' : Nat → Nat) (w : World) : Calls Tryz.prog 17 #[.agg (train r s t F), .agg (train r' s' t' F')] w fun e w' => e = .returned (.bool (sameT r s t F r' s' t' F')) ∧ Below w.heap.size w w' := by
  have hB : ((w.alloc (.cells (train r s t F) 28)).alloc (.cells (train r' s' t' F') 28)).heap[w.heap.size]? = some (.cells (train r s t F) 28 (0, 0)) := (by repeat (first | (with_reducible assumption) | ((with_reducible refine blk_new _ _ _ ?_); focus (simp; done)) | ((with_reducible refine blk_old _ _ _ ?_ ?_); focus (simp; done)) | ((with_reducible refine blk_old _ _ _ ?_ ?_); focus (first | omega | (simp; omega))) | ((with_reducible apply blk_set); focus (simp; done)) | ((with_reducible refine blk_off _ _ _ _ ?_ ?_); focus (simp; done)) | ((with_reducible refine blk_off _ _ _ _ ?_ ?_); focus (first | omega | (simp; omega))) | (with_reducible refine blk_drew _ _ ?_) | ((with_reducible refine blk_below (by assumption) ?_ ?_); focus (simp; done)) | ((with_reducible refine blk_below (by assumption) ?_ ?_); focus (first | omega | (simp; omega)))))
  have hB' : ((w.alloc (.cells (train r s t F) 28)).alloc (.cells (train r' s' t' F') 28)).heap[w.heap.size + 1]? = some (.cells (train r' s' t' F') 28 (0, 0)) := (by repeat (first | (with_reducible assumption) | ((with_reducible refine blk_new _ _ _ ?_); focus (simp; done)) | ((with_reducible refine blk_old _ _ _ ?_ ?_); focus (simp; done)) | ((with_reducible refine blk_old _ _ _ ?_ ?_); focus (first | omega | (simp; omega))) | ((with_reducible apply blk_set); focus (simp; done)) | ((with_reducible refine blk_off _ _ _ _ ?_ ?_); focus (simp; done)) | ((with_reducible refine blk_off _ _ _ _ ?_ ?_); focus (first | omega | (simp; omega))) | (with_reducible refine blk_drew _ _ ?_) | ((with_reducible refine blk_below (by assumption) ?_ ?_); focus (simp; done)) | ((with_reducible refine blk_below (by assumption) ?_ ?_); focus (first | omega | (simp; omega)))))
  go_enter Tryz.func17, Tryz.ntmps17
  go_wp2_with (go_at_call 41; (with_reducible refine (specSameTr0_any r s t F r' s' t' F' _ _ _ hB hB').mono ?_); rintro e w' ⟨rfl, m, rfl⟩)
  go_ret
  exact ⟨rfl, bel_drewN _ (by repeat (first | (with_reducible assumption) | (with_reducible exact Below.refl _ _) | ((with_reducible refine bel_alloc _ ?_ ?_); focus (first | omega | (simp; done) | (simp; omega))) | ((with_reducible refine bel_row _ ?_ ?_); focus (first | omega | (simp; done) | (simp; omega))) | ((with_reducible refine bel_cell _ ?_ ?_); focus (first | omega | (simp; done) | (simp; omega))) | (with_reducible refine Below.drew ?_) | (with_reducible refine below_wideW _ ?_) | ((with_reducible refine bel_next (by assumption) ?_ ?_); focus (first | omega | (simp; done) | (simp; omega)))))⟩

theorem sameN_self (a : Nat) : sameN a a = true := by
  unfold sameN
  split
  · rename_i h
    have : Flt.NaN Ieee.single a := by rcases h with h | h <;> exact h
    simp [this]
  · simp
theorem sameTo_eq {F G : Nat → Nat} : ∀ n, (∀ i, i < n → F i = G i) → sameTo F G n = true
  | 0, _ => rfl
  | n + 1, h => by
    show (sameTo F G n && sameN (F n) (G n)) = true
    rw [sameTo_eq n (fun i hi => h i (by omega)), h n (by omega), sameN_self]
    rfl
theorem sameT_eq {r : Int} {s t : Nat} {F G : Nat → Nat} (h : ∀ i, i < 12 → F i = G i) : sameT r s t F r s t G = true := by
  unfold sameT
  rw [sameN_self, sameN_self, sameTo_eq 12 h]
  simp
end Go.Proofs.YtkokekndiammpaaGreatDoor

/-! Contracts of the draw of a train, and of A2Train, A2Film and A2Part; each under its own premises. -/
set_option linter.unusedVariables false
set_option linter.unusedSimpArgs false
namespace Go.Proofs.YtkokekndiammpaaGreatDoor
open Go.RowKit Ieee

theorem bytes_below {b : Nat} {w w1 : World} {ao : Option Addr} {n : Nat} (h : Below b w w1) (hb : BytesAt w b ao n) : BytesAt w1 b ao n := by
  refine ⟨hb.1, fun hn => ?_⟩
  obtain ⟨a, ha, hlt, hx⟩ := hb.2 hn
  refine ⟨a, ha, hlt, fun i hi => ?_⟩
  obtain ⟨x, h1, h2⟩ := hx i hi
  refine ⟨x, ?_, h2⟩
  rw [h.cell (p := a.add i) (by rw [show (a.add i).block = a.block from by unfold Addr.add; split <;> rfl]; exact hlt)]
  exact h1
theorem small_zero : Small 0 := ⟨by decide, by rw [Z_zero]; decide, by rw [Z_zero, Z_eight]; decide⟩
theorem small_upd {F : Nat → Nat} {k v : Nat} (h : ∀ i : Nat, i < 12 → Small (F i)) (hv : Small v) : ∀ i : Nat, i < 12 → Small (upd F k v i) := fun i hi => by
  unfold upd
  split
  · exact hv
  · exact h i hi

end Go.Proofs.YtkokekndiammpaaGreatDoor

/-! Contracts of A2Train, A2Film, A2Part and of the test for too many bytes; each under its own premises. -/
set_option linter.unusedVariables false
set_option linter.unusedSimpArgs false
namespace Go.Proofs.YtkokekndiammpaaGreatDoor
open Go.RowKit Ieee

theorem bytes_wide {b b' : Nat} {w : World} {ao : Option Addr} {n : Nat} (hb : BytesAt w b ao n) (h : b ≤ b') : BytesAt w b' ao n := by
  refine ⟨hb.1, fun hn => ?_⟩
  obtain ⟨a, ha, hlt, hx⟩ := hb.2 hn
  exact ⟨a, ha, by omega, hx⟩
theorem from_any (ao : Option Addr) (n cap : Nat) (w : World) : Calls Tryz.prog 25 #[.slice ao n cap] w fun e w' => e = .returned (.pointer (some ⟨w.heap.size, 0, none⟩)) ∧ w' = w.alloc (.cells #[.slice ao n cap, .int .i64 0, .int .u64 0] 81) := by
  go_enter Tryz.func25, Tryz.ntmps25
  go_wp2
  go_ret
  exact ⟨rfl, rfl⟩

theorem a2film_any (ao : Option Addr) (n cap : Nat) (w : World) (hb : BytesAt w w.heap.size ao n) : Calls Tryz.prog 6 #[.slice ao n cap] w fun e w' => ∃ v : Nat, e = .returned (.float .f32 v) ∧ Small v ∧ Below w.heap.size w w' := by
  go_enter Tryz.func6, Tryz.ntmps6
  go_wp2_with (go_at_call 25; (with_reducible refine (from_any ao n cap _).mono ?_); rintro e w' ⟨rfl, rfl⟩)
  refine (thick_any w.heap.size 0 ao n cap _ (by omega) ⟨0, 0, Nat.le_refl _, blk_new _ _ _ rfl⟩ (bytes_below (by repeat (first | (with_reducible assumption) | (with_reducible exact Below.refl _ _) | ((with_reducible refine bel_alloc _ ?_ ?_); focus (first | omega | (simp; done) | (simp; omega))) | ((with_reducible refine bel_row _ ?_ ?_); focus (first | omega | (simp; done) | (simp; omega))) | ((with_reducible refine bel_cell _ ?_ ?_); focus (first | omega | (simp; done) | (simp; omega))) | (with_reducible refine Below.drew ?_) | (with_reducible refine below_wideW _ ?_) | ((with_reducible refine bel_next (by assumption) ?_ ?_); focus (first | omega | (simp; done) | (simp; omega))))) hb)).mono ?_
  rintro e w1 ⟨v, rfl, hv, _, hm⟩
  go_wp2
  go_ret
  exact ⟨v, rfl, hv, Below.trans (by repeat (first | (with_reducible assumption) | (with_reducible exact Below.refl _ _) | ((with_reducible refine bel_alloc _ ?_ ?_); focus (first | omega | (simp; done) | (simp; omega))) | ((with_reducible refine bel_row _ ?_ ?_); focus (first | omega | (simp; done) | (simp; omega))) | ((with_reducible refine bel_cell _ ?_ ?_); focus (first | omega | (simp; done) | (simp; omega))) | (with_reducible refine Below.drew ?_) | (with_reducible refine below_wideW _ ?_) | ((with_reducible refine bel_next (by assumption) ?_ ?_); focus (first | omega | (simp; done) | (simp; omega))))) hm.1⟩

theorem a2part_any (ao : Option Addr) (n cap : Nat) (w : World) (hb : BytesAt w w.heap.size ao n) : Calls Tryz.prog 7 #[.slice ao n cap] w fun e w' => ∃ v : Nat, e = .returned (.float .f32 v) ∧ partB v = true ∧ Below w.heap.size w w' := by
  go_enter Tryz.func7, Tryz.ntmps7
  go_wp2_with (go_at_call 25; (with_reducible refine (from_any ao n cap _).mono ?_); rintro e w' ⟨rfl, rfl⟩)
  refine (tone_any w.heap.size 0 ao n cap _ (by omega) ⟨0, 0, Nat.le_refl _, blk_new _ _ _ rfl⟩ (bytes_below (by repeat (first | (with_reducible assumption) | (with_reducible exact Below.refl _ _) | ((with_reducible refine bel_alloc _ ?_ ?_); focus (first | omega | (simp; done) | (simp; omega))) | ((with_reducible refine bel_row _ ?_ ?_); focus (first | omega | (simp; done) | (simp; omega))) | ((with_reducible refine bel_cell _ ?_ ?_); focus (first | omega | (simp; done) | (simp; omega))) | (with_reducible refine Below.drew ?_) | (with_reducible refine below_wideW _ ?_) | ((with_reducible refine bel_next (by assumption) ?_ ?_); focus (first | omega | (simp; done) | (simp; omega))))) hb)).mono ?_
  rintro e w1 ⟨v, rfl, hv, _, hm⟩
  go_wp2
  go_ret
  exact ⟨v, rfl, hv, Below.trans (by repeat (first | (with_reducible assumption) | (with_reducible exact Below.refl _ _) | ((with_reducible refine bel_alloc _ ?_ ?_); focus (first | omega | (simp; done) | (simp; omega))) | ((with_reducible refine bel_row _ ?_ ?_); focus (first | omega | (simp; done) | (simp; omega))) | ((with_reducible refine bel_cell _ ?_ ?_); focus (first | omega | (simp; done) | (simp; omega))) | (with_reducible refine Below.drew ?_) | (with_reducible refine below_wideW _ ?_) | ((with_reducible refine bel_next (by assumption) ?_ ?_); focus (first | omega | (simp; done) | (simp; omega))))) hm.1⟩

theorem a2Long_any (ao ao' : Option Addr) (n cap n' cap' : Nat) (w : World) (h1 : n ≤ maxLen) (h2 : n' ≤ maxLen) : Calls Tryz.prog 4 #[.slice ao n cap, .slice ao' n' cap'] w fun e w' => e = .returned (.bool (decide (3000 < n) || decide (3000 < n'))) ∧ w = w' := by
  by_cases hn : 3000 < n
  · go_enter Tryz.func4, Tryz.ntmps4
    go_wp2
    go_ret
    exact ⟨by simp [hn], rfl⟩
  · by_cases hm : 3000 < n'
    · go_enter Tryz.func4, Tryz.ntmps4
      go_wp2
      go_ret
      exact ⟨by simp [hm]; omega, rfl⟩
    · go_enter Tryz.func4, Tryz.ntmps4
      go_wp2
      go_ret
      exact ⟨by simp [hn, hm]; omega, rfl⟩
end Go.Proofs.YtkokekndiammpaaGreatDoor

/-! Contracts of what FnSteady calls, of trains of small films; each under its own premises. -/
set_option linter.unusedVariables false
set_option linter.unusedSimpArgs false
namespace Go.Proofs.YtkokekndiammpaaGreatDoor
open Go.RowKit Ieee

theorem sameS {r : Int} {s t : Nat} {F G : Nat → Nat} (h : ∀ i, i < 12 → F i = G i) (w : World) : Calls Tryz.prog 17 #[.agg (train r s t F), .agg (train r s t G)] w fun e w' => e = .returned (.bool true) ∧ Below w.heap.size w w' := by
  have := specSameT0_any r s t F r s t G w
  rwa [sameT_eq h] at this
theorem size_abs {v wi : Nat} (hv : ¬ Flt.NaN single v) (hw : ¬ Flt.NaN single wi) : leF (sizeS v) wi = leF (absN v) wi := by
  unfold sizeS
  cases hc : (FloatKind.f32.format.order v 0 == some .lt)
  · have hz : 0 ≤ Z32 v := by
      rw [order_Z hv (by decide)] at hc
      rcases Int.lt_trichotomy (Z32 v) 0 with h | h | h
      · rw [show Z32 0 = 0 from Z_zero, Int.compare_eq_lt.2 h] at hc; simp at hc
      · omega
      · omega
    have h1 := leF_iff (a := v) hw
    have h2 := leF_iff (a := absN v) hw
    rw [abs_Z_pos hz] at h2
    have hn := absN_num hv
    simp only [Bool.false_eq_true, if_false]
    cases h3 : leF v wi <;> cases h4 : leF (absN v) wi <;> simp_all <;> omega
  · simp
theorem near_q {a b wi : Nat} {v : Bool} (ha : Fin32 a) (hb : Fin32 b) (hd : Fin32 (fsub a b)) (hw : ¬ Flt.NaN single wi) (h : leF (absN (fsub a b)) wi = v) (w : World) (n : Nat) :
    Calls Tryz.prog 21 #[.float .f32 a, .float .f32 b, .float .f32 wi] (w.drewN n) fun e w' => e = .returned (.bool v) ∧ ∃ m, w' = w.drewN m := by
  have e1 := fun w => run_fsub (P := Tryz.prog) w 25 ha hb
  have hn := fin_nan hd
  have hl := fsub_lt ha hb
  rw [← size_abs hn hw] at h
  unfold leF at h
  go_enter Tryz.func21, Tryz.ntmps21
  go_wp2_with (fail)
  refine (specSize_q hn hl w n).mono ?_
  rintro e w1 ⟨rfl, m, rfl⟩
  go_wp2
  go_ret
  exact ⟨by simp, m, rfl⟩
section
variable {r : Int} {s t : Nat} {F : Nat → Nat} {fed cov : Nat} (hS : SmallT r s t F)
include hS
theorem SmallT.lo : -128 ≤ r := by have := hS.h2; omega
theorem SmallT.hi : r ≤ 127 := by have := hS.h6; omega
theorem SmallT.ok : trainB r s t F = true := by
  refine trainB_of hS.h2 (by have := hS.h6; omega) hS.hs hS.ht (fun i hi => ⟨(hS.hF i (by have := hS.h6; omega)).1, (hS.hF i (by have := hS.h6; omega)).2.1⟩) ?_ (fun i hi hr => by rw [hS.hz i hi hr]; decide)
  have h2 := hS.h2
  have h6 := hS.h6
  have s1 := small_sum (n := r.toNat) (F := F) (fun i hi => hS.hF i (by omega)) r.toNat (Nat.le_refl _)
  have s2 : (r.toNat : Int) * 2 ^ 152 ≤ 6 * 2 ^ 152 := Int.mul_le_mul_of_nonneg_right (by omega) (by decide)
  unfold lid
  omega
end
end Go.Proofs.YtkokekndiammpaaGreatDoor

/-! More that is true of trains of small films: the thickest roller, washed films, halves between two films, the lesser and the greater of two; each under its own premises. -/
set_option linter.unusedVariables false
set_option linter.unusedSimpArgs false
namespace Go.Proofs.YtkokekndiammpaaGreatDoor
open Go.RowKit Ieee

/-! ### the thickest roller -/
/-! ### halves -/
/-! ### the lesser and the greater of two -/
section
variable {P : Program}
end
theorem sameNum_any (a : Nat) (w : World) : Calls Tryz.prog 19 #[.float .f32 a, .float .f32 a] w fun e w' => e = .returned (.bool true) ∧ w = w' := by
  have h := fun w => specSame_any (a := a) (b := a) (w := w)
  rw [sameN_self] at h
  go_enter Tryz.func19, Tryz.ntmps19
  go_wp2_with (fail)
  refine (h _).mono ?_
  rintro e w1 ⟨rfl, rfl⟩
  go_wp2
  go_ret
  exact ⟨rfl, rfl⟩
end Go.Proofs.YtkokekndiammpaaGreatDoor

/-! Ink that is fed is printed or kept, nearly: sums of errors over at most nineteen turns of small films; each under its own premises. -/
set_option linter.unusedVariables false
set_option linter.unusedSimpArgs false
namespace Go.Proofs.YtkokekndiammpaaGreatDoor
open Go.RowKit Ieee

def dlt : Int := 2 ^ 132
def lim : Int := 2 ^ 157
theorem add_two {a b : Nat} (ha : Fin32 a) (hb : Fin32 b) (a0 : 0 ≤ Z32 a) (b0 : 0 ≤ Z32 b) (hl : Z32 a + Z32 b < lim) : Fin32 (fadd a b) ∧ 0 ≤ Z32 (fadd a b) ∧ Z32 (fadd a b) - (Z32 a + Z32 b) ≤ dlt ∧ (Z32 a + Z32 b) - Z32 (fadd a b) ≤ dlt := by
  unfold lim at hl
  obtain ⟨h1, h2, _⟩ := add_sum ha hb a0 b0 (by unfold lid; omega)
  obtain ⟨e1, e2⟩ := fadd_err (t := 133) (by omega) ha hb (by omega)
  unfold dlt
  exact ⟨h1, h2, by omega, by omega⟩
theorem sub_two {a b : Nat} (ha : Fin32 a) (hb : Fin32 b) (b0 : 0 ≤ Z32 b) (hab : Z32 b ≤ Z32 a) (hl : Z32 a < lim) : Fin32 (fsub a b) ∧ 0 ≤ Z32 (fsub a b) ∧ Z32 (fsub a b) - (Z32 a - Z32 b) ≤ dlt ∧ (Z32 a - Z32 b) - Z32 (fsub a b) ≤ dlt := by
  unfold lim at hl
  obtain ⟨h1, h2, _, _⟩ := sub_sum ha hb b0 hab (by unfold lid; omega)
  obtain ⟨e1, e2⟩ := fsub_err (t := 133) (by omega) ha hb (by omega)
  unfold dlt
  exact ⟨h1, h2, by omega, by omega⟩
theorem half_two {a b : Nat} (ha : Fin32 a) (hb : Fin32 b) (a0 : 0 ≤ Z32 a) (b0 : 0 ≤ Z32 b) (hl : Z32 a + Z32 b + dlt < lim) : Fin32 (halfF a b) ∧ 0 ≤ Z32 (halfF a b) ∧ 2 * Z32 (halfF a b) - (Z32 a + Z32 b) ≤ 5 * dlt ∧ (Z32 a + Z32 b) - 2 * Z32 (halfF a b) ≤ 5 * dlt := by
  have hd : dlt = 2 ^ 132 := rfl
  have hm : lim = 2 ^ 157 := rfl
  obtain ⟨s1, s2, s3, s4⟩ := add_two ha hb a0 b0 (by omega)
  obtain ⟨h1, h2, _⟩ := half_sum ha hb a0 b0 (by unfold lid; omega)
  obtain ⟨z, hz⟩ : ∃ z : Nat, (z : Int) = Z32 (fadd a b) := ⟨(Z32 (fadd a b)).toNat, by omega⟩
  have hz2 : z < 2 ^ 157 := by omega
  obtain ⟨c, c1, c2⟩ := grid (z / 2 ^ 134 + 1) 133 (by omega) (by omega)
  obtain ⟨d, d1, d2⟩ := grid (z / 2 ^ 134) 133 (by omega) (by omega)
  have hp : 0 < Z32 1073741824 := by rw [Z_two]; decide
  have q1 : Z32 (halfF a b) ≤ Z32 c := fdiv_le s1 two_fin s2 hp c1 (by omega) (by rw [Z_two, c2]; omega)
  have q0 : Z32 d ≤ Z32 (halfF a b) := fdiv_ge s1 two_fin s2 hp d1 (by omega) (by rw [Z_two, d2]; omega)
  rw [c2] at q1
  rw [d2] at q0
  exact ⟨h1, h2, by omega, by omega⟩

theorem turnK_two {n : Nat} {s : Nat} {F : Nat → Nat} {fed : Nat} (hn : 2 ≤ n) (hs : partB s = true) (hF : PosF n F) (hf : Fin32 fed) (f0 : 0 ≤ Z32 fed) (n6 : n ≤ 6)
    (hl : sumZ F n + Z32 fed + 40 * dlt < lim) : ∀ k, k + 2 ≤ n → PosF n (turnK s F fed k) ∧ sumZ (turnK s F fed k) n - (sumZ F n + Z32 fed) ≤ (3 + 5 * (k : Int)) * dlt ∧ (sumZ F n + Z32 fed) - sumZ (turnK s F fed k) n ≤ (3 + 5 * (k : Int)) * dlt := by
  have hd : dlt = 2 ^ 132 := rfl
  have hm : lim = 2 ^ 157 := rfl
  have hll : lid = 2 ^ 166 := rfl
  intro k
  induction k with
  | zero =>
    intro _
    obtain ⟨x1, x2⟩ := hF 0 (by omega)
    obtain ⟨y1, y2⟩ := hF 1 (by omega)
    have t01 := sumZ_two hF n (Nat.le_refl _) 0 1 (by omega) (by omega)
    obtain ⟨a1, a2, a3, a4⟩ := add_two x1 hf x2 f0 (by omega)
    have hA : turnA F fed = fadd (F 0) fed := rfl
    rw [← hA] at a1 a2 a3 a4
    obtain ⟨o1, o2, o3⟩ : Up (turnA F fed) (turnO s F fed) := (mul_in hs a1 a2 (by omega)).1
    obtain ⟨b1, b2, b3, b4⟩ := sub_two a1 o1 o2 o3 (by omega)
    obtain ⟨c1, c2, c3, c4⟩ := add_two y1 o1 y2 o2 (by omega)
    have p1 : PosF n (upd F 0 (fsub (turnA F fed) (turnO s F fed))) := posF_upd hF b1 b2
    have hsum : sumZ (turnK s F fed 0) n = sumZ F n + Z32 (fsub (turnA F fed) (turnO s F fed)) - Z32 (F 0) + Z32 (fadd (F 1) (turnO s F fed)) - Z32 (F 1) := by
      show sumZ (upd (upd F 0 _) 1 _) n = _
      rw [sumZ_upd n (by omega), sumZ_upd n (by omega)]
      have : upd F 0 (fsub (turnA F fed) (turnO s F fed)) 1 = F 1 := by simp [upd]
      rw [this]
    refine ⟨posF_upd p1 c1 c2, ?_, ?_⟩
    · rw [hsum]
      have : ((0 : Nat) : Int) = 0 := rfl
      rw [this]
      omega
    · rw [hsum]
      have : ((0 : Nat) : Int) = 0 := rfl
      rw [this]
      omega
  | succ k ih =>
    intro hk
    obtain ⟨hp, hu, hv⟩ := ih (by omega)
    obtain ⟨x1, x2⟩ := hp (k + 1) (by omega)
    obtain ⟨y1, y2⟩ := hp (k + 1 + 1) (by omega)
    have t01 := sumZ_two hp n (Nat.le_refl _) (k + 1) (k + 1 + 1) (by omega) (by omega)
    have hk3 : (3 + 5 * (k : Int)) * dlt ≤ 23 * dlt := Int.mul_le_mul_of_nonneg_right (by omega) (by decide)
    obtain ⟨h1, h2, h3, h4⟩ := half_two x1 y1 x2 y2 (by omega)
    have p1 : PosF n (upd (turnK s F fed k) (k + 1) (halfF (turnK s F fed k (k + 1)) (turnK s F fed k (k + 1 + 1)))) := posF_upd hp h1 h2
    have hc : (3 + 5 * ((k + 1 : Nat) : Int)) * dlt = (3 + 5 * (k : Int)) * dlt + 5 * dlt := by
      rw [show (3 + 5 * ((k + 1 : Nat) : Int)) = (3 + 5 * (k : Int)) + 5 from by omega, Int.add_mul]
    have hsum : sumZ (turnK s F fed (k + 1)) n = sumZ (turnK s F fed k) n + 2 * Z32 (halfF (turnK s F fed k (k + 1)) (turnK s F fed k (k + 1 + 1))) - Z32 (turnK s F fed k (k + 1)) - Z32 (turnK s F fed k (k + 1 + 1)) := by
      show sumZ (upd (upd (turnK s F fed k) (k + 1) _) (k + 1 + 1) _) n = _
      rw [sumZ_upd n (by omega), sumZ_upd n (by omega)]
      have : upd (turnK s F fed k) (k + 1) (halfF (turnK s F fed k (k + 1)) (turnK s F fed k (k + 1 + 1))) (k + 1 + 1) = turnK s F fed k (k + 1 + 1) := by simp [upd]
      rw [this]
      omega
    refine ⟨posF_upd p1 h1 h2, ?_, ?_⟩
    · rw [hsum, hc]; omega
    · rw [hsum, hc]; omega
/-- One turn: what is kept and printed is what was there and fed, nearly. -/
theorem turnF_two {r : Int} {s t : Nat} {F : Nat → Nat} {fed cover : Nat} (h2 : 2 ≤ r) (h6 : r ≤ 6) (hs : partB s = true) (ht : partB t = true) (hc : partB cover = true) (hF : PosF r.toNat F) (hf : Fin32 fed) (f0 : 0 ≤ Z32 fed)
    (hl : sumZ F r.toNat + Z32 fed + 40 * dlt < lim) : Fin32 (turnP r s t F fed cover) ∧ 0 ≤ Z32 (turnP r s t F fed cover) ∧ PosF r.toNat (turnF r s t F fed cover) ∧
      (sumZ (turnF r s t F fed cover) r.toNat + Z32 (turnP r s t F fed cover)) - (sumZ F r.toNat + Z32 fed) ≤ 24 * dlt ∧ (sumZ F r.toNat + Z32 fed) - (sumZ (turnF r s t F fed cover) r.toNat + Z32 (turnP r s t F fed cover)) ≤ 24 * dlt := by
  have hd : dlt = 2 ^ 132 := rfl
  have hm : lim = 2 ^ 157 := rfl
  have hll : lid = 2 ^ 166 := rfl
  obtain ⟨hp, hu, hv⟩ := turnK_two (n := r.toNat) (s := s) (F := F) (fed := fed) (by omega) hs hF hf f0 (by omega) hl (r - 2).toNat (by omega)
  have hk3 : (3 + 5 * ((r - 2).toNat : Int)) * dlt ≤ 23 * dlt := Int.mul_le_mul_of_nonneg_right (by omega) (by decide)
  obtain ⟨x1, x2⟩ := hp (r - 1).toNat (by omega)
  have t1 := sumZ_one hp r.toNat (Nat.le_refl _) (r - 1).toNat (by omega)
  have pk := part_mul ht hc
  obtain ⟨o1, o2, o3⟩ : Up (turnE r s F fed (r - 1).toNat) (turnP r s t F fed cover) := (mul_in pk x1 x2 (by omega)).2
  obtain ⟨b1, b2, b3, b4⟩ := sub_two (a := turnE r s F fed (r - 1).toNat) x1 o1 o2 o3 (Int.lt_of_le_of_lt t1 (by omega))
  have hsum : sumZ (turnF r s t F fed cover) r.toNat = sumZ (turnK s F fed (r - 2).toNat) r.toNat + Z32 (fsub (turnE r s F fed (r - 1).toNat) (turnP r s t F fed cover)) - Z32 (turnE r s F fed (r - 1).toNat) := by
    show sumZ (upd (turnE r s F fed) (r - 1).toNat _) r.toNat = _
    rw [sumZ_upd _ (by omega)]
    rfl
  refine ⟨o1, o2, posF_upd hp b1 b2, ?_, ?_⟩
  · rw [hsum]; omega
  · rw [hsum]; omega
theorem it_two {r : Int} {s t : Nat} {F : Nat → Nat} {fed cover : Nat} (h : SmallT r s t F) (hf : Small fed) (hc : partB cover = true) :
    ∀ n : Nat, n ≤ 19 → PosF r.toNat (itF r s t fed cover F n) ∧ PosF n (prF r s t fed cover F) ∧
      (sumZ (itF r s t fed cover F n) r.toNat + sumZ (prF r s t fed cover F) n) - (sumZ F r.toNat + (n : Int) * Z32 fed) ≤ (n : Int) * (24 * dlt) ∧
      (sumZ F r.toNat + (n : Int) * Z32 fed) - (sumZ (itF r s t fed cover F n) r.toNat + sumZ (prF r s t fed cover F) n) ≤ (n : Int) * (24 * dlt)
  | 0, _ => by
    have h6 := h.h6
    refine ⟨fun i hi => ⟨(h.hF i (by omega)).1, (h.hF i (by omega)).2.1⟩, fun i hi => by omega, ?_, ?_⟩
    · show (sumZ F r.toNat + 0) - (sumZ F r.toNat + ((0 : Nat) : Int) * Z32 fed) ≤ ((0 : Nat) : Int) * (24 * dlt)
      simp
    · show (sumZ F r.toNat + ((0 : Nat) : Int) * Z32 fed) - (sumZ F r.toNat + 0) ≤ ((0 : Nat) : Int) * (24 * dlt)
      simp
  | n + 1, hn => by
    obtain ⟨p1, p2, p3, p4⟩ := it_two h hf hc n (by omega)
    have h2 := h.h2
    have h6 := h.h6
    have hd : dlt = 2 ^ 132 := rfl
    have hm : lim = 2 ^ 157 := rfl
    obtain ⟨f1, f2, f3⟩ := hf
    rw [Z_eight] at f3
    have s1 := small_sum (n := r.toNat) (F := F) (fun i hi => h.hF i (by omega)) r.toNat (Nat.le_refl _)
    have s2 : (r.toNat : Int) * 2 ^ 152 ≤ 6 * 2 ^ 152 := Int.mul_le_mul_of_nonneg_right (by omega) (by decide)
    have s3 : (n : Int) * Z32 fed ≤ (n : Int) * 2 ^ 152 := Int.mul_le_mul_of_nonneg_left f3 (by omega)
    have s4 := sumZ_pos p2 n (Nat.le_refl _)
    have hbig : sumZ (itF r s t fed cover F n) r.toNat + Z32 fed + 40 * dlt < lim := by rw [hd] at p3; omega
    obtain ⟨q1, q2, q3, q4, q5⟩ := turnF_two (r := r) (s := s) (t := t) (F := itF r s t fed cover F n) (fed := fed) (cover := cover) h2 h6 h.hs h.ht hc p1 f1 f2 hbig
    have e1 : ((n + 1 : Nat) : Int) * Z32 fed = (n : Int) * Z32 fed + Z32 fed := by rw [show ((n + 1 : Nat) : Int) = (n : Int) + 1 from by omega, Int.add_mul, Int.one_mul]
    have e2 : ((n + 1 : Nat) : Int) * (24 * dlt) = (n : Int) * (24 * dlt) + 24 * dlt := by rw [show ((n + 1 : Nat) : Int) = (n : Int) + 1 from by omega, Int.add_mul, Int.one_mul]
    have e3 : sumZ (prF r s t fed cover F) (n + 1) = sumZ (prF r s t fed cover F) n + Z32 (turnP r s t (itF r s t fed cover F n) fed cover) := rfl
    have e4 : itF r s t fed cover F (n + 1) = turnF r s t (itF r s t fed cover F n) fed cover := rfl
    refine ⟨q3, fun i hi => ?_, ?_, ?_⟩
    · by_cases e : i = n
      · subst e; exact ⟨q1, q2⟩
      · exact p2 i (by omega)
    · rw [e1, e2, e3, e4]; omega
    · rw [e1, e2, e3, e4]; omega
/-- A sum's error. -/
theorem sum_two {G : Nat → Nat} {m : Nat} (hm : m ≤ 20) (hG : PosF m G) (hl : sumZ G m + 40 * dlt < lim) : ∀ n, n ≤ m → Fin32 (sumTo G n) ∧ 0 ≤ Z32 (sumTo G n) ∧ Z32 (sumTo G n) - sumZ G n ≤ (n : Int) * dlt ∧ sumZ G n - Z32 (sumTo G n) ≤ (n : Int) * dlt
  | 0, _ => by
    have hz : Z32 (sumTo G 0) = 0 := Z_zero
    refine ⟨(by decide : Fin32 0), by rw [hz]; exact Int.le_refl _, ?_, ?_⟩
    · rw [hz]; show (0 : Int) - 0 ≤ ((0 : Nat) : Int) * dlt; simp
    · rw [hz]; show (0 : Int) - 0 ≤ ((0 : Nat) : Int) * dlt; simp
  | 1, h => by
    obtain ⟨g1, g2⟩ := hG 0 (by omega)
    have hd : dlt = 2 ^ 132 := rfl
    have e : sumZ G 1 = Z32 (G 0) := by show 0 + Z32 (G 0) = _; omega
    refine ⟨g1, g2, ?_, ?_⟩
    · rw [e]; show Z32 (G 0) - Z32 (G 0) ≤ _; omega
    · rw [e]; show Z32 (G 0) - Z32 (G 0) ≤ _; omega
  | k + 2, h => by
    obtain ⟨s1, s2, s3, s4⟩ := sum_two hm hG hl (k + 1) (by omega)
    obtain ⟨g1, g2⟩ := hG (k + 1) (by omega)
    have hd : dlt = 2 ^ 132 := rfl
    have mono : ∀ d, k + 2 + d ≤ m → sumZ G (k + 2) ≤ sumZ G (k + 2 + d) := by
      intro d
      induction d with
      | zero => intro _; exact Int.le_refl _
      | succ d ih =>
        intro hh
        have := (hG (k + 2 + d) (by omega)).2
        have := ih (by omega)
        show _ ≤ sumZ G (k + 2 + d) + Z32 (G (k + 2 + d))
        omega
    have hmono := mono (m - (k + 2)) (by omega)
    rw [show k + 2 + (m - (k + 2)) = m by omega] at hmono
    have e : sumZ G (k + 2) = sumZ G (k + 1) + Z32 (G (k + 1)) := rfl
    have hk : ((k + 1 : Nat) : Int) * dlt ≤ 20 * dlt := Int.mul_le_mul_of_nonneg_right (by omega) (by decide)
    obtain ⟨a1, a2, a3, a4⟩ := add_two s1 g1 s2 g2 (by omega)
    have e2 : ((k + 2 : Nat) : Int) * dlt = ((k + 1 : Nat) : Int) * dlt + dlt := by rw [show ((k + 2 : Nat) : Int) = ((k + 1 : Nat) : Int) + 1 from by omega, Int.add_mul, Int.one_mul]
    refine ⟨a1, a2, ?_, ?_⟩
    · show Z32 (fadd (sumTo G (k + 1)) (G (k + 1))) - _ ≤ _
      rw [e, e2]; omega
    · show _ - Z32 (fadd (sumTo G (k + 1)) (G (k + 1))) ≤ _
      rw [e, e2]; omega
theorem sumZ_same (a : Nat) : ∀ n : Nat, sumZ (fun _ => a) n = (n : Int) * Z32 a
  | 0 => by show (0 : Int) = ((0 : Nat) : Int) * Z32 a; simp
  | n + 1 => by
    show sumZ (fun _ => a) n + Z32 a = ((n + 1 : Nat) : Int) * Z32 a
    rw [sumZ_same a n, show ((n + 1 : Nat) : Int) = (n : Int) + 1 from by omega, Int.add_mul, Int.one_mul]
theorem abs_Z_neg {v : Nat} (h : Z32 v < 0) : Z32 (absN v) = -Z32 v := by
  have hn := neg_Z h
  rw [absN_Z]
  unfold Z32 Flt.Z Flt.sg
  rw [if_pos hn]
  omega
theorem near_Z {x y wi : Nat} {c : Int} (hx : Fin32 x) (hy : Fin32 y) (hl : Z32 x - Z32 y < lim) (hl2 : Z32 y - Z32 x < lim) (hw : ¬ Flt.NaN single wi) (hc : c + dlt ≤ Z32 wi) (h1 : Z32 x - Z32 y ≤ c) (h2 : Z32 y - Z32 x ≤ c) :
    Fin32 (fsub x y) ∧ leF (absN (fsub x y)) wi = true := by
  have hd : dlt = 2 ^ 132 := rfl
  have hm : lim = 2 ^ 157 := rfl
  obtain ⟨e1, e2⟩ := fsub_err (t := 133) (by omega) hx hy (by omega)
  have hf : Fin32 (fsub x y) := fin_of (num_fsub hx hy) (by omega) (by omega)
  refine ⟨hf, (leF_iff hw).2 ⟨absN_num (fin_nan hf), ?_⟩⟩
  by_cases h0 : 0 ≤ Z32 (fsub x y)
  · rw [abs_Z_pos h0]; omega
  · rw [abs_Z_neg (by omega)]; omega
/-- Ink that is fed is printed, or kept, nearly. -/
theorem balance_near {r : Int} {s t : Nat} {F : Nat → Nat} {fed cover : Nat} (h : SmallT r s t F) (hf : Small fed) (hc : partB cover = true) {n : Nat} (hn : n ≤ 19) :
    Fin32 (fadd (sumTo F r.toNat) (sumTo (fun _ => fed) n)) ∧ Fin32 (fadd (sumTo (prF r s t fed cover F) n) (sumTo (itF r s t fed cover F n) r.toNat)) ∧
    Fin32 (sumTo F r.toNat) ∧ Fin32 (sumTo (fun _ => fed) n) ∧ Fin32 (sumTo (prF r s t fed cover F) n) ∧ Fin32 (sumTo (itF r s t fed cover F n) r.toNat) ∧
    Fin32 (fsub (fadd (sumTo F r.toNat) (sumTo (fun _ => fed) n)) (fadd (sumTo (prF r s t fed cover F) n) (sumTo (itF r s t fed cover F n) r.toNat))) ∧
    leF (absN (fsub (fadd (sumTo F r.toNat) (sumTo (fun _ => fed) n)) (fadd (sumTo (prF r s t fed cover F) n) (sumTo (itF r s t fed cover F n) r.toNat)))) 1008981770 = true := by
  have h2 := h.h2
  have h6 := h.h6
  have hd : dlt = 2 ^ 132 := rfl
  have hm : lim = 2 ^ 157 := rfl
  obtain ⟨p1, p2, p3, p4⟩ := it_two h hf hc n hn
  obtain ⟨f1, f2, f3⟩ := hf
  rw [Z_eight] at f3
  have hF0 : PosF r.toNat F := fun i hi => ⟨(h.hF i (by omega)).1, (h.hF i (by omega)).2.1⟩
  have s1 := small_sum (n := r.toNat) (F := F) (fun i hi => h.hF i (by omega)) r.toNat (Nat.le_refl _)
  have s2 : (r.toNat : Int) * 2 ^ 152 ≤ 6 * 2 ^ 152 := Int.mul_le_mul_of_nonneg_right (by omega) (by decide)
  have s3 : (n : Int) * Z32 fed ≤ (n : Int) * 2 ^ 152 := Int.mul_le_mul_of_nonneg_left f3 (by omega)
  have s5 : 0 ≤ (n : Int) * Z32 fed := Int.mul_nonneg (by omega) f2
  have s4 := sumZ_pos p2 n (Nat.le_refl _)
  have s6 := sumZ_pos p1 r.toNat (Nat.le_refl _)
  have s7 := sumZ_pos hF0 r.toNat (Nat.le_refl _)
  rw [hd] at p3 p4
  have hfe := sumZ_same fed n
  obtain ⟨b1, b2, b3, b4⟩ := sum_two (G := F) (m := r.toNat) (by omega) hF0 (by omega) r.toNat (Nat.le_refl _)
  obtain ⟨c1, c2, c3, c4⟩ := sum_two (G := fun _ => fed) (m := n) (by omega) (fun _ _ => ⟨f1, f2⟩) (by rw [hfe]; omega) n (Nat.le_refl _)
  obtain ⟨d1, d2, d3, d4⟩ := sum_two (G := prF r s t fed cover F) (m := n) (by omega) p2 (by omega) n (Nat.le_refl _)
  obtain ⟨k1, k2, k3, k4⟩ := sum_two (G := itF r s t fed cover F n) (m := r.toNat) (by omega) p1 (by omega) r.toNat (Nat.le_refl _)
  rw [hfe] at c3 c4
  rw [hd] at b3 b4 c3 c4 d3 d4 k3 k4
  obtain ⟨x1, x2, x3, x4⟩ := add_two b1 c1 b2 c2 (by omega)
  obtain ⟨y1, y2, y3, y4⟩ := add_two d1 k1 d2 k2 (by omega)
  rw [hd] at x3 x4 y3 y4
  have hwi : 600 * (2 : Int) ^ 132 ≤ Z32 1008981770 := by decide +kernel
  obtain ⟨z1, z2⟩ := near_Z (wi := 1008981770) (c := 560 * 2 ^ 132) x1 y1 (by omega) (by omega) (by decide) (by rw [hd]; omega) (by omega) (by omega)
  exact ⟨x1, y1, b1, c1, d1, k1, z1, z2⟩
end Go.Proofs.YtkokekndiammpaaGreatDoor

/-! The draws of a part and of a film, as words of 32 bits; each under its own premises. -/
set_option linter.unusedVariables false
set_option linter.unusedSimpArgs false
namespace Go.Proofs.YtkokekndiammpaaGreatDoor
open Go.RowKit Ieee

theorem fdiv_lt {x y : Nat} (hx : Fin32 x) (hy : Fin32 y) (h0 : Z32 y ≠ 0) : fdiv x y < 2 ^ 32 := by
  obtain ⟨g, e, hg, _⟩ := Flt.div_fin single (D := 149) (by decide) hx hy h0
  unfold fdiv
  rw [e]
  simp only [Option.getD_some]
  have h1 := Flt.infRung_lt' single
  have hsw := sw_single
  unfold Ieee.Format.word
  split <;> omega
theorem toneL_any (b k : Nat) (ao : Option Addr) (n cap : Nat) (w : World) (hk : k < 1152921504606846976) (hs : Src w b k ao n cap) (hb : BytesAt w b ao n) :
    Calls Tryz.prog 27 #[.pointer (some ⟨b, 0, none⟩)] w fun e w' => ∃ v : Nat, e = .returned (.float .f32 v) ∧ (partB v = true ∧ v < 2 ^ 32) ∧ Src w' b (k + 4) ao n cap ∧ Moved b w w' := by
  have cv : ∀ (m : Nat) (w : World), (convert 2 25 (.int .i64 (m : Int))).run Tryz.prog w = .ok (.float .f32 (floatOfInt .f32 (m : Int))) w := fun m w => by kernel_rfl
  have dv : ∀ (x y : Nat) (hx : Fin32 x) (hy : Fin32 y) (h0 : Z32 y ≠ 0) (w : World), (binOp .quo 25 (.float .f32 x) (.float .f32 y)).run Tryz.prog w = .ok (.float .f32 (fdiv x y)) w := fun x y hx hy h0 w => run_fdiv w 25 hx hy h0
  go_enter Tryz.func27, Tryz.ntmps27
  go_wp2_with (fail)
  refine (pick_any b k ao n cap 4 _ (by omega) (by omega) (by omega) hs hb).mono ?_
  rintro e w1 ⟨x, rfl, hx0, hx9, hs1, hm1⟩
  have hb1 := hm1.bytes hb (Nat.le_refl _)
  by_cases h0 : x = 0
  · subst h0
    go_wp2_with (fail)
    refine (pick_any b (k + 2) ao n cap 17 _ (by omega) (by omega) (by omega) hs1 hb1).mono ?_
    rintro e w2 ⟨y, rfl, hy0, hy9, hs2, hm2⟩
    obtain ⟨y, rfl⟩ := Int.eq_ofNat_of_zero_le hy0
    have d := fun w => dv (floatOfInt .f32 (y : Int)) 1098907648 (quo_fin (by omega)) (by decide) ne_16 w
    have c := cv y
    go_wp2
    go_ret
    exact ⟨_, rfl, ⟨up_part (quo_up (m := 16) (q := 1) (by omega) (by decide) (by omega) Z_16 (by decide) Z_1 (by omega) (by omega) (by omega)), fdiv_lt (quo_fin (by omega)) (by decide) ne_16⟩, hs2, hm1.trans hm2⟩
  · by_cases h1 : x = 1
    · subst h1
      go_wp2_with (fail)
      refine (pick_any b (k + 2) ao n cap 1001 _ (by omega) (by omega) (by omega) hs1 hb1).mono ?_
      rintro e w2 ⟨y, rfl, hy0, hy9, hs2, hm2⟩
      obtain ⟨y, rfl⟩ := Int.eq_ofNat_of_zero_le hy0
      have d := fun w => dv (floatOfInt .f32 (y : Int)) 1148846080 (quo_fin (by omega)) (by decide) ne_1000 w
      have c := cv y
      go_wp2
      go_ret
      exact ⟨_, rfl, ⟨up_part (quo_up (m := 1000) (q := 1) (by omega) (by decide) (by omega) Z_1000 (by decide) Z_1 (by omega) (by omega) (by omega)), fdiv_lt (quo_fin (by omega)) (by decide) ne_1000⟩, hs2, hm1.trans hm2⟩
    · have e0 : (x == 0) = false := by simp [h0]
      have e1 : (x == 1) = false := by simp [h1]
      go_wp2_with (fail)
      refine (pick_any b (k + 2) ao n cap 1048576 _ (by omega) (by omega) (by omega) hs1 hb1).mono ?_
      rintro e w2 ⟨y, rfl, hy0, hy9, hs2, hm2⟩
      obtain ⟨y, rfl⟩ := Int.eq_ofNat_of_zero_le hy0
      have d := fun w => dv (floatOfInt .f32 (y : Int)) 1233125376 (quo_fin (by omega)) (by decide) ne_meg w
      have c := cv y
      go_wp2
      go_ret
      exact ⟨_, rfl, ⟨up_part (quo_up (m := 1048576) (q := 1) (by omega) (by decide) (by omega) Z_meg (by decide) Z_1 (by omega) (by omega) (by omega)), fdiv_lt (quo_fin (by omega)) (by decide) ne_meg⟩, hs2, hm1.trans hm2⟩
theorem thickL_any (b k : Nat) (ao : Option Addr) (n cap : Nat) (w : World) (hk : k < 1152921504606846976) (hs : Src w b k ao n cap) (hb : BytesAt w b ao n) :
    Calls Tryz.prog 26 #[.pointer (some ⟨b, 0, none⟩)] w fun e w' => ∃ v : Nat, e = .returned (.float .f32 v) ∧ (Small v ∧ v < 2 ^ 32) ∧ Src w' b (k + 4) ao n cap ∧ Moved b w w' := by
  have cv : ∀ (m : Nat) (w : World), (convert 2 25 (.int .i64 (m : Int))).run Tryz.prog w = .ok (.float .f32 (floatOfInt .f32 (m : Int))) w := fun m w => by kernel_rfl
  have dv : ∀ (x y : Nat) (hx : Fin32 x) (hy : Fin32 y) (h0 : Z32 y ≠ 0) (w : World), (binOp .quo 25 (.float .f32 x) (.float .f32 y)).run Tryz.prog w = .ok (.float .f32 (fdiv x y)) w := fun x y hx hy h0 w => run_fdiv w 25 hx hy h0
  go_enter Tryz.func26, Tryz.ntmps26
  go_wp2_with (fail)
  refine (one_any b k ao n cap 3 _ (by omega) (by omega) (by omega) hs hb).mono ?_
  rintro e w1 ⟨v, rfl, hs1, hm1⟩
  have hb1 := hm1.bytes hb (Nat.le_refl _)
  cases v
  · go_wp2_with (fail)
    refine (pick_any b (k + 2) ao n cap 5000 _ (by omega) (by omega) (by omega) hs1 hb1).mono ?_
    rintro e w2 ⟨y, rfl, hy0, hy9, hs2, hm2⟩
    obtain ⟨y, rfl⟩ := Int.eq_ofNat_of_zero_le hy0
    have d := fun w => dv (floatOfInt .f32 (y : Int)) 1148846080 (quo_fin (by omega)) (by decide) ne_1000 w
    have c := cv y
    go_wp2
    go_ret
    exact ⟨_, rfl, ⟨quo_up (m := 1000) (q := 8) (by omega) (by decide) (by omega) Z_1000 (by decide) Z_8 (by omega) (by omega) (by omega), fdiv_lt (quo_fin (by omega)) (by decide) ne_1000⟩, hs2, hm1.trans hm2⟩
  · go_wp2_with (fail)
    refine (pick_any b (k + 2) ao n cap 33 _ (by omega) (by omega) (by omega) hs1 hb1).mono ?_
    rintro e w2 ⟨y, rfl, hy0, hy9, hs2, hm2⟩
    obtain ⟨y, rfl⟩ := Int.eq_ofNat_of_zero_le hy0
    have d := fun w => dv (floatOfInt .f32 (y : Int)) 1082130432 (quo_fin (by omega)) (by decide) ne_4 w
    have c := cv y
    go_wp2
    go_ret
    exact ⟨_, rfl, ⟨quo_up (m := 4) (q := 8) (by omega) (by decide) (by omega) Z_4 (by decide) Z_8 (by omega) (by omega) (by omega), fdiv_lt (quo_fin (by omega)) (by decide) ne_4⟩, hs2, hm1.trans hm2⟩
end Go.Proofs.YtkokekndiammpaaGreatDoor

/-! The draw of a train, as words of 32 bits; under its own premises. -/
set_option linter.unusedVariables false
set_option linter.unusedSimpArgs false
namespace Go.Proofs.YtkokekndiammpaaGreatDoor
open Go.RowKit Ieee

/-- Words of 32 bits. -/
def LtT (s t : Nat) (F : Nat → Nat) : Prop := s < 2 ^ 32 ∧ t < 2 ^ 32 ∧ ∀ i : Nat, i < 12 → F i < 2 ^ 32
theorem lt_upd {F : Nat → Nat} {k v : Nat} (h : ∀ i : Nat, i < 12 → F i < 2 ^ 32) (hv : v < 2 ^ 32) : ∀ i : Nat, i < 12 → upd F k v i < 2 ^ 32 := fun i hi => by
  unfold upd
  split
  · exact hv
  · exact h i hi

set_option maxRecDepth 100000 in
set_option maxHeartbeats 3200000 in
theorem drawnL_any (b : Nat) (ao : Option Addr) (n cap : Nat) (w : World) (hs : Src w b 0 ao n cap) (hb : BytesAt w b ao n) (hl : b < w.heap.size) :
    Calls Tryz.prog 24 #[.pointer (some ⟨b, 0, none⟩)] w fun e w' => ∃ (r : Int) (s t : Nat) (F : Nat → Nat), e = .returned (.agg (train r s t F)) ∧ (SmallT r s t F ∧ LtT s t F) ∧ Below b w w' := by
  have hz : (#[Value.int IntKind.i8 0, Value.float FloatKind.f32 0, Value.float FloatKind.f32 0, Value.float FloatKind.f32 0, Value.float FloatKind.f32 0, Value.float FloatKind.f32 0, Value.float FloatKind.f32 0, Value.float FloatKind.f32 0, Value.float FloatKind.f32 0, Value.float FloatKind.f32 0, Value.float FloatKind.f32 0, Value.float FloatKind.f32 0, Value.float FloatKind.f32 0, Value.float FloatKind.f32 0, Value.float FloatKind.f32 0] : Array Value) = row [Value.int IntKind.i8 0, Value.float FloatKind.f32 0, Value.float FloatKind.f32 0] 12 (fun _ => 0) := rfl
  obtain ⟨p0, sd0, hp0, hB0⟩ := hs
  go_enter Tryz.func24, Tryz.ntmps24
  go_wp2_with (fail)
  refine (pick_any b 0 ao n cap 5 _ (by omega) (by omega) (by omega) ⟨p0, sd0, hp0, (by repeat (first | (with_reducible assumption) | ((with_reducible refine blk_new _ _ _ ?_); focus (first | omega | (simp; done) | (simp; omega))) | ((with_reducible refine blk_old _ _ _ ?_ ?_); focus (simp; done)) | ((with_reducible refine blk_old _ _ _ ?_ ?_); focus (first | omega | (simp; omega))) | ((with_reducible apply blk_set); focus (simp; done)) | ((with_reducible refine blk_off _ _ _ _ ?_ ?_); focus (simp; done)) | ((with_reducible refine blk_offc _ _ _ _ ?_ ?_); focus (first | (simp; done) | omega | (simp; omega))) | ((with_reducible refine blk_off _ _ _ _ ?_ ?_); focus (first | omega | (simp; omega))) | (with_reducible refine blk_drew _ _ ?_) | ((with_reducible refine blk_below (by assumption) ?_ ?_); focus (simp; done)) | ((with_reducible refine blk_below (by assumption) ?_ ?_); focus (first | omega | (simp; omega)))))⟩ (bytes_below (by repeat (first | (with_reducible assumption) | (with_reducible exact Below.refl _ _) | ((with_reducible refine bel_alloc _ ?_ ?_); focus (first | omega | (simp; done) | (simp; omega))) | ((with_reducible refine bel_row _ ?_ ?_); focus (first | omega | (simp; done) | (simp; omega))) | ((with_reducible refine bel_cell _ ?_ ?_); focus (first | omega | (simp; done) | (simp; omega))) | (with_reducible refine Below.drew ?_) | (with_reducible refine below_wideW _ ?_) | ((with_reducible refine bel_next (by assumption) ?_ ?_); focus (first | omega | (simp; done) | (simp; omega))))) hb)).mono ?_
  rintro e w1 ⟨x, rfl, hx0, hx9, ⟨p1, sd1, hp1, hB1⟩, hm1⟩
  have hR1 : w1.heap[w.heap.size]? = some (.cells (train 0 0 0 (fun _ => 0)) 28 (0, 0)) := (hm1.2.1 _ (by omega)).trans (by repeat (first | (with_reducible assumption) | ((with_reducible refine blk_new _ _ _ ?_); focus (first | omega | (simp; done) | (simp; omega))) | ((with_reducible refine blk_old _ _ _ ?_ ?_); focus (simp; done)) | ((with_reducible refine blk_old _ _ _ ?_ ?_); focus (first | omega | (simp; omega))) | ((with_reducible apply blk_set); focus (simp; done)) | ((with_reducible refine blk_off _ _ _ _ ?_ ?_); focus (simp; done)) | ((with_reducible refine blk_offc _ _ _ _ ?_ ?_); focus (first | (simp; done) | omega | (simp; omega))) | ((with_reducible refine blk_off _ _ _ _ ?_ ?_); focus (first | omega | (simp; omega))) | (with_reducible refine blk_drew _ _ ?_) | ((with_reducible refine blk_below (by assumption) ?_ ?_); focus (simp; done)) | ((with_reducible refine blk_below (by assumption) ?_ ?_); focus (first | omega | (simp; omega)))))
  have hz1 : w1.heap.size = w.heap.size + 1 := hm1.2.2.trans (by simp)
  have hd1 : Below b w w1 := Below.trans (by repeat (first | (with_reducible assumption) | (with_reducible exact Below.refl _ _) | ((with_reducible refine bel_alloc _ ?_ ?_); focus (first | omega | (simp; done) | (simp; omega))) | ((with_reducible refine bel_row _ ?_ ?_); focus (first | omega | (simp; done) | (simp; omega))) | ((with_reducible refine bel_cell _ ?_ ?_); focus (first | omega | (simp; done) | (simp; omega))) | (with_reducible refine Below.drew ?_) | (with_reducible refine below_wideW _ ?_) | ((with_reducible refine bel_next (by assumption) ?_ ?_); focus (first | omega | (simp; done) | (simp; omega))))) hm1.1
  clear hm1 hB0
  have hi8 : IntKind.i8.wrap (2 + x) = 2 + x := i8_small (by omega) (by omega)
  go_wp2_with (first | ((with_reducible refine at_store 28 ?_); refine wpList_store_part rfl 28 _ _ rfl _ 0 _ rfl rfl _ _ (by repeat (first | (with_reducible assumption) | ((with_reducible refine blk_new _ _ _ ?_); focus (first | omega | (simp; done) | (simp; omega))) | ((with_reducible refine blk_old _ _ _ ?_ ?_); focus (simp; done)) | ((with_reducible refine blk_old _ _ _ ?_ ?_); focus (first | omega | (simp; omega))) | ((with_reducible apply blk_set); focus (simp; done)) | ((with_reducible refine blk_off _ _ _ _ ?_ ?_); focus (simp; done)) | ((with_reducible refine blk_offc _ _ _ _ ?_ ?_); focus (first | (simp; done) | omega | (simp; omega))) | ((with_reducible refine blk_off _ _ _ _ ?_ ?_); focus (first | omega | (simp; omega))) | (with_reducible refine blk_drew _ _ ?_) | ((with_reducible refine blk_below (by assumption) ?_ ?_); focus (simp; done)) | ((with_reducible refine blk_below (by assumption) ?_ ?_); focus (first | omega | (simp; omega))))) (by rw [row_size]; kernel_rfl) (by simp [row_size]) (row_cells _ _ _ rfl) _ (row_over _ _ 12 _ _ (by simp)) ?_))
  refine (toneL_any b 2 ao n cap _ (by omega) ⟨p1, sd1, hp1, (by repeat (first | (with_reducible assumption) | ((with_reducible refine blk_new _ _ _ ?_); focus (first | omega | (simp; done) | (simp; omega))) | ((with_reducible refine blk_old _ _ _ ?_ ?_); focus (simp; done)) | ((with_reducible refine blk_old _ _ _ ?_ ?_); focus (first | omega | (simp; omega))) | ((with_reducible apply blk_set); focus (simp; done)) | ((with_reducible refine blk_off _ _ _ _ ?_ ?_); focus (simp; done)) | ((with_reducible refine blk_offc _ _ _ _ ?_ ?_); focus (first | (simp; done) | omega | (simp; omega))) | ((with_reducible refine blk_off _ _ _ _ ?_ ?_); focus (first | omega | (simp; omega))) | (with_reducible refine blk_drew _ _ ?_) | ((with_reducible refine blk_below (by assumption) ?_ ?_); focus (simp; done)) | ((with_reducible refine blk_below (by assumption) ?_ ?_); focus (first | omega | (simp; omega)))))⟩ (bytes_below (by repeat (first | (with_reducible assumption) | (with_reducible exact Below.refl _ _) | ((with_reducible refine bel_alloc _ ?_ ?_); focus (first | omega | (simp; done) | (simp; omega))) | ((with_reducible refine bel_row _ ?_ ?_); focus (first | omega | (simp; done) | (simp; omega))) | ((with_reducible refine bel_cell _ ?_ ?_); focus (first | omega | (simp; done) | (simp; omega))) | (with_reducible refine Below.drew ?_) | (with_reducible refine below_wideW _ ?_) | ((with_reducible refine bel_next (by assumption) ?_ ?_); focus (first | omega | (simp; done) | (simp; omega))))) hb)).mono ?_
  rintro e w2 ⟨s, rfl, ⟨hs, sL⟩, ⟨p2, sd2, hp2, hB2⟩, hm2⟩
  have hR2 : w2.heap[w.heap.size]? = some (.cells (train 0 0 0 (fun _ => 0)) 28 (0, 0)) := (hm2.2.1 _ (by omega)).trans (by repeat (first | (with_reducible assumption) | ((with_reducible refine blk_new _ _ _ ?_); focus (first | omega | (simp; done) | (simp; omega))) | ((with_reducible refine blk_old _ _ _ ?_ ?_); focus (simp; done)) | ((with_reducible refine blk_old _ _ _ ?_ ?_); focus (first | omega | (simp; omega))) | ((with_reducible apply blk_set); focus (simp; done)) | ((with_reducible refine blk_off _ _ _ _ ?_ ?_); focus (simp; done)) | ((with_reducible refine blk_offc _ _ _ _ ?_ ?_); focus (first | (simp; done) | omega | (simp; omega))) | ((with_reducible refine blk_off _ _ _ _ ?_ ?_); focus (first | omega | (simp; omega))) | (with_reducible refine blk_drew _ _ ?_) | ((with_reducible refine blk_below (by assumption) ?_ ?_); focus (simp; done)) | ((with_reducible refine blk_below (by assumption) ?_ ?_); focus (first | omega | (simp; omega)))))
  have hT2 : w2.heap[w.heap.size + 1]? = some (.cells (train (2 + x) 0 0 (fun _ => 0)) 28 (0, 0)) := (hm2.2.1 _ (by omega)).trans (by repeat (first | (with_reducible assumption) | ((with_reducible refine blk_new _ _ _ ?_); focus (first | omega | (simp; done) | (simp; omega))) | ((with_reducible refine blk_old _ _ _ ?_ ?_); focus (simp; done)) | ((with_reducible refine blk_old _ _ _ ?_ ?_); focus (first | omega | (simp; omega))) | ((with_reducible apply blk_set); focus (simp; done)) | ((with_reducible refine blk_off _ _ _ _ ?_ ?_); focus (simp; done)) | ((with_reducible refine blk_offc _ _ _ _ ?_ ?_); focus (first | (simp; done) | omega | (simp; omega))) | ((with_reducible refine blk_off _ _ _ _ ?_ ?_); focus (first | omega | (simp; omega))) | (with_reducible refine blk_drew _ _ ?_) | ((with_reducible refine blk_below (by assumption) ?_ ?_); focus (simp; done)) | ((with_reducible refine blk_below (by assumption) ?_ ?_); focus (first | omega | (simp; omega)))))
  have hz2 : w2.heap.size = w.heap.size + 2 := hm2.2.2.trans (by simp [hz1])
  have hd2 : Below b w w2 := Below.trans (by repeat (first | (with_reducible assumption) | (with_reducible exact Below.refl _ _) | ((with_reducible refine bel_alloc _ ?_ ?_); focus (first | omega | (simp; done) | (simp; omega))) | ((with_reducible refine bel_row _ ?_ ?_); focus (first | omega | (simp; done) | (simp; omega))) | ((with_reducible refine bel_cell _ ?_ ?_); focus (first | omega | (simp; done) | (simp; omega))) | (with_reducible refine Below.drew ?_) | (with_reducible refine below_wideW _ ?_) | ((with_reducible refine bel_next (by assumption) ?_ ?_); focus (first | omega | (simp; done) | (simp; omega))))) hm2.1
  clear hm2 hB1 hR1 hd1 hz1
  have ft2 : w2.frozen? ⟨w.heap.size + 1, 1, none⟩ = false := frozen_of_row w2 _ _ _ _ hT2
  have ct2 : w2.cell? ⟨w.heap.size + 1, 1, none⟩ = some (.float .f32 0) := (cell_of_row w2 _ 1 _ _ _ hT2).trans (row_g1 _ _ _ _ _)
  go_wp2_with (fail)
  have hT3 : (w2.setCell ⟨w.heap.size + 1, 1, none⟩ (.float .f32 s)).heap[w.heap.size + 1]? = some (.cells (train (2 + x) s 0 (fun _ => 0)) 28 (0, 0)) := put_pre (pre := tpre (2 + x) 0 0) (i := 1) (by simp) hT2
  refine (toneL_any b 6 ao n cap _ (by omega) ⟨p2, sd2, hp2, (by repeat (first | (with_reducible assumption) | ((with_reducible refine blk_new _ _ _ ?_); focus (first | omega | (simp; done) | (simp; omega))) | ((with_reducible refine blk_old _ _ _ ?_ ?_); focus (simp; done)) | ((with_reducible refine blk_old _ _ _ ?_ ?_); focus (first | omega | (simp; omega))) | ((with_reducible apply blk_set); focus (simp; done)) | ((with_reducible refine blk_off _ _ _ _ ?_ ?_); focus (simp; done)) | ((with_reducible refine blk_offc _ _ _ _ ?_ ?_); focus (first | (simp; done) | omega | (simp; omega))) | ((with_reducible refine blk_off _ _ _ _ ?_ ?_); focus (first | omega | (simp; omega))) | (with_reducible refine blk_drew _ _ ?_) | ((with_reducible refine blk_below (by assumption) ?_ ?_); focus (simp; done)) | ((with_reducible refine blk_below (by assumption) ?_ ?_); focus (first | omega | (simp; omega)))))⟩ (bytes_below (by repeat (first | (with_reducible assumption) | (with_reducible exact Below.refl _ _) | ((with_reducible refine bel_alloc _ ?_ ?_); focus (first | omega | (simp; done) | (simp; omega))) | ((with_reducible refine bel_row _ ?_ ?_); focus (first | omega | (simp; done) | (simp; omega))) | ((with_reducible refine bel_cell _ ?_ ?_); focus (first | omega | (simp; done) | (simp; omega))) | (with_reducible refine Below.drew ?_) | (with_reducible refine below_wideW _ ?_) | ((with_reducible refine bel_next (by assumption) ?_ ?_); focus (first | omega | (simp; done) | (simp; omega))))) hb)).mono ?_
  rintro e w3 ⟨t, rfl, ⟨ht, tL⟩, ⟨p3, sd3, hp3, hB3⟩, hm3⟩
  have hR4 : w3.heap[w.heap.size]? = some (.cells (train 0 0 0 (fun _ => 0)) 28 (0, 0)) := (hm3.2.1 _ (by omega)).trans (by repeat (first | (with_reducible assumption) | ((with_reducible refine blk_new _ _ _ ?_); focus (first | omega | (simp; done) | (simp; omega))) | ((with_reducible refine blk_old _ _ _ ?_ ?_); focus (simp; done)) | ((with_reducible refine blk_old _ _ _ ?_ ?_); focus (first | omega | (simp; omega))) | ((with_reducible apply blk_set); focus (simp; done)) | ((with_reducible refine blk_off _ _ _ _ ?_ ?_); focus (simp; done)) | ((with_reducible refine blk_offc _ _ _ _ ?_ ?_); focus (first | (simp; done) | omega | (simp; omega))) | ((with_reducible refine blk_off _ _ _ _ ?_ ?_); focus (first | omega | (simp; omega))) | (with_reducible refine blk_drew _ _ ?_) | ((with_reducible refine blk_below (by assumption) ?_ ?_); focus (simp; done)) | ((with_reducible refine blk_below (by assumption) ?_ ?_); focus (first | omega | (simp; omega)))))
  have hT4 : w3.heap[w.heap.size + 1]? = some (.cells (train (2 + x) s 0 (fun _ => 0)) 28 (0, 0)) := (hm3.2.1 _ (by omega)).trans hT3
  have hz4 : w3.heap.size = w.heap.size + 2 := hm3.2.2.trans (by simp [hz2])
  have hd4 : Below b w w3 := Below.trans (by repeat (first | (with_reducible assumption) | (with_reducible exact Below.refl _ _) | ((with_reducible refine bel_alloc _ ?_ ?_); focus (first | omega | (simp; done) | (simp; omega))) | ((with_reducible refine bel_row _ ?_ ?_); focus (first | omega | (simp; done) | (simp; omega))) | ((with_reducible refine bel_cell _ ?_ ?_); focus (first | omega | (simp; done) | (simp; omega))) | (with_reducible refine Below.drew ?_) | (with_reducible refine below_wideW _ ?_) | ((with_reducible refine bel_next (by assumption) ?_ ?_); focus (first | omega | (simp; done) | (simp; omega))))) hm3.1
  clear hm3 hB2 hR2 hd2 hz2 hT3 hT2 ft2 ct2
  have ft4 : w3.frozen? ⟨w.heap.size + 1, 2, none⟩ = false := frozen_of_row w3 _ _ _ _ hT4
  have ct4 : w3.cell? ⟨w.heap.size + 1, 2, none⟩ = some (.float .f32 0) := (cell_of_row w3 _ 2 _ _ _ hT4).trans (row_g2 _ _ _ _ _ _)
  go_wp2_with (fail)
  go_loopw [4] (fun i wr => ∃ (k : Nat) (G : Nat → Nat), (k : Int) ≤ 2 + x ∧ i = .int .i64 k ∧ wr.heap[w.heap.size + 1]? = some (.cells (train (2 + x) s t G) 28 (0, 0)) ∧ wr.heap[w.heap.size]? = some (.cells (train 0 0 0 (fun _ => 0)) 28 (0, 0)) ∧ ((∀ i : Nat, i < 12 → Small (G i)) ∧ (∀ i : Nat, i < 12 → G i < 2 ^ 32)) ∧ (∀ i : Nat, k ≤ i → G i = 0) ∧ Src wr b (10 + 6 * k) ao n cap ∧ wr.heap.size = w.heap.size + 2 ∧ Below b w wr) (fun i _ => 12 - (intOf i).toNat)
  case atStart => exact ⟨0, fun _ => 0, by omega, rfl, put_pre (pre := tpre (2 + x) s 0) (i := 2) (by simp) hT4, (by repeat (first | (with_reducible assumption) | ((with_reducible refine blk_new _ _ _ ?_); focus (first | omega | (simp; done) | (simp; omega))) | ((with_reducible refine blk_old _ _ _ ?_ ?_); focus (simp; done)) | ((with_reducible refine blk_old _ _ _ ?_ ?_); focus (first | omega | (simp; omega))) | ((with_reducible apply blk_set); focus (simp; done)) | ((with_reducible refine blk_off _ _ _ _ ?_ ?_); focus (simp; done)) | ((with_reducible refine blk_offc _ _ _ _ ?_ ?_); focus (first | (simp; done) | omega | (simp; omega))) | ((with_reducible refine blk_off _ _ _ _ ?_ ?_); focus (first | omega | (simp; omega))) | (with_reducible refine blk_drew _ _ ?_) | ((with_reducible refine blk_below (by assumption) ?_ ?_); focus (simp; done)) | ((with_reducible refine blk_below (by assumption) ?_ ?_); focus (first | omega | (simp; omega))))), ⟨fun _ _ => small_zero, fun _ _ => (by decide : (0 : Nat) < 2 ^ 32)⟩, fun _ _ => rfl, ⟨p3, sd3, hp3, (by repeat (first | (with_reducible assumption) | ((with_reducible refine blk_new _ _ _ ?_); focus (first | omega | (simp; done) | (simp; omega))) | ((with_reducible refine blk_old _ _ _ ?_ ?_); focus (simp; done)) | ((with_reducible refine blk_old _ _ _ ?_ ?_); focus (first | omega | (simp; omega))) | ((with_reducible apply blk_set); focus (simp; done)) | ((with_reducible refine blk_off _ _ _ _ ?_ ?_); focus (simp; done)) | ((with_reducible refine blk_offc _ _ _ _ ?_ ?_); focus (first | (simp; done) | omega | (simp; omega))) | ((with_reducible refine blk_off _ _ _ _ ?_ ?_); focus (first | omega | (simp; omega))) | (with_reducible refine blk_drew _ _ ?_) | ((with_reducible refine blk_below (by assumption) ?_ ?_); focus (simp; done)) | ((with_reducible refine blk_below (by assumption) ?_ ?_); focus (first | omega | (simp; omega)))))⟩, by simp [hz4], (by repeat (first | (with_reducible assumption) | (with_reducible exact Below.refl _ _) | ((with_reducible refine bel_alloc _ ?_ ?_); focus (first | omega | (simp; done) | (simp; omega))) | ((with_reducible refine bel_row _ ?_ ?_); focus (first | omega | (simp; done) | (simp; omega))) | ((with_reducible refine bel_cell _ ?_ ?_); focus (first | omega | (simp; done) | (simp; omega))) | (with_reducible refine Below.drew ?_) | (with_reducible refine below_wideW _ ?_) | ((with_reducible refine bel_next (by assumption) ?_ ?_); focus (first | omega | (simp; done) | (simp; omega)))))⟩
  case round =>
    clear hB3 hR4 hd4 hz4 hT4 ft4 ct4
    obtain ⟨k, G, hk, rfl, hT, hR, hG, hZ, ⟨p, sd, hp, hB⟩, hzz, hd⟩ := hrel
    have HG := Lib.hid hG
    have HZ := Lib.hid hZ
    clear hG hZ
    have c0 : wr.cell? ⟨w.heap.size + 1, 0, none⟩ = some (.int .i8 (2 + x)) := (cell_of_row wr _ 0 _ _ _ hT).trans (row_g0 _ _ _ _)
    by_cases hlt : (k : Int) < 2 + x
    · have k12 : k < 12 := by omega
      go_wp2_with (fail)
      refine (one_any b (10 + 6 * k) ao n cap 8 _ (by omega) (by omega) (by omega) ⟨p, sd, hp, (by repeat (first | (with_reducible assumption) | ((with_reducible refine blk_new _ _ _ ?_); focus (first | omega | (simp; done) | (simp; omega))) | ((with_reducible refine blk_old _ _ _ ?_ ?_); focus (simp; done)) | ((with_reducible refine blk_old _ _ _ ?_ ?_); focus (first | omega | (simp; omega))) | ((with_reducible apply blk_set); focus (simp; done)) | ((with_reducible refine blk_off _ _ _ _ ?_ ?_); focus (simp; done)) | ((with_reducible refine blk_offc _ _ _ _ ?_ ?_); focus (first | (simp; done) | omega | (simp; omega))) | ((with_reducible refine blk_off _ _ _ _ ?_ ?_); focus (first | omega | (simp; omega))) | (with_reducible refine blk_drew _ _ ?_) | ((with_reducible refine blk_below (by assumption) ?_ ?_); focus (simp; done)) | ((with_reducible refine blk_below (by assumption) ?_ ?_); focus (first | omega | (simp; omega)))))⟩ (bytes_below (by repeat (first | (with_reducible assumption) | (with_reducible exact Below.refl _ _) | ((with_reducible refine bel_alloc _ ?_ ?_); focus (first | omega | (simp; done) | (simp; omega))) | ((with_reducible refine bel_row _ ?_ ?_); focus (first | omega | (simp; done) | (simp; omega))) | ((with_reducible refine bel_cell _ ?_ ?_); focus (first | omega | (simp; done) | (simp; omega))) | (with_reducible refine Below.drew ?_) | (with_reducible refine below_wideW _ ?_) | ((with_reducible refine bel_next (by assumption) ?_ ?_); focus (first | omega | (simp; done) | (simp; omega))))) hb)).mono ?_
      rintro e w5 ⟨v, rfl, ⟨p5, sd5, hp5, hB5⟩, hm5⟩
      have hR5 : w5.heap[w.heap.size]? = some (.cells (train 0 0 0 (fun _ => 0)) 28 (0, 0)) := (hm5.2.1 _ (by omega)).trans (by repeat (first | (with_reducible assumption) | ((with_reducible refine blk_new _ _ _ ?_); focus (first | omega | (simp; done) | (simp; omega))) | ((with_reducible refine blk_old _ _ _ ?_ ?_); focus (simp; done)) | ((with_reducible refine blk_old _ _ _ ?_ ?_); focus (first | omega | (simp; omega))) | ((with_reducible apply blk_set); focus (simp; done)) | ((with_reducible refine blk_off _ _ _ _ ?_ ?_); focus (simp; done)) | ((with_reducible refine blk_offc _ _ _ _ ?_ ?_); focus (first | (simp; done) | omega | (simp; omega))) | ((with_reducible refine blk_off _ _ _ _ ?_ ?_); focus (first | omega | (simp; omega))) | (with_reducible refine blk_drew _ _ ?_) | ((with_reducible refine blk_below (by assumption) ?_ ?_); focus (simp; done)) | ((with_reducible refine blk_below (by assumption) ?_ ?_); focus (first | omega | (simp; omega)))))
      have hT5 : w5.heap[w.heap.size + 1]? = some (.cells (train (2 + x) s t G) 28 (0, 0)) := (hm5.2.1 _ (by omega)).trans hT
      have hz5 : w5.heap.size = w.heap.size + 2 := hm5.2.2.trans (by simp [hzz])
      have hd5 : Below b w w5 := Below.trans (by repeat (first | (with_reducible assumption) | (with_reducible exact Below.refl _ _) | ((with_reducible refine bel_alloc _ ?_ ?_); focus (first | omega | (simp; done) | (simp; omega))) | ((with_reducible refine bel_row _ ?_ ?_); focus (first | omega | (simp; done) | (simp; omega))) | ((with_reducible refine bel_cell _ ?_ ?_); focus (first | omega | (simp; done) | (simp; omega))) | (with_reducible refine Below.drew ?_) | (with_reducible refine below_wideW _ ?_) | ((with_reducible refine bel_next (by assumption) ?_ ?_); focus (first | omega | (simp; done) | (simp; omega))))) hm5.1
      clear hm5 hB hR hd hzz hT c0
      cases v
      · go_wp2_with (fail)
        refine (thickL_any b (12 + 6 * k) ao n cap _ (by omega) ⟨p5, sd5, by omega, (by repeat (first | (with_reducible assumption) | ((with_reducible refine blk_new _ _ _ ?_); focus (first | omega | (simp; done) | (simp; omega))) | ((with_reducible refine blk_old _ _ _ ?_ ?_); focus (simp; done)) | ((with_reducible refine blk_old _ _ _ ?_ ?_); focus (first | omega | (simp; omega))) | ((with_reducible apply blk_set); focus (simp; done)) | ((with_reducible refine blk_off _ _ _ _ ?_ ?_); focus (simp; done)) | ((with_reducible refine blk_offc _ _ _ _ ?_ ?_); focus (first | (simp; done) | omega | (simp; omega))) | ((with_reducible refine blk_off _ _ _ _ ?_ ?_); focus (first | omega | (simp; omega))) | (with_reducible refine blk_drew _ _ ?_) | ((with_reducible refine blk_below (by assumption) ?_ ?_); focus (simp; done)) | ((with_reducible refine blk_below (by assumption) ?_ ?_); focus (first | omega | (simp; omega)))))⟩ (bytes_below (by repeat (first | (with_reducible assumption) | (with_reducible exact Below.refl _ _) | ((with_reducible refine bel_alloc _ ?_ ?_); focus (first | omega | (simp; done) | (simp; omega))) | ((with_reducible refine bel_row _ ?_ ?_); focus (first | omega | (simp; done) | (simp; omega))) | ((with_reducible refine bel_cell _ ?_ ?_); focus (first | omega | (simp; done) | (simp; omega))) | (with_reducible refine Below.drew ?_) | (with_reducible refine below_wideW _ ?_) | ((with_reducible refine bel_next (by assumption) ?_ ?_); focus (first | omega | (simp; done) | (simp; omega))))) hb)).mono ?_
        rintro e w6 ⟨v, rfl, ⟨hv, vL⟩, ⟨p6, sd6, hp6, hB6⟩, hm6⟩
        have hR6 : w6.heap[w.heap.size]? = some (.cells (train 0 0 0 (fun _ => 0)) 28 (0, 0)) := (hm6.2.1 _ (by omega)).trans (by repeat (first | (with_reducible assumption) | ((with_reducible refine blk_new _ _ _ ?_); focus (first | omega | (simp; done) | (simp; omega))) | ((with_reducible refine blk_old _ _ _ ?_ ?_); focus (simp; done)) | ((with_reducible refine blk_old _ _ _ ?_ ?_); focus (first | omega | (simp; omega))) | ((with_reducible apply blk_set); focus (simp; done)) | ((with_reducible refine blk_off _ _ _ _ ?_ ?_); focus (simp; done)) | ((with_reducible refine blk_offc _ _ _ _ ?_ ?_); focus (first | (simp; done) | omega | (simp; omega))) | ((with_reducible refine blk_off _ _ _ _ ?_ ?_); focus (first | omega | (simp; omega))) | (with_reducible refine blk_drew _ _ ?_) | ((with_reducible refine blk_below (by assumption) ?_ ?_); focus (simp; done)) | ((with_reducible refine blk_below (by assumption) ?_ ?_); focus (first | omega | (simp; omega)))))
        have hT6 : w6.heap[w.heap.size + 1]? = some (.cells (train (2 + x) s t G) 28 (0, 0)) := (hm6.2.1 _ (by omega)).trans hT5
        have hz6 : w6.heap.size = w.heap.size + 2 := hm6.2.2.trans (by simp [hz5])
        have hd6 : Below b w w6 := Below.trans (by repeat (first | (with_reducible assumption) | (with_reducible exact Below.refl _ _) | ((with_reducible refine bel_alloc _ ?_ ?_); focus (first | omega | (simp; done) | (simp; omega))) | ((with_reducible refine bel_row _ ?_ ?_); focus (first | omega | (simp; done) | (simp; omega))) | ((with_reducible refine bel_cell _ ?_ ?_); focus (first | omega | (simp; done) | (simp; omega))) | (with_reducible refine Below.drew ?_) | (with_reducible refine below_wideW _ ?_) | ((with_reducible refine bel_next (by assumption) ?_ ?_); focus (first | omega | (simp; done) | (simp; omega))))) hm6.1
        clear hm6 hB5 hR5 hd5 hz5 hT5
        have ft6 : w6.frozen? ⟨w.heap.size + 1, 3 + k, none⟩ = false := frozen_of_row w6 _ _ _ _ hT6
        have ct6 : w6.cell? ⟨w.heap.size + 1, 3 + k, none⟩ = some (.float .f32 (G k)) := (cell_of_row w6 _ (3 + k) _ _ _ hT6).trans (row_k3 _ _ _ _ _ k12)
        go_wp2_with (fail)
        go_roundw
        case rel => exact ⟨k + 1, upd G k v, by omega, by go_num, put_row (pre := tpre (2 + x) s t) k12 hT6, put_off (by omega) hR6, ⟨small_upd HG.out.1 hv, lt_upd HG.out.2 vL⟩, fun i hi => by unfold upd; rw [if_neg (by omega)]; exact HZ.out i (by omega), ⟨p6, sd6, by omega, put_off (by omega) hB6⟩, by simp [hz6], hd6.setCell (by simp; omega) _⟩
        case measure => simp [intOf]; omega
      · go_wp2_with (first | ((with_reducible refine at_load 28 ?_); refine wpList_load_part rfl 28 _ rfl _ 0 15 rfl _ _ _ _ (by repeat (first | (with_reducible assumption) | ((with_reducible refine blk_new _ _ _ ?_); focus (first | omega | (simp; done) | (simp; omega))) | ((with_reducible refine blk_old _ _ _ ?_ ?_); focus (simp; done)) | ((with_reducible refine blk_old _ _ _ ?_ ?_); focus (first | omega | (simp; omega))) | ((with_reducible apply blk_set); focus (simp; done)) | ((with_reducible refine blk_off _ _ _ _ ?_ ?_); focus (simp; done)) | ((with_reducible refine blk_offc _ _ _ _ ?_ ?_); focus (first | (simp; done) | omega | (simp; omega))) | ((with_reducible refine blk_off _ _ _ _ ?_ ?_); focus (first | omega | (simp; omega))) | (with_reducible refine blk_drew _ _ ?_) | ((with_reducible refine blk_below (by assumption) ?_ ?_); focus (simp; done)) | ((with_reducible refine blk_below (by assumption) ?_ ?_); focus (first | omega | (simp; omega))))) Tryz.underlying28 rfl (by kernel_rfl) (by simp [row_size]) _ (row_all [_, _, _] 12 _) ?_) | ((with_reducible refine at_store 28 ?_); refine wpList_store_part rfl 28 _ _ rfl _ 0 _ rfl rfl _ _ (by repeat (first | (with_reducible assumption) | ((with_reducible refine blk_new _ _ _ ?_); focus (first | omega | (simp; done) | (simp; omega))) | ((with_reducible refine blk_old _ _ _ ?_ ?_); focus (simp; done)) | ((with_reducible refine blk_old _ _ _ ?_ ?_); focus (first | omega | (simp; omega))) | ((with_reducible apply blk_set); focus (simp; done)) | ((with_reducible refine blk_off _ _ _ _ ?_ ?_); focus (simp; done)) | ((with_reducible refine blk_offc _ _ _ _ ?_ ?_); focus (first | (simp; done) | omega | (simp; omega))) | ((with_reducible refine blk_off _ _ _ _ ?_ ?_); focus (first | omega | (simp; omega))) | (with_reducible refine blk_drew _ _ ?_) | ((with_reducible refine blk_below (by assumption) ?_ ?_); focus (simp; done)) | ((with_reducible refine blk_below (by assumption) ?_ ?_); focus (first | omega | (simp; omega))))) (by rw [row_size]; kernel_rfl) (by simp [row_size]) (row_cells _ _ _ rfl) _ (row_over _ _ 12 _ _ (by simp)) ?_))
        refine bodyPost_ret (v := .agg (train (2 + x) s t G)) ?_ ?_ ?_
        · refine results_cell_row Tryz.results24 _ _ _ 28 (train (2 + x) s t G) (0, 0) _ rfl ?_ Tryz.underlying28 rfl (by rw [row_size]; kernel_rfl)
          exact (by repeat (first | (with_reducible assumption) | ((with_reducible refine blk_new _ _ _ ?_); focus (first | omega | (simp; done) | (simp; omega))) | ((with_reducible refine blk_old _ _ _ ?_ ?_); focus (simp; done)) | ((with_reducible refine blk_old _ _ _ ?_ ?_); focus (first | omega | (simp; omega))) | ((with_reducible apply blk_set); focus (simp; done)) | ((with_reducible refine blk_off _ _ _ _ ?_ ?_); focus (simp; done)) | ((with_reducible refine blk_offc _ _ _ _ ?_ ?_); focus (first | (simp; done) | omega | (simp; omega))) | ((with_reducible refine blk_off _ _ _ _ ?_ ?_); focus (first | omega | (simp; omega))) | (with_reducible refine blk_drew _ _ ?_) | ((with_reducible refine blk_below (by assumption) ?_ ?_); focus (simp; done)) | ((with_reducible refine blk_below (by assumption) ?_ ?_); focus (first | omega | (simp; omega)))))
        · rfl
        · exact ⟨2 + x, s, t, G, rfl, ⟨⟨by omega, by omega, hs, ht, HG.out.1, fun i hi hr => HZ.out i (by omega)⟩, sL, tL, HG.out.2⟩, (by repeat (first | (with_reducible assumption) | (with_reducible exact Below.refl _ _) | ((with_reducible refine bel_alloc _ ?_ ?_); focus (first | omega | (simp; done) | (simp; omega))) | ((with_reducible refine bel_row _ ?_ ?_); focus (first | omega | (simp; done) | (simp; omega))) | ((with_reducible refine bel_cell _ ?_ ?_); focus (first | omega | (simp; done) | (simp; omega))) | (with_reducible refine Below.drew ?_) | (with_reducible refine below_wideW _ ?_) | ((with_reducible refine bel_next (by assumption) ?_ ?_); focus (first | omega | (simp; done) | (simp; omega)))))⟩
    · go_wp2_with (first | ((with_reducible refine at_load 28 ?_); refine wpList_load_part rfl 28 _ rfl _ 0 15 rfl _ _ _ _ (by repeat (first | (with_reducible assumption) | ((with_reducible refine blk_new _ _ _ ?_); focus (first | omega | (simp; done) | (simp; omega))) | ((with_reducible refine blk_old _ _ _ ?_ ?_); focus (simp; done)) | ((with_reducible refine blk_old _ _ _ ?_ ?_); focus (first | omega | (simp; omega))) | ((with_reducible apply blk_set); focus (simp; done)) | ((with_reducible refine blk_off _ _ _ _ ?_ ?_); focus (simp; done)) | ((with_reducible refine blk_offc _ _ _ _ ?_ ?_); focus (first | (simp; done) | omega | (simp; omega))) | ((with_reducible refine blk_off _ _ _ _ ?_ ?_); focus (first | omega | (simp; omega))) | (with_reducible refine blk_drew _ _ ?_) | ((with_reducible refine blk_below (by assumption) ?_ ?_); focus (simp; done)) | ((with_reducible refine blk_below (by assumption) ?_ ?_); focus (first | omega | (simp; omega))))) Tryz.underlying28 rfl (by kernel_rfl) (by simp [row_size]) _ (row_all [_, _, _] 12 _) ?_) | ((with_reducible refine at_store 28 ?_); refine wpList_store_part rfl 28 _ _ rfl _ 0 _ rfl rfl _ _ (by repeat (first | (with_reducible assumption) | ((with_reducible refine blk_new _ _ _ ?_); focus (first | omega | (simp; done) | (simp; omega))) | ((with_reducible refine blk_old _ _ _ ?_ ?_); focus (simp; done)) | ((with_reducible refine blk_old _ _ _ ?_ ?_); focus (first | omega | (simp; omega))) | ((with_reducible apply blk_set); focus (simp; done)) | ((with_reducible refine blk_off _ _ _ _ ?_ ?_); focus (simp; done)) | ((with_reducible refine blk_offc _ _ _ _ ?_ ?_); focus (first | (simp; done) | omega | (simp; omega))) | ((with_reducible refine blk_off _ _ _ _ ?_ ?_); focus (first | omega | (simp; omega))) | (with_reducible refine blk_drew _ _ ?_) | ((with_reducible refine blk_below (by assumption) ?_ ?_); focus (simp; done)) | ((with_reducible refine blk_below (by assumption) ?_ ?_); focus (first | omega | (simp; omega))))) (by rw [row_size]; kernel_rfl) (by simp [row_size]) (row_cells _ _ _ rfl) _ (row_over _ _ 12 _ _ (by simp)) ?_))
      refine bodyPost_ret (v := .agg (train (2 + x) s t G)) ?_ ?_ ?_
      · refine results_cell_row Tryz.results24 _ _ _ 28 (train (2 + x) s t G) (0, 0) _ rfl ?_ Tryz.underlying28 rfl (by rw [row_size]; kernel_rfl)
        exact (by repeat (first | (with_reducible assumption) | ((with_reducible refine blk_new _ _ _ ?_); focus (first | omega | (simp; done) | (simp; omega))) | ((with_reducible refine blk_old _ _ _ ?_ ?_); focus (simp; done)) | ((with_reducible refine blk_old _ _ _ ?_ ?_); focus (first | omega | (simp; omega))) | ((with_reducible apply blk_set); focus (simp; done)) | ((with_reducible refine blk_off _ _ _ _ ?_ ?_); focus (simp; done)) | ((with_reducible refine blk_offc _ _ _ _ ?_ ?_); focus (first | (simp; done) | omega | (simp; omega))) | ((with_reducible refine blk_off _ _ _ _ ?_ ?_); focus (first | omega | (simp; omega))) | (with_reducible refine blk_drew _ _ ?_) | ((with_reducible refine blk_below (by assumption) ?_ ?_); focus (simp; done)) | ((with_reducible refine blk_below (by assumption) ?_ ?_); focus (first | omega | (simp; omega)))))
      · rfl
      · exact ⟨2 + x, s, t, G, rfl, ⟨⟨by omega, by omega, hs, ht, HG.out.1, fun i hi hr => HZ.out i (by omega)⟩, sL, tL, HG.out.2⟩, (by repeat (first | (with_reducible assumption) | (with_reducible exact Below.refl _ _) | ((with_reducible refine bel_alloc _ ?_ ?_); focus (first | omega | (simp; done) | (simp; omega))) | ((with_reducible refine bel_row _ ?_ ?_); focus (first | omega | (simp; done) | (simp; omega))) | ((with_reducible refine bel_cell _ ?_ ?_); focus (first | omega | (simp; done) | (simp; omega))) | (with_reducible refine Below.drew ?_) | (with_reducible refine below_wideW _ ?_) | ((with_reducible refine bel_next (by assumption) ?_ ?_); focus (first | omega | (simp; done) | (simp; omega)))))⟩
end Go.Proofs.YtkokekndiammpaaGreatDoor

/-! Contracts of A2Train, A2Film and A2Part, as words of 32 bits; each under its own premises. -/
set_option linter.unusedVariables false
set_option linter.unusedSimpArgs false
namespace Go.Proofs.YtkokekndiammpaaGreatDoor
open Go.RowKit Ieee

theorem a2trainL_any (ao : Option Addr) (n cap : Nat) (w : World) (hb : BytesAt w w.heap.size ao n) : Calls Tryz.prog 5 #[.slice ao n cap] w fun e w' => ∃ (r : Int) (s t : Nat) (F : Nat → Nat), e = .returned (.agg (train r s t F)) ∧ (SmallT r s t F ∧ LtT s t F) ∧ Below w.heap.size w w' := by
  have hz : (#[Value.int IntKind.i8 0, Value.float FloatKind.f32 0, Value.float FloatKind.f32 0, Value.float FloatKind.f32 0, Value.float FloatKind.f32 0, Value.float FloatKind.f32 0, Value.float FloatKind.f32 0, Value.float FloatKind.f32 0, Value.float FloatKind.f32 0, Value.float FloatKind.f32 0, Value.float FloatKind.f32 0, Value.float FloatKind.f32 0, Value.float FloatKind.f32 0, Value.float FloatKind.f32 0, Value.float FloatKind.f32 0] : Array Value) = row [Value.int IntKind.i8 0, Value.float FloatKind.f32 0, Value.float FloatKind.f32 0] 12 (fun _ => 0) := rfl
  go_enter Tryz.func5, Tryz.ntmps5
  go_wp2_with (go_at_call 25; (with_reducible refine (from_any ao n cap _).mono ?_); rintro e w' ⟨rfl, rfl⟩)
  refine (drawnL_any (w.heap.size + 1) ao n cap _ ⟨0, 0, Nat.le_refl _, blk_new _ _ _ (by simp)⟩ (bytes_wide (bytes_below (by repeat (first | (with_reducible assumption) | (with_reducible exact Below.refl _ _) | ((with_reducible refine bel_alloc _ ?_ ?_); focus (first | omega | (simp; done) | (simp; omega))) | ((with_reducible refine bel_row _ ?_ ?_); focus (first | omega | (simp; done) | (simp; omega))) | ((with_reducible refine bel_cell _ ?_ ?_); focus (first | omega | (simp; done) | (simp; omega))) | (with_reducible refine Below.drew ?_) | (with_reducible refine below_wideW _ ?_) | ((with_reducible refine bel_next (by assumption) ?_ ?_); focus (first | omega | (simp; done) | (simp; omega))))) hb) (by omega)) (by simp)).mono ?_
  rintro e w1 ⟨r, s, t, G, rfl, hS, hm⟩
  have hR : w1.heap[w.heap.size]? = some (.cells (train 0 0 0 (fun _ => 0)) 28 (0, 0)) := (hm.block _ (by omega)).trans (by repeat (first | (with_reducible assumption) | ((with_reducible refine blk_new _ _ _ ?_); focus (first | omega | (simp; done) | (simp; omega))) | ((with_reducible refine blk_old _ _ _ ?_ ?_); focus (simp; done)) | ((with_reducible refine blk_old _ _ _ ?_ ?_); focus (first | omega | (simp; omega))) | ((with_reducible apply blk_set); focus (simp; done)) | ((with_reducible refine blk_off _ _ _ _ ?_ ?_); focus (simp; done)) | ((with_reducible refine blk_offc _ _ _ _ ?_ ?_); focus (first | (simp; done) | omega | (simp; omega))) | ((with_reducible refine blk_off _ _ _ _ ?_ ?_); focus (first | omega | (simp; omega))) | (with_reducible refine blk_drew _ _ ?_) | ((with_reducible refine blk_below (by assumption) ?_ ?_); focus (simp; done)) | ((with_reducible refine blk_below (by assumption) ?_ ?_); focus (first | omega | (simp; omega)))))
  have hz : w.heap.size + 2 ≤ w1.heap.size := by have := hm.size; simp at this; omega
  go_wp2_with (first | ((with_reducible refine at_store 28 ?_); refine wpList_store_part rfl 28 _ _ rfl _ 0 _ rfl rfl _ _ (by repeat (first | (with_reducible assumption) | ((with_reducible refine blk_new _ _ _ ?_); focus (first | omega | (simp; done) | (simp; omega))) | ((with_reducible refine blk_old _ _ _ ?_ ?_); focus (simp; done)) | ((with_reducible refine blk_old _ _ _ ?_ ?_); focus (first | omega | (simp; omega))) | ((with_reducible apply blk_set); focus (simp; done)) | ((with_reducible refine blk_off _ _ _ _ ?_ ?_); focus (simp; done)) | ((with_reducible refine blk_offc _ _ _ _ ?_ ?_); focus (first | (simp; done) | omega | (simp; omega))) | ((with_reducible refine blk_off _ _ _ _ ?_ ?_); focus (first | omega | (simp; omega))) | (with_reducible refine blk_drew _ _ ?_) | ((with_reducible refine blk_below (by assumption) ?_ ?_); focus (simp; done)) | ((with_reducible refine blk_below (by assumption) ?_ ?_); focus (first | omega | (simp; omega))))) (by rw [row_size]; kernel_rfl) (by simp [row_size]) (row_cells _ _ _ rfl) _ (row_over _ _ 12 _ _ (by simp)) ?_))
  refine bodyPost_ret (v := .agg (train r s t G)) ?_ ?_ ?_
  · refine results_cell_row Tryz.results5 _ _ _ 28 (train r s t G) (0, 0) _ rfl ?_ Tryz.underlying28 rfl (by rw [row_size]; kernel_rfl)
    exact (by repeat (first | (with_reducible assumption) | ((with_reducible refine blk_new _ _ _ ?_); focus (first | omega | (simp; done) | (simp; omega))) | ((with_reducible refine blk_old _ _ _ ?_ ?_); focus (simp; done)) | ((with_reducible refine blk_old _ _ _ ?_ ?_); focus (first | omega | (simp; omega))) | ((with_reducible apply blk_set); focus (simp; done)) | ((with_reducible refine blk_off _ _ _ _ ?_ ?_); focus (simp; done)) | ((with_reducible refine blk_offc _ _ _ _ ?_ ?_); focus (first | (simp; done) | omega | (simp; omega))) | ((with_reducible refine blk_off _ _ _ _ ?_ ?_); focus (first | omega | (simp; omega))) | (with_reducible refine blk_drew _ _ ?_) | ((with_reducible refine blk_below (by assumption) ?_ ?_); focus (simp; done)) | ((with_reducible refine blk_below (by assumption) ?_ ?_); focus (first | omega | (simp; omega)))))
  · rfl
  · exact ⟨r, s, t, G, rfl, hS, bel_row _ (Nat.le_refl _) (Below.trans (by repeat (first | (with_reducible assumption) | (with_reducible exact Below.refl _ _) | ((with_reducible refine bel_alloc _ ?_ ?_); focus (first | omega | (simp; done) | (simp; omega))) | ((with_reducible refine bel_row _ ?_ ?_); focus (first | omega | (simp; done) | (simp; omega))) | ((with_reducible refine bel_cell _ ?_ ?_); focus (first | omega | (simp; done) | (simp; omega))) | (with_reducible refine Below.drew ?_) | (with_reducible refine below_wideW _ ?_) | ((with_reducible refine bel_next (by assumption) ?_ ?_); focus (first | omega | (simp; done) | (simp; omega))))) (hm.mono (by omega)))⟩
end Go.Proofs.YtkokekndiammpaaGreatDoor
