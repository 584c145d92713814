/- Parts of a proof, merged; each under its own premises. -/
import Derived.Test.YtihddajpkcjokaaDoorPC
import Derived.Test.YtihddajpkcjokaaDoorPA
import Derived.Deep.RegionHeld3
import Derived.Deep.MidRow
import Derived.Test.YtihddajpkcjokaaDoorPB
import Derived.StillTailTactics
import Derived.Laws.Cover2
import Derived.Deep.Cut
import Derived.OrdersHeld
import Derived.Deep.RegionHeld
import Derived.Deep.RegionWith
import Derived.OwnWalk
import Derived.Laws.CopyOwn
import Derived.ChangeSlices

/-! Contracts of the draws: a part, a film, a train; each under its own premises. -/
set_option linter.unusedVariables false
set_option linter.unusedSimpArgs false
namespace Go.Proofs.YtihddajpkcjokaaDoor
open Go.RowKit Ieee

theorem cvt_Z (n : Nat) (hn : n < 2 ^ 24) : Fin32 (floatOfInt .f32 (n : Int)) ∧ Z32 (floatOfInt .f32 (n : Int)) = ((n * 2 ^ 149 : Nat) : Int) := by
  have hq : n < 2 * single.binade := hn
  have hlt : n * 2 ^ 149 < Flt.U single single.infRung := by
    rw [Flt.single_inf]
    have h2 : n * 2 ^ 149 < 2 ^ 24 * 2 ^ 149 := Nat.mul_lt_mul_of_pos_right hn (Nat.two_pow_pos 149)
    have h3 : 2 ^ (24 + 149) ≤ 2 ^ Flt.eS := Nat.pow_le_pow_right (by decide) (by rw [Flt.eS_eq]; omega)
    rw [Nat.pow_add] at h3
    omega
  have hU := Flt.G_short single (q := n) (e := 149) hq (Nat.le_of_lt hlt)
  have hG : Flt.G single (n * 2 ^ 149) 0 ≤ single.infRung := by unfold Flt.G; omega
  have hne : Flt.G single (n * 2 ^ 149) 0 ≠ single.infRung := fun h => by rw [h] at hU; omega
  have hs := Flt.infRung_lt' single
  have he : floatOfInt .f32 (n : Int) = single.word false (Flt.G single (n * 2 ^ 149) 0) := by
    show single.write (.number (decide ((n : Int) < 0)) (n : Int).natAbs 0) = _
    have hd : decide ((n : Int) < 0) = false := by simp
    have ha : (n : Int).natAbs = n := by simp
    rw [hd, ha]
    simp only [Format.write]
    rw [Flt.nearest_eq single _ _ _ 149 0 (by decide)]
  rw [he]
  refine ⟨?_, ?_⟩
  · show Flt.rung single _ < _
    rw [Flt.rung_word single false (by omega)]; omega
  · show Flt.Z single _ = _
    rw [Flt.Z_word single false (by omega), hU]
    rfl
theorem quo_up {n m y c : Nat} {q : Int} (hn : n < 2 ^ 24) (hy : Fin32 y) (hm : 0 < m) (hZ : Z32 y = ((m * 2 ^ 149 : Nat) : Int)) (hc : Fin32 c) (hq : Z32 c = q * 2 ^ 149) (q0 : 0 ≤ q) (q9 : q ≤ 1024) (hle : (n : Int) ≤ q * m) : Up c (fdiv (floatOfInt .f32 (n : Int)) y) := by
  obtain ⟨f, z⟩ := cvt_Z n hn
  have hp : 0 < Z32 y := by rw [hZ]; have := Nat.two_pow_pos 149; exact_mod_cast Nat.mul_pos hm this
  have n0 : Z32 y ≠ 0 := by omega
  have z0 : 0 ≤ Z32 (floatOfInt .f32 (n : Int)) := by rw [z]; omega
  have c0 : 0 ≤ Z32 c := by rw [hq]; exact Int.mul_nonneg q0 (by decide)
  have h1 : Z32 (fdiv (floatOfInt .f32 (n : Int)) y) ≤ Z32 c := by
    refine fdiv_le f hy z0 hp hc c0 ?_
    rw [z, hZ, hq]
    have h := Int.mul_le_mul_of_nonneg_right hle (show (0 : Int) ≤ 2 ^ 149 * 2 ^ 149 by decide)
    have e1 : ((n * 2 ^ 149 : Nat) : Int) * 2 ^ 149 = (n : Int) * (2 ^ 149 * 2 ^ 149) := by rw [Int.natCast_mul, Int.natCast_pow, Int.mul_assoc]; rfl
    have e2 : q * 2 ^ 149 * ((m * 2 ^ 149 : Nat) : Int) = q * (m : Int) * (2 ^ 149 * 2 ^ 149) := by
      rw [Int.natCast_mul, Int.natCast_pow]
      show q * 2 ^ 149 * ((m : Int) * 2 ^ 149) = _
      ac_rfl
    rw [e1, e2]
    exact h
  have h0 : 0 ≤ Z32 (fdiv (floatOfInt .f32 (n : Int)) y) := by
    have := fdiv_ge f hy z0 hp (c := 0) (by decide) (by rw [Z_zero]; omega) (by rw [Z_zero, Int.zero_mul]; omega)
    rwa [Z_zero] at this
  have hc9 : Z32 c ≤ 2 ^ 159 := by rw [hq]; omega
  exact ⟨fin_of (num_fdiv f hy n0) (by omega) (by omega), h0, h1⟩
theorem quo_fin {n : Nat} (hn : n < 2 ^ 24) : Fin32 (floatOfInt .f32 (n : Int)) := (cvt_Z n hn).1
theorem Z_16 : Z32 1098907648 = ((16 * 2 ^ 149 : Nat) : Int) := by decide +kernel
theorem Z_1000 : Z32 1148846080 = ((1000 * 2 ^ 149 : Nat) : Int) := by decide +kernel
theorem Z_meg : Z32 1233125376 = ((1048576 * 2 ^ 149 : Nat) : Int) := by decide +kernel
theorem Z_1 : Z32 1065353216 = 1 * 2 ^ 149 := by decide +kernel
theorem up_part {a : Nat} (h : Up 1065353216 a) : partB a = true := (part_iff a).2 ⟨fin_nan h.1, h.2.1, by rw [← Z_one]; exact h.2.2⟩
theorem ne_16 : Z32 1098907648 ≠ 0 := by decide +kernel
theorem ne_1000 : Z32 1148846080 ≠ 0 := by decide +kernel
theorem ne_meg : Z32 1233125376 ≠ 0 := by decide +kernel
theorem tone_any (b k : Nat) (ao : Option Addr) (n cap : Nat) (w : World) (hk : k < 1152921504606846976) (hs : Src w b k ao n cap) (hb : BytesAt w b ao n) :
    Calls Tryd.prog 26 #[.pointer (some ⟨b, 0, none⟩)] w fun e w' => ∃ v : Nat, e = .returned (.float .f32 v) ∧ partB v = true ∧ Src w' b (k + 4) ao n cap ∧ Moved b w w' := by
  have cv : ∀ (m : Nat) (w : World), (convert 2 24 (.int .i64 (m : Int))).run Tryd.prog w = .ok (.float .f32 (floatOfInt .f32 (m : Int))) w := fun m w => by kernel_rfl
  have dv : ∀ (x y : Nat) (hx : Fin32 x) (hy : Fin32 y) (h0 : Z32 y ≠ 0) (w : World), (binOp .quo 24 (.float .f32 x) (.float .f32 y)).run Tryd.prog w = .ok (.float .f32 (fdiv x y)) w := fun x y hx hy h0 w => run_fdiv w 24 hx hy h0
  go_enter Tryd.func26, Tryd.ntmps26
  go_wp2_with (fail)
  refine (pick_any b k ao n cap 4 _ (by omega) (by omega) (by omega) hs hb).mono ?_
  rintro e w1 ⟨x, rfl, hx0, hx9, hs1, hm1⟩
  have hb1 := hm1.bytes hb (Nat.le_refl _)
  by_cases h0 : x = 0
  · subst h0
    go_wp2_with (fail)
    refine (pick_any b (k + 2) ao n cap 17 _ (by omega) (by omega) (by omega) hs1 hb1).mono ?_
    rintro e w2 ⟨y, rfl, hy0, hy9, hs2, hm2⟩
    obtain ⟨y, rfl⟩ := Int.eq_ofNat_of_zero_le hy0
    have d := fun w => dv (floatOfInt .f32 (y : Int)) 1098907648 (quo_fin (by omega)) (by decide) ne_16 w
    have c := cv y
    go_wp2
    go_ret
    exact ⟨_, rfl, up_part (quo_up (m := 16) (q := 1) (by omega) (by decide) (by omega) Z_16 (by decide) Z_1 (by omega) (by omega) (by omega)), hs2, hm1.trans hm2⟩
  · by_cases h1 : x = 1
    · subst h1
      go_wp2_with (fail)
      refine (pick_any b (k + 2) ao n cap 1001 _ (by omega) (by omega) (by omega) hs1 hb1).mono ?_
      rintro e w2 ⟨y, rfl, hy0, hy9, hs2, hm2⟩
      obtain ⟨y, rfl⟩ := Int.eq_ofNat_of_zero_le hy0
      have d := fun w => dv (floatOfInt .f32 (y : Int)) 1148846080 (quo_fin (by omega)) (by decide) ne_1000 w
      have c := cv y
      go_wp2
      go_ret
      exact ⟨_, rfl, up_part (quo_up (m := 1000) (q := 1) (by omega) (by decide) (by omega) Z_1000 (by decide) Z_1 (by omega) (by omega) (by omega)), hs2, hm1.trans hm2⟩
    · have e0 : (x == 0) = false := by simp [h0]
      have e1 : (x == 1) = false := by simp [h1]
      go_wp2_with (fail)
      refine (pick_any b (k + 2) ao n cap 1048576 _ (by omega) (by omega) (by omega) hs1 hb1).mono ?_
      rintro e w2 ⟨y, rfl, hy0, hy9, hs2, hm2⟩
      obtain ⟨y, rfl⟩ := Int.eq_ofNat_of_zero_le hy0
      have d := fun w => dv (floatOfInt .f32 (y : Int)) 1233125376 (quo_fin (by omega)) (by decide) ne_meg w
      have c := cv y
      go_wp2
      go_ret
      exact ⟨_, rfl, up_part (quo_up (m := 1048576) (q := 1) (by omega) (by decide) (by omega) Z_meg (by decide) Z_1 (by omega) (by omega) (by omega)), hs2, hm1.trans hm2⟩
end Go.Proofs.YtihddajpkcjokaaDoor

/-! Contracts of SameTrain, the reference's, of numbers of any size; each under its own premises. -/
set_option linter.unusedVariables false
set_option linter.unusedSimpArgs false
namespace Go.Proofs.YtihddajpkcjokaaDoor
open Go.RowKit Ieee
theorem sameN_self (a : Nat) : sameN a a = true := by
  unfold sameN
  split
  · rename_i h
    have : Flt.NaN Ieee.single a := by rcases h with h | h <;> exact h
    simp [this]
  · simp
theorem sameTo_eq {F G : Nat → Nat} : ∀ n, (∀ i, i < n → F i = G i) → sameTo F G n = true
  | 0, _ => rfl
  | n + 1, h => by
    show (sameTo F G n && sameN (F n) (G n)) = true
    rw [sameTo_eq n (fun i hi => h i (by omega)), h n (by omega), sameN_self]
    rfl
end Go.Proofs.YtihddajpkcjokaaDoor

/-! Contracts of the draw of a train, and of A2Train, A2Film and A2Part; each under its own premises. -/
set_option linter.unusedVariables false
set_option linter.unusedSimpArgs false
namespace Go.Proofs.YtihddajpkcjokaaDoor
open Go.RowKit Ieee

theorem bytes_below {b : Nat} {w w1 : World} {ao : Option Addr} {n : Nat} (h : Below b w w1) (hb : BytesAt w b ao n) : BytesAt w1 b ao n := by
  refine ⟨hb.1, fun hn => ?_⟩
  obtain ⟨a, ha, hlt, hx⟩ := hb.2 hn
  refine ⟨a, ha, hlt, fun i hi => ?_⟩
  obtain ⟨x, h1, h2⟩ := hx i hi
  refine ⟨x, ?_, h2⟩
  rw [h.cell (p := a.add i) (by rw [show (a.add i).block = a.block from by unfold Addr.add; split <;> rfl]; exact hlt)]
  exact h1
end Go.Proofs.YtihddajpkcjokaaDoor

/-! Contracts of A2Train, A2Film, A2Part and of the test for too many bytes; each under its own premises. -/
set_option linter.unusedVariables false
set_option linter.unusedSimpArgs false
namespace Go.Proofs.YtihddajpkcjokaaDoor
open Go.RowKit Ieee

theorem bytes_wide {b b' : Nat} {w : World} {ao : Option Addr} {n : Nat} (hb : BytesAt w b ao n) (h : b ≤ b') : BytesAt w b' ao n := by
  refine ⟨hb.1, fun hn => ?_⟩
  obtain ⟨a, ha, hlt, hx⟩ := hb.2 hn
  exact ⟨a, ha, by omega, hx⟩
theorem from_any (ao : Option Addr) (n cap : Nat) (w : World) : Calls Tryd.prog 27 #[.slice ao n cap] w fun e w' => e = .returned (.pointer (some ⟨w.heap.size, 0, none⟩)) ∧ w' = w.alloc (.cells #[.slice ao n cap, .int .i64 0, .int .u64 0] 69) := by
  go_enter Tryd.func27, Tryd.ntmps27
  go_wp2
  go_ret
  exact ⟨rfl, rfl⟩

theorem a2part_any (ao : Option Addr) (n cap : Nat) (w : World) (hb : BytesAt w w.heap.size ao n) : Calls Tryd.prog 5 #[.slice ao n cap] w fun e w' => ∃ v : Nat, e = .returned (.float .f32 v) ∧ partB v = true ∧ Below w.heap.size w w' := by
  go_enter Tryd.func5, Tryd.ntmps5
  go_wp2_with (go_at_call 27; (with_reducible refine (from_any ao n cap _).mono ?_); rintro e w' ⟨rfl, rfl⟩)
  refine (tone_any w.heap.size 0 ao n cap _ (by omega) ⟨0, 0, Nat.le_refl _, blk_new _ _ _ rfl⟩ (bytes_below (by repeat (first | (with_reducible assumption) | (with_reducible exact Below.refl _ _) | ((with_reducible refine bel_alloc _ ?_ ?_); focus (first | omega | (simp; done) | (simp; omega))) | ((with_reducible refine bel_row _ ?_ ?_); focus (first | omega | (simp; done) | (simp; omega))) | ((with_reducible refine bel_cell _ ?_ ?_); focus (first | omega | (simp; done) | (simp; omega))) | (with_reducible refine Below.drew ?_) | (with_reducible refine below_wideW _ ?_) | ((with_reducible refine bel_next (by assumption) ?_ ?_); focus (first | omega | (simp; done) | (simp; omega))))) hb)).mono ?_
  rintro e w1 ⟨v, rfl, hv, _, hm⟩
  go_wp2
  go_ret
  exact ⟨v, rfl, hv, Below.trans (by repeat (first | (with_reducible assumption) | (with_reducible exact Below.refl _ _) | ((with_reducible refine bel_alloc _ ?_ ?_); focus (first | omega | (simp; done) | (simp; omega))) | ((with_reducible refine bel_row _ ?_ ?_); focus (first | omega | (simp; done) | (simp; omega))) | ((with_reducible refine bel_cell _ ?_ ?_); focus (first | omega | (simp; done) | (simp; omega))) | (with_reducible refine Below.drew ?_) | (with_reducible refine below_wideW _ ?_) | ((with_reducible refine bel_next (by assumption) ?_ ?_); focus (first | omega | (simp; done) | (simp; omega))))) hm.1⟩

theorem a2Long_any (ao ao' : Option Addr) (n cap n' cap' : Nat) (w : World) (h1 : n ≤ maxLen) (h2 : n' ≤ maxLen) : Calls Tryd.prog 4 #[.slice ao n cap, .slice ao' n' cap'] w fun e w' => e = .returned (.bool (decide (3000 < n) || decide (3000 < n'))) ∧ w = w' := by
  by_cases hn : 3000 < n
  · go_enter Tryd.func4, Tryd.ntmps4
    go_wp2
    go_ret
    exact ⟨by simp [hn], rfl⟩
  · by_cases hm : 3000 < n'
    · go_enter Tryd.func4, Tryd.ntmps4
      go_wp2
      go_ret
      exact ⟨by simp [hm]; omega, rfl⟩
    · go_enter Tryd.func4, Tryd.ntmps4
      go_wp2
      go_ret
      exact ⟨by simp [hn, hm]; omega, rfl⟩
end Go.Proofs.YtihddajpkcjokaaDoor

/-! Contracts of what FnSteady calls, of trains of small films; each under its own premises. -/
set_option linter.unusedVariables false
set_option linter.unusedSimpArgs false
namespace Go.Proofs.YtihddajpkcjokaaDoor
open Go.RowKit Ieee

theorem size_abs {v wi : Nat} (hv : ¬ Flt.NaN single v) (hw : ¬ Flt.NaN single wi) : leF (sizeS v) wi = leF (absN v) wi := by
  unfold sizeS
  cases hc : (FloatKind.f32.format.order v 0 == some .lt)
  · have hz : 0 ≤ Z32 v := by
      rw [order_Z hv (by decide)] at hc
      rcases Int.lt_trichotomy (Z32 v) 0 with h | h | h
      · rw [show Z32 0 = 0 from Z_zero, Int.compare_eq_lt.2 h] at hc; simp at hc
      · omega
      · omega
    have h1 := leF_iff (a := v) hw
    have h2 := leF_iff (a := absN v) hw
    rw [abs_Z_pos hz] at h2
    have hn := absN_num hv
    simp only [Bool.false_eq_true, if_false]
    cases h3 : leF v wi <;> cases h4 : leF (absN v) wi <;> simp_all <;> omega
  · simp
theorem near_q {a b wi : Nat} {v : Bool} (ha : Fin32 a) (hb : Fin32 b) (hd : Fin32 (fsub a b)) (hw : ¬ Flt.NaN single wi) (h : leF (absN (fsub a b)) wi = v) (w : World) (n : Nat) :
    Calls Tryd.prog 13 #[.float .f32 a, .float .f32 b, .float .f32 wi] (w.drewN n) fun e w' => e = .returned (.bool v) ∧ ∃ m, w' = w.drewN m := by
  have e1 := fun w => run_fsub (P := Tryd.prog) w 24 ha hb
  have hn := fin_nan hd
  have hl := fsub_lt ha hb
  rw [← size_abs hn hw] at h
  unfold leF at h
  go_enter Tryd.func13, Tryd.ntmps13
  go_wp2_with (fail)
  refine (specSize_q hn hl w n).mono ?_
  rintro e w1 ⟨rfl, m, rfl⟩
  go_wp2
  go_ret
  exact ⟨by simp, m, rfl⟩
section
variable {r : Int} {s t : Nat} {F : Nat → Nat} {fed cov : Nat} (hS : SmallT r s t F)
include hS
theorem SmallT.lo : -128 ≤ r := by have := hS.h2; omega
theorem SmallT.hi : r ≤ 127 := by have := hS.h6; omega
theorem SmallT.ok : trainB r s t F = true := by
  refine trainB_of hS.h2 (by have := hS.h6; omega) hS.hs hS.ht (fun i hi => ⟨(hS.hF i (by have := hS.h6; omega)).1, (hS.hF i (by have := hS.h6; omega)).2.1⟩) ?_ (fun i hi hr => by rw [hS.hz i hi hr]; decide)
  have h2 := hS.h2
  have h6 := hS.h6
  have s1 := small_sum (n := r.toNat) (F := F) (fun i hi => hS.hF i (by omega)) r.toNat (Nat.le_refl _)
  have s2 : (r.toNat : Int) * 2 ^ 152 ≤ 6 * 2 ^ 152 := Int.mul_le_mul_of_nonneg_right (by omega) (by decide)
  unfold lid
  omega
end
end Go.Proofs.YtihddajpkcjokaaDoor

/-! More that is true of trains of small films: the thickest roller, washed films, halves between two films, the lesser and the greater of two; each under its own premises. -/
set_option linter.unusedVariables false
set_option linter.unusedSimpArgs false
namespace Go.Proofs.YtihddajpkcjokaaDoor
open Go.RowKit Ieee

theorem gt_no {a b : Nat} (ha : ¬ Flt.NaN single a) (hb : ¬ Flt.NaN single b) (h : Z32 a ≤ Z32 b) : (FloatKind.f32.format.order a b == some .gt) = false := by
  cases hc : (FloatKind.f32.format.order a b == some .gt)
  · rfl
  · have := (gt_iff ha hb).1 hc; omega
theorem lt_iff {a b : Nat} (ha : ¬ Flt.NaN single a) (hb : ¬ Flt.NaN single b) : (FloatKind.f32.format.order a b == some .lt) = true ↔ Z32 a < Z32 b := by
  rw [order_Z ha hb]
  simp only [beq_iff_eq, Option.some.injEq]
  exact Int.compare_eq_lt
theorem lt_no {a b : Nat} (ha : ¬ Flt.NaN single a) (hb : ¬ Flt.NaN single b) (h : Z32 b ≤ Z32 a) : (FloatKind.f32.format.order a b == some .lt) = false := by
  cases hc : (FloatKind.f32.format.order a b == some .lt)
  · rfl
  · have := (lt_iff ha hb).1 hc; omega
/-! ### the thickest roller -/
/-! ### halves -/
/-! ### the lesser and the greater of two -/
section
variable {P : Program}
end
theorem sameNum_any (a : Nat) (w : World) : Calls Tryd.prog 11 #[.float .f32 a, .float .f32 a] w fun e w' => e = .returned (.bool true) ∧ w = w' := by
  have h := fun w => specSame_any (a := a) (b := a) (w := w)
  rw [sameN_self] at h
  go_enter Tryd.func11, Tryd.ntmps11
  go_wp2_with (fail)
  refine (h _).mono ?_
  rintro e w1 ⟨rfl, rfl⟩
  go_wp2
  go_ret
  exact ⟨rfl, rfl⟩
end Go.Proofs.YtihddajpkcjokaaDoor

/-! Ink that is fed is printed or kept, nearly: sums of errors over at most nineteen turns of small films; each under its own premises. -/
set_option linter.unusedVariables false
set_option linter.unusedSimpArgs false
namespace Go.Proofs.YtihddajpkcjokaaDoor
open Go.RowKit Ieee

def dlt : Int := 2 ^ 132
def lim : Int := 2 ^ 157
theorem abs_Z_neg {v : Nat} (h : Z32 v < 0) : Z32 (absN v) = -Z32 v := by
  have hn := neg_Z h
  rw [absN_Z]
  unfold Z32 Flt.Z Flt.sg
  rw [if_pos hn]
  omega
theorem near_Z {x y wi : Nat} {c : Int} (hx : Fin32 x) (hy : Fin32 y) (hl : Z32 x - Z32 y < lim) (hl2 : Z32 y - Z32 x < lim) (hw : ¬ Flt.NaN single wi) (hc : c + dlt ≤ Z32 wi) (h1 : Z32 x - Z32 y ≤ c) (h2 : Z32 y - Z32 x ≤ c) :
    Fin32 (fsub x y) ∧ leF (absN (fsub x y)) wi = true := by
  have hd : dlt = 2 ^ 132 := rfl
  have hm : lim = 2 ^ 157 := rfl
  obtain ⟨e1, e2⟩ := fsub_err (t := 133) (by omega) hx hy (by omega)
  have hf : Fin32 (fsub x y) := fin_of (num_fsub hx hy) (by omega) (by omega)
  refine ⟨hf, (leF_iff hw).2 ⟨absN_num (fin_nan hf), ?_⟩⟩
  by_cases h0 : 0 ≤ Z32 (fsub x y)
  · rw [abs_Z_pos h0]; omega
  · rw [abs_Z_neg (by omega)]; omega
end Go.Proofs.YtihddajpkcjokaaDoor

/-! Gains and light: what has gained is no less, what is taken back becomes the dot, nearly, and the dot of a light is found, nearly; each under its own premises. -/
set_option linter.unusedVariables false
set_option linter.unusedSimpArgs false
namespace Go.Proofs.YtihddajpkcjokaaDoor
open Go.RowKit Ieee

theorem fmul_err {x y t : Nat} (ht : t ≤ 240) (hx : Fin32 x) (hy : Fin32 y) (hz : (Z32 x * Z32 y).natAbs < 2 ^ (149 + 24 + t)) :
    2 * (Z32 (fmul x y) * 2 ^ 149 - Z32 x * Z32 y) ≤ 2 ^ (149 + t) ∧ 2 * (Z32 x * Z32 y - Z32 (fmul x y) * 2 ^ 149) ≤ 2 ^ (149 + t) := by
  rw [Z_fmul hx hy]
  exact RZ_err (z := Z32 x * Z32 y) (d := 149) (t := t) ht hz
theorem clip_Z {x : Nat} (h : ¬ Flt.NaN single x) : Z32 (clipR x) = if 2 ^ 149 < Z32 x then 2 ^ 149 else if Z32 x < 0 then 0 else Z32 x := by
  unfold clipR
  rw [order_Z h (by decide), order_Z h (by decide), show Z32 1065353216 = 2 ^ 149 from Z_one, show Z32 0 = 0 from Z_zero]
  by_cases h1 : 2 ^ 149 < Z32 x
  · rw [Int.compare_eq_gt.2 h1, if_pos (by rfl), if_pos h1, Z_one]
  · rw [if_neg (c := 2 ^ 149 < Z32 x) h1]
    have n1 : (some (compare (Z32 x) (2 ^ 149)) == some Ordering.gt) = false := by
      cases hc : compare (Z32 x) (2 ^ 149)
      · rfl
      · rfl
      · exact absurd (Int.compare_eq_gt.1 hc) h1
    rw [n1]
    by_cases h2 : Z32 x < 0
    · rw [Int.compare_eq_lt.2 h2, if_pos h2]
      exact Z_zero
    · have n2 : (some (compare (Z32 x) 0) == some Ordering.lt) = false := by
        cases hc : compare (Z32 x) 0
        · exact absurd (Int.compare_eq_lt.1 hc) h2
        · rfl
        · rfl
      rw [n2, if_neg h2]
      rfl
/-- A product's sum of errors. -/
theorem prod_near {A B P V e : Int} (h1 : A - P ≤ e) (h2 : P - A ≤ e) (h3 : B - V ≤ e) (h4 : V - B ≤ e) (hB : 0 ≤ B) (hP : 0 ≤ P) : A * B - P * V ≤ e * B + P * e ∧ P * V - A * B ≤ e * B + P * e := by
  have q1 := Int.mul_le_mul_of_nonneg_right h1 hB
  have q2 := Int.mul_le_mul_of_nonneg_right h2 hB
  have q3 := Int.mul_le_mul_of_nonneg_left h3 hP
  have q4 := Int.mul_le_mul_of_nonneg_left h4 hP
  simp only [Int.sub_mul, Int.mul_sub] at q1 q2 q3 q4
  constructor <;> omega
structure GainErr (d g : Nat) (W M S : Int) : Prop where
  out : Z32 (gained d g) = if 2 ^ 149 < S then 2 ^ 149 else if S < 0 then 0 else S
  m0 : 0 ≤ M
  w1 : W * 2 ^ 149 - (4 * Z32 d) * (2 ^ 149 - Z32 d) ≤ 2 ^ 280
  w2 : (4 * Z32 d) * (2 ^ 149 - Z32 d) - W * 2 ^ 149 ≤ 2 ^ 280
  e1 : M * 2 ^ 149 - Z32 g * W ≤ 2 ^ 276
  e2 : Z32 g * W - M * 2 ^ 149 ≤ 2 ^ 276
  s1 : S - (Z32 d + M) ≤ 2 ^ 127
  s2 : (Z32 d + M) - S ≤ 2 ^ 127
  ge : Z32 d ≤ S
theorem gain_err {d g : Nat} (hd : partB d = true) (hg : gainB g = true) : ∃ W M S, GainErr d g W M S := by
  obtain ⟨f1, f2, f3, f4, n5, p4⟩ := gain_facts hd hg
  obtain ⟨_, d2, d3⟩ := (part_iff d).1 hd
  obtain ⟨_, g2, g3⟩ := (gain_iff g).1 hg
  obtain ⟨_, b0, b1⟩ := (part_iff _).1 (part_one_sub hd)
  have fd := part_fin hd
  have fg := gain_fin hg
  have four : Fin32 1082130432 := by decide
  have one : Fin32 1065353216 := by decide
  obtain ⟨a, ha⟩ : ∃ a, a = fmul 1082130432 d := ⟨_, rfl⟩
  obtain ⟨b, hb⟩ : ∃ b, b = fsub 1065353216 d := ⟨_, rfl⟩
  obtain ⟨w, hw⟩ : ∃ w, w = fmul a b := ⟨_, rfl⟩
  obtain ⟨m, hm⟩ : ∃ m, m = fmul g w := ⟨_, rfl⟩
  have hout : gained d g = clipR (fadd d m) := by rw [hm, hw, ha, hb]; rfl
  rw [← ha, ← hb, ← hw, ← hm] at n5 p4
  rw [← ha] at f1
  rw [← hb] at f2 b0 b1
  rw [← ha, ← hb, ← hw] at f3 f4
  rw [← hm] at f4
  -- 4 d
  have x1 : Z32 1082130432 * Z32 d = 2 ^ 151 * Z32 d := by rw [Z_four]
  obtain ⟨q1, q2⟩ := fmul_err (t := 128) (by omega) four fd (by rw [x1]; omega)
  rw [← ha, x1] at q1 q2
  have a1 : Z32 a - 4 * Z32 d ≤ 2 ^ 127 := by omega
  have a2 : 4 * Z32 d - Z32 a ≤ 2 ^ 127 := by omega
  -- 1 - d
  obtain ⟨q3, q4⟩ := fsub_err (t := 128) (by omega) one fd (by rw [Z_one]; omega)
  rw [← hb, Z_one] at q3 q4
  have v1 : Z32 b - (2 ^ 149 - Z32 d) ≤ 2 ^ 127 := by omega
  have v2 : (2 ^ 149 - Z32 d) - Z32 b ≤ 2 ^ 127 := by omega
  -- their product
  obtain ⟨r1, r2⟩ := prod_near a1 a2 v1 v2 b0 (by omega : 0 ≤ 4 * Z32 d)
  have hab0 : (4 * Z32 d) * (2 ^ 149 - Z32 d) ≤ (2 ^ 151) * (2 ^ 149) := Int.mul_le_mul (by omega) (by omega) (by omega) (by omega)
  have hab1 : 0 ≤ (4 * Z32 d) * (2 ^ 149 - Z32 d) := Int.mul_nonneg (by omega) (by omega)
  have r3 : Z32 a * Z32 b - (4 * Z32 d) * (2 ^ 149 - Z32 d) ≤ 2 ^ 279 := by omega
  have r4 : (4 * Z32 d) * (2 ^ 149 - Z32 d) - Z32 a * Z32 b ≤ 2 ^ 279 := by omega
  obtain ⟨q5, q6⟩ := fmul_err (t := 130) (by omega) f1 f2 (by omega)
  rw [← hw] at q5 q6
  have w1 : Z32 w * 2 ^ 149 - (4 * Z32 d) * (2 ^ 149 - Z32 d) ≤ 2 ^ 280 := by omega
  have w2 : (4 * Z32 d) * (2 ^ 149 - Z32 d) - Z32 w * 2 ^ 149 ≤ 2 ^ 280 := by omega
  -- with the gain
  have wl : Z32 w ≤ 2 ^ 152 := by omega
  have wg : -(2 : Int) ^ 131 ≤ Z32 w := by omega
  have k1 := Int.mul_le_mul_of_nonneg_left wl g2
  have k2 := Int.mul_le_mul_of_nonneg_left wg g2
  obtain ⟨q7, q8⟩ := fmul_err (t := 128) (by omega) fg f3 (by omega)
  rw [← hm] at q7 q8
  have m2 : Z32 m ≤ 2 ^ 151 := by omega
  -- the sum
  obtain ⟨q9, q10⟩ := fadd_err (t := 128) (by omega) fd f4 (by omega)
  refine ⟨Z32 w, Z32 m, Z32 (fadd d m), ?_, p4, w1, w2, by omega, by omega, by omega, by omega, ?_⟩
  · rw [hout]; exact clip_Z n5
  · exact fadd_ge fd f4 fd (by omega)
/-- A dot that has gained is no less. -/
theorem gained_ge {d g : Nat} (hd : partB d = true) (hg : gainB g = true) : Z32 d ≤ Z32 (gained d g) := by
  obtain ⟨W, M, S, h⟩ := gain_err hd hg
  obtain ⟨_, d2, d3⟩ := (part_iff d).1 hd
  have := h.ge
  rw [h.out]
  split
  · exact d3
  · split <;> omega
theorem gained_le {d g : Nat} (hd : partB d = true) (hg : gainB g = true) : Z32 (gained d g) ≤ 2 ^ 149 := ((part_iff _).1 (part_gained hd hg)).2.2
/-- Without a gain a dot stays. -/
theorem gained_zero {d : Nat} (hd : partB d = true) : Z32 (gained d 0) = Z32 d := by
  have hg : gainB 0 = true := by decide +kernel
  obtain ⟨f1, f2, f3, f4, n5, p4⟩ := gain_facts hd hg
  obtain ⟨_, d2, d3⟩ := (part_iff d).1 hd
  have fd := part_fin hd
  have hm : Z32 (fmul 0 (fmul (fmul 1082130432 d) (fsub 1065353216 d))) ≤ 0 := by
    have := fmul_le (by decide : Fin32 0) f3 (c := 0) (by decide) (by rw [Z_zero, Int.zero_mul, Int.zero_mul]; exact Int.le_refl _)
    rwa [Z_zero] at this
  have h1 := fadd_le fd f4 fd (by omega)
  have h2 := fadd_ge fd f4 fd (by omega)
  show Z32 (clipR (fadd d (fmul 0 (fmul (fmul 1082130432 d) (fsub 1065353216 d))))) = _
  rw [clip_Z n5]
  split
  · omega
  · split <;> omega
/-- All of a full dot is full. -/
theorem gained_one {g : Nat} (hg : gainB g = true) : Z32 (gained 1065353216 g) = 2 ^ 149 := by
  have h1 := gained_ge (d := 1065353216) (by decide +kernel) hg
  have h2 := gained_le (d := 1065353216) (by decide +kernel) hg
  rw [Z_one] at h1
  omega
/-- The half of two neighbours. -/
theorem half_grid {lo hi q e : Nat} (h1 : partB lo = true) (h2 : partB hi = true) (he : e ≤ 148) (hq : 2 * q + 1 < 2 ^ 24) (z1 : Z32 lo = ((q * 2 ^ (e + 1) : Nat) : Int)) (z2 : Z32 hi = (((q + 1) * 2 ^ (e + 1) : Nat) : Int)) : Z32 (halfR lo hi) = (((2 * q + 1) * 2 ^ e : Nat) : Int) := by
  obtain ⟨T, hT⟩ : ∃ T : Nat, T = (2 * q + 1) * 2 ^ e := ⟨_, rfl⟩
  obtain ⟨E, hE⟩ : ∃ E : Nat, E = 2 ^ e := ⟨_, rfl⟩
  have hE1 : 2 ^ (e + 1) = 2 * E := by rw [hE, Nat.pow_succ]; omega
  obtain ⟨R, hR⟩ : ∃ R : Nat, R = q * E := ⟨_, rfl⟩
  have e1 : q * (2 * E) = 2 * R := by rw [hR, Nat.mul_left_comm]
  have e2 : (q + 1) * (2 * E) = 2 * R + 2 * E := by rw [Nat.add_mul, e1]; omega
  have e3 : T = 2 * R + E := by rw [hT, ← hE, Nat.add_mul, hR, Nat.mul_assoc]; omega
  rw [hE1, e1] at z1
  rw [hE1, e2] at z2
  obtain ⟨c, c1, c2⟩ := grid (2 * q + 1) (e + 1) hq (by omega)
  have c3 : Z32 c = ((2 * T : Nat) : Int) := by rw [c2, hE1, hT, ← hE, Nat.mul_left_comm]
  obtain ⟨c', c4, c5⟩ := grid (2 * q + 1) e hq (by omega)
  rw [← hT] at c5
  have fa := part_fin h1
  have fb := part_fin h2
  obtain ⟨fs, s0, _⟩ := part_sum h1 h2
  have s1 := fadd_le fa fb c1 (by omega)
  have s2 := fadd_ge fa fb c1 (by omega)
  have two : Fin32 1073741824 := by decide
  have zt : 0 < Z32 1073741824 := by rw [Z_two]; decide
  have t1 := fdiv_le fs two s0 zt c4 (by omega) (by rw [Z_two]; omega)
  have t2 := fdiv_ge fs two s0 zt c4 (by omega) (by rw [Z_two]; omega)
  rw [← hT]
  show Z32 (fdiv (fadd lo hi) 1073741824) = _
  omega
/-- What the search holds: two neighbours, the upper one's gain no less than the dot, the lower one's less. -/
theorem lose_inv {d g : Nat} (hd : partB d = true) (hg : gainB g = true) : ∀ k, k ≤ 24 → ∃ q : Nat, q < 2 ^ k ∧ Z32 (loseAt d g k).1 = ((q * 2 ^ (149 - k) : Nat) : Int) ∧ Z32 (loseAt d g k).2 = (((q + 1) * 2 ^ (149 - k) : Nat) : Int) ∧ Z32 d ≤ Z32 (gained (loseAt d g k).2 g) ∧ ((loseAt d g k).1 = 0 ∨ Z32 (gained (loseAt d g k).1 g) < Z32 d)
  | 0, _ => by
    refine ⟨0, by decide, ?_, ?_, ?_, Or.inl rfl⟩
    · show Z32 0 = _
      rw [Z_zero]; simp
    · show Z32 1065353216 = _
      rw [Z_one]; simp
    · show _ ≤ Z32 (gained 1065353216 g)
      rw [gained_one hg]
      exact ((part_iff d).1 hd).2.2
  | k + 1, hk => by
    obtain ⟨q, hq, z1, z2, h3, h4⟩ := lose_inv hd hg k (by omega)
    obtain ⟨p1, p2⟩ := part_lose d g k
    obtain ⟨lo, hi, hp⟩ : ∃ lo hi, loseAt d g k = (lo, hi) := ⟨_, _, rfl⟩
    rw [hp] at z1 z2 h3 h4 p1 p2
    dsimp only at z1 z2 h3 h4 p1 p2
    have hk24 : 2 ^ k ≤ 2 ^ 23 := Nat.pow_le_pow_right (by decide) (by omega)
    have ek : 149 - k = 148 - k + 1 := by omega
    rw [ek] at z1 z2
    have hh := half_grid p1 p2 (e := 148 - k) (by omega) (by omega) z1 z2
    have e1 : 149 - (k + 1) = 148 - k := by omega
    have d1 : ∀ x : Nat, x * 2 ^ (148 - k + 1) = (2 * x) * 2 ^ (148 - k) := fun x => by rw [Nat.pow_succ, Nat.mul_comm (2 ^ (148 - k)) 2, ← Nat.mul_assoc, Nat.mul_comm x 2]
    rw [d1] at z1 z2
    have ph := part_half p1 p2
    have nh := fin_nan (part_fin (part_gained ph hg))
    have nd := fin_nan (part_fin hd)
    have pk : 2 ^ (k + 1) = 2 * 2 ^ k := by rw [Nat.pow_succ]; omega
    cases hc : (FloatKind.f32.format.order (gained (halfR lo hi) g) d == some .lt)
    · rw [loseAt_ge hp hc, e1]
      refine ⟨2 * q, by omega, z1, hh, ?_, h4⟩
      show Z32 d ≤ Z32 (gained (halfR lo hi) g)
      rw [order_Z nh nd] at hc
      rcases Int.lt_trichotomy (Z32 (gained (halfR lo hi) g)) (Z32 d) with h | h | h
      · rw [Int.compare_eq_lt.2 h] at hc; simp at hc
      · omega
      · omega
    · rw [loseAt_lt hp hc, e1]
      refine ⟨2 * q + 1, by omega, hh, ?_, h3, Or.inr ((lt_iff nh nd).1 hc)⟩
      rw [z2]
      congr 2
/-- What is taken back becomes the dot, nearly. -/
theorem home_near {d g : Nat} (hd : partB d = true) (hg : gainB g = true) : partB (loseAt d g 24).2 = true ∧ Z32 d ≤ Z32 (gained (loseAt d g 24).2 g) ∧ Z32 (gained (loseAt d g 24).2 g) - Z32 d ≤ 2 ^ 135 := by
  obtain ⟨q, hq, z1, z2, h3, h4⟩ := lose_inv hd hg 24 (Nat.le_refl _)
  obtain ⟨p1, p2⟩ := part_lose d g 24
  refine ⟨p2, h3, ?_⟩
  generalize (loseAt d g 24).1 = lo at *
  generalize (loseAt d g 24).2 = hi at *
  obtain ⟨_, d2, d3⟩ := (part_iff d).1 hd
  obtain ⟨_, l2, l3⟩ := (part_iff lo).1 p1
  obtain ⟨_, u2, u3⟩ := (part_iff hi).1 p2
  obtain ⟨_, g2, g3⟩ := (gain_iff g).1 hg
  have hx : Z32 hi = Z32 lo + 2 ^ 125 := by
    have : (q + 1) * 2 ^ (149 - 24) = q * 2 ^ (149 - 24) + 2 ^ 125 := by rw [Nat.add_mul]
    rw [z1, z2, this]
    simp
  obtain ⟨W, M, S, a⟩ := gain_err p1 hg
  obtain ⟨W', M', S', b⟩ := gain_err p2 hg
  have hS : S ≤ Z32 d + 2 ^ 132 := by
    rcases h4 with h4 | h4
    · subst h4
      have w1 := a.w1
      have e1 := a.e1
      have s1 := a.s1
      rw [show Z32 0 = 0 from Z_zero] at w1 s1
      have hw : W ≤ 2 ^ 131 := by omega
      have := Int.mul_le_mul_of_nonneg_left hw g2
      omega
    · have := a.out
      rw [this] at h4
      split at h4
      · omega
      · split at h4 <;> omega
  have w1 := a.w1
  have w2 := a.w2
  have w1' := b.w1
  have w2' := b.w2
  have e1 := a.e1
  have e2 := a.e2
  have e1' := b.e1
  have s2 := a.s2
  have s1' := b.s1
  rw [hx] at w1' s1'
  have hexp : (4 * (Z32 lo + 2 ^ 125)) * (2 ^ 149 - (Z32 lo + 2 ^ 125)) ≤ (4 * Z32 lo) * (2 ^ 149 - Z32 lo) + 2 ^ 276 := by
    simp only [Int.mul_sub, Int.mul_add, Int.add_mul, Int.sub_mul]
    omega
  have hW : W' - W ≤ 2 ^ 133 := by omega
  have hg1 := Int.mul_le_mul_of_nonneg_left hW g2
  rw [Int.mul_sub] at hg1
  have hM : M' ≤ M + 2 ^ 132 := by omega
  rw [b.out]
  have := b.m0
  split
  · omega
  · split <;> omega
/-- The dot of a light is found, nearly. -/
theorem found_near {d s : Nat} (hd : partB d = true) (hs : partB s = true) (h5 : Z32 s < 2 ^ 148) : Fin32 (dotQ (lightR d s) s) ∧ Z32 (dotQ (lightR d s) s) - Z32 d ≤ 2 ^ 132 ∧ Z32 d - Z32 (dotQ (lightR d s) s) ≤ 2 ^ 132 := by
  obtain ⟨_, d2, d3⟩ := (part_iff d).1 hd
  obtain ⟨_, s2, s3⟩ := (part_iff s).1 hs
  have fd := part_fin hd
  have fs := part_fin hs
  have one : Fin32 1065353216 := by decide
  have pv := part_one_sub hs
  obtain ⟨v, hv⟩ : ∃ v, v = fsub 1065353216 s := ⟨_, rfl⟩
  have v5 : Z32 1056964608 ≤ Z32 (fsub 1065353216 s) := fsub_ge one fs (by decide) (by rw [show Z32 1056964608 = 2 ^ 148 from by decide +kernel, Z_one]; omega)
  rw [show Z32 1056964608 = 2 ^ 148 from by decide +kernel] at v5
  have hl : lightR d s = fsub 1065353216 (fmul d (fsub 1065353216 s)) := by unfold lightR; rw [hd, hs]; rfl
  have pm := part_mul hd pv
  have pl := part_one_sub pm
  have pn := part_one_sub pl
  unfold dotQ
  rw [hl]
  rw [← hv] at pv pm pl pn v5 ⊢
  obtain ⟨_, v2, v3⟩ := (part_iff v).1 pv
  have fv := part_fin pv
  obtain ⟨m, hm⟩ : ∃ m, m = fmul d v := ⟨_, rfl⟩
  rw [← hm] at pm pl pn ⊢
  obtain ⟨_, m2, m3⟩ := (part_iff m).1 pm
  have fm := part_fin pm
  have k1 := Int.mul_le_mul d3 v3 v2 (by decide)
  have k0 := Int.mul_nonneg d2 v2
  obtain ⟨q1, q2⟩ := fmul_err (t := 128) (by omega) fd fv (by omega)
  rw [← hm] at q1 q2
  obtain ⟨l, hl'⟩ : ∃ l, l = fsub 1065353216 m := ⟨_, rfl⟩
  obtain ⟨q3, q4⟩ := fsub_err (t := 128) (by omega) one fm (by rw [Z_one]; omega)
  rw [← hl'] at pl pn q3 q4 ⊢
  rw [Z_one] at q3 q4
  obtain ⟨_, l2, l3⟩ := (part_iff l).1 pl
  obtain ⟨n, hn⟩ : ∃ n, n = fsub 1065353216 l := ⟨_, rfl⟩
  obtain ⟨q5, q6⟩ := fsub_err (t := 128) (by omega) one (part_fin pl) (by rw [Z_one]; omega)
  rw [← hn] at pn q5 q6 ⊢
  rw [Z_one] at q5 q6
  obtain ⟨_, n2, n3⟩ := (part_iff n).1 pn
  have fn := part_fin pn
  have b1 : Z32 n * 2 ^ 149 - Z32 d * Z32 v ≤ 2 ^ 278 := by omega
  have b2 : Z32 d * Z32 v - Z32 n * 2 ^ 149 ≤ 2 ^ 278 := by omega
  obtain ⟨D, hD⟩ : ∃ D : Nat, (D : Int) = Z32 d := ⟨(Z32 d).toNat, by omega⟩
  have hv0 : 0 < Z32 v := by omega
  obtain ⟨c, c1, c2⟩ := grid (D / 2 ^ 131 + 2) 131 (by omega) (by omega)
  have c3 : Z32 d + 2 ^ 131 ≤ Z32 c := by rw [c2]; omega
  have c4 : Z32 c ≤ Z32 d + 2 ^ 132 := by rw [c2]; omega
  have c5 := Int.mul_le_mul_of_nonneg_right c3 v2
  rw [Int.add_mul] at c5
  have u1 := fdiv_le fn fv n2 hv0 c1 (by omega) (by omega)
  have u0 := fdiv_ge fn fv n2 hv0 (c := 0) (by decide) (by rw [Z_zero]; omega) (by rw [Z_zero, Int.zero_mul]; omega)
  rw [Z_zero] at u0
  refine ⟨fin_of (num_fdiv fn fv (by omega)) (by omega) (by omega), by omega, ?_⟩
  by_cases hq : D / 2 ^ 131 = 0
  · omega
  · obtain ⟨e, e1, e2⟩ := grid (D / 2 ^ 131 - 1) 131 (by omega) (by omega)
    have e3 : Z32 e ≤ Z32 d - 2 ^ 131 := by rw [e2]; omega
    have e4 : Z32 d - 2 ^ 132 ≤ Z32 e := by rw [e2]; omega
    have e5 := Int.mul_le_mul_of_nonneg_right e3 v2
    rw [Int.sub_mul] at e5
    have u2 := fdiv_ge fn fv n2 hv0 e1 (by omega) (by omega)
    omega
end Go.Proofs.YtihddajpkcjokaaDoor

/-! The draws of a part and of a film, as words of 32 bits; each under its own premises. -/
set_option linter.unusedVariables false
set_option linter.unusedSimpArgs false
namespace Go.Proofs.YtihddajpkcjokaaDoor
open Go.RowKit Ieee

theorem fdiv_lt {x y : Nat} (hx : Fin32 x) (hy : Fin32 y) (h0 : Z32 y ≠ 0) : fdiv x y < 2 ^ 32 := by
  obtain ⟨g, e, hg, _⟩ := Flt.div_fin single (D := 149) (by decide) hx hy h0
  unfold fdiv
  rw [e]
  simp only [Option.getD_some]
  have h1 := Flt.infRung_lt' single
  have hsw := sw_single
  unfold Ieee.Format.word
  split <;> omega
theorem toneL_any (b k : Nat) (ao : Option Addr) (n cap : Nat) (w : World) (hk : k < 1152921504606846976) (hs : Src w b k ao n cap) (hb : BytesAt w b ao n) :
    Calls Tryd.prog 26 #[.pointer (some ⟨b, 0, none⟩)] w fun e w' => ∃ v : Nat, e = .returned (.float .f32 v) ∧ (partB v = true ∧ v < 2 ^ 32) ∧ Src w' b (k + 4) ao n cap ∧ Moved b w w' := by
  have cv : ∀ (m : Nat) (w : World), (convert 2 24 (.int .i64 (m : Int))).run Tryd.prog w = .ok (.float .f32 (floatOfInt .f32 (m : Int))) w := fun m w => by kernel_rfl
  have dv : ∀ (x y : Nat) (hx : Fin32 x) (hy : Fin32 y) (h0 : Z32 y ≠ 0) (w : World), (binOp .quo 24 (.float .f32 x) (.float .f32 y)).run Tryd.prog w = .ok (.float .f32 (fdiv x y)) w := fun x y hx hy h0 w => run_fdiv w 24 hx hy h0
  go_enter Tryd.func26, Tryd.ntmps26
  go_wp2_with (fail)
  refine (pick_any b k ao n cap 4 _ (by omega) (by omega) (by omega) hs hb).mono ?_
  rintro e w1 ⟨x, rfl, hx0, hx9, hs1, hm1⟩
  have hb1 := hm1.bytes hb (Nat.le_refl _)
  by_cases h0 : x = 0
  · subst h0
    go_wp2_with (fail)
    refine (pick_any b (k + 2) ao n cap 17 _ (by omega) (by omega) (by omega) hs1 hb1).mono ?_
    rintro e w2 ⟨y, rfl, hy0, hy9, hs2, hm2⟩
    obtain ⟨y, rfl⟩ := Int.eq_ofNat_of_zero_le hy0
    have d := fun w => dv (floatOfInt .f32 (y : Int)) 1098907648 (quo_fin (by omega)) (by decide) ne_16 w
    have c := cv y
    go_wp2
    go_ret
    exact ⟨_, rfl, ⟨up_part (quo_up (m := 16) (q := 1) (by omega) (by decide) (by omega) Z_16 (by decide) Z_1 (by omega) (by omega) (by omega)), fdiv_lt (quo_fin (by omega)) (by decide) ne_16⟩, hs2, hm1.trans hm2⟩
  · by_cases h1 : x = 1
    · subst h1
      go_wp2_with (fail)
      refine (pick_any b (k + 2) ao n cap 1001 _ (by omega) (by omega) (by omega) hs1 hb1).mono ?_
      rintro e w2 ⟨y, rfl, hy0, hy9, hs2, hm2⟩
      obtain ⟨y, rfl⟩ := Int.eq_ofNat_of_zero_le hy0
      have d := fun w => dv (floatOfInt .f32 (y : Int)) 1148846080 (quo_fin (by omega)) (by decide) ne_1000 w
      have c := cv y
      go_wp2
      go_ret
      exact ⟨_, rfl, ⟨up_part (quo_up (m := 1000) (q := 1) (by omega) (by decide) (by omega) Z_1000 (by decide) Z_1 (by omega) (by omega) (by omega)), fdiv_lt (quo_fin (by omega)) (by decide) ne_1000⟩, hs2, hm1.trans hm2⟩
    · have e0 : (x == 0) = false := by simp [h0]
      have e1 : (x == 1) = false := by simp [h1]
      go_wp2_with (fail)
      refine (pick_any b (k + 2) ao n cap 1048576 _ (by omega) (by omega) (by omega) hs1 hb1).mono ?_
      rintro e w2 ⟨y, rfl, hy0, hy9, hs2, hm2⟩
      obtain ⟨y, rfl⟩ := Int.eq_ofNat_of_zero_le hy0
      have d := fun w => dv (floatOfInt .f32 (y : Int)) 1233125376 (quo_fin (by omega)) (by decide) ne_meg w
      have c := cv y
      go_wp2
      go_ret
      exact ⟨_, rfl, ⟨up_part (quo_up (m := 1048576) (q := 1) (by omega) (by decide) (by omega) Z_meg (by decide) Z_1 (by omega) (by omega) (by omega)), fdiv_lt (quo_fin (by omega)) (by decide) ne_meg⟩, hs2, hm1.trans hm2⟩
end Go.Proofs.YtihddajpkcjokaaDoor

/-! Contracts of the draw of a plate, and of A2Plate and A2Gain; each under its own premises. -/
set_option linter.unusedVariables false
set_option linter.unusedSimpArgs false
namespace Go.Proofs.YtihddajpkcjokaaDoor
open Go.RowKit Ieee

/-- A plate as it is drawn. -/
structure DrawnP (a b : Nat) (F : Nat → Nat) : Prop where
  a1 : 1 ≤ a
  a5 : a ≤ 5
  b1 : 1 ≤ b
  b5 : b ≤ 5
  dot : ∀ i : Nat, partB (F i) = true ∧ F i < 2 ^ 32
  out : ∀ i : Nat, isC a b i = false → F i = 0
set_option maxRecDepth 100000 in
set_option maxHeartbeats 3200000 in
theorem drawnP_any (b : Nat) (ao : Option Addr) (n cap : Nat) (w : World) (hs : Src w b 0 ao n cap) (hb : BytesAt w b ao n) (hl : b < w.heap.size) :
    Calls Tryd.prog 40 #[.pointer (some ⟨b, 0, none⟩)] w fun e w' => ∃ (A B : Nat) (F : Nat → Nat), e = .returned (.agg (plate A B F)) ∧ DrawnP A B F ∧ Below b w w' := by
  have hz : Tryd.zeroCells35 = row [.int .i8 0, .int .i8 0] 64 (fun _ => 0) := rfl
  obtain ⟨p0, sd0, hp0, hB0⟩ := hs
  go_enter Tryd.func40, Tryd.ntmps40
  go_wp2_with (fail)
  refine (pick_any b 0 ao n cap 5 _ (by omega) (by omega) (by omega) ⟨p0, sd0, hp0, (by repeat (first | (with_reducible assumption) | ((with_reducible refine blk_new _ _ _ ?_); focus (first | omega | (simp; done) | (simp; omega))) | ((with_reducible refine blk_old _ _ _ ?_ ?_); focus (simp; done)) | ((with_reducible refine blk_old _ _ _ ?_ ?_); focus (first | omega | (simp; omega))) | ((with_reducible apply blk_set); focus (simp; done)) | ((with_reducible refine blk_off _ _ _ _ ?_ ?_); focus (simp; done)) | ((with_reducible refine blk_offc _ _ _ _ ?_ ?_); focus (first | (simp; done) | omega | (simp; omega))) | ((with_reducible refine blk_off _ _ _ _ ?_ ?_); focus (first | omega | (simp; omega))) | (with_reducible refine blk_drew _ _ ?_) | ((with_reducible refine blk_below (by assumption) ?_ ?_); focus (simp; done)) | ((with_reducible refine blk_below (by assumption) ?_ ?_); focus (first | omega | (simp; omega)))))⟩ (bytes_below (by repeat (first | (with_reducible assumption) | (with_reducible exact Below.refl _ _) | ((with_reducible refine bel_alloc _ ?_ ?_); focus (first | omega | (simp; done) | (simp; omega))) | ((with_reducible refine bel_row _ ?_ ?_); focus (first | omega | (simp; done) | (simp; omega))) | ((with_reducible refine bel_cell _ ?_ ?_); focus (first | omega | (simp; done) | (simp; omega))) | (with_reducible refine Below.drew ?_) | (with_reducible refine below_wideW _ ?_) | ((with_reducible refine bel_next (by assumption) ?_ ?_); focus (first | omega | (simp; done) | (simp; omega))))) hb)).mono ?_
  rintro e w1 ⟨x, rfl, hx0, hx9, ⟨p1, sd1, hp1, hB1⟩, hm1⟩
  have hR1 : w1.heap[w.heap.size]? = some (.cells (plate 0 0 (fun _ => 0)) 35 (0, 0)) := (hm1.2.1 _ (by omega)).trans (by repeat (first | (with_reducible assumption) | ((with_reducible refine blk_new _ _ _ ?_); focus (first | omega | (simp; done) | (simp; omega))) | ((with_reducible refine blk_old _ _ _ ?_ ?_); focus (simp; done)) | ((with_reducible refine blk_old _ _ _ ?_ ?_); focus (first | omega | (simp; omega))) | ((with_reducible apply blk_set); focus (simp; done)) | ((with_reducible refine blk_off _ _ _ _ ?_ ?_); focus (simp; done)) | ((with_reducible refine blk_offc _ _ _ _ ?_ ?_); focus (first | (simp; done) | omega | (simp; omega))) | ((with_reducible refine blk_off _ _ _ _ ?_ ?_); focus (first | omega | (simp; omega))) | (with_reducible refine blk_drew _ _ ?_) | ((with_reducible refine blk_below (by assumption) ?_ ?_); focus (simp; done)) | ((with_reducible refine blk_below (by assumption) ?_ ?_); focus (first | omega | (simp; omega)))))
  have hz1 : w1.heap.size = w.heap.size + 1 := hm1.2.2.trans (by simp)
  have hd1 : Below b w w1 := Below.trans (by repeat (first | (with_reducible assumption) | (with_reducible exact Below.refl _ _) | ((with_reducible refine bel_alloc _ ?_ ?_); focus (first | omega | (simp; done) | (simp; omega))) | ((with_reducible refine bel_row _ ?_ ?_); focus (first | omega | (simp; done) | (simp; omega))) | ((with_reducible refine bel_cell _ ?_ ?_); focus (first | omega | (simp; done) | (simp; omega))) | (with_reducible refine Below.drew ?_) | (with_reducible refine below_wideW _ ?_) | ((with_reducible refine bel_next (by assumption) ?_ ?_); focus (first | omega | (simp; done) | (simp; omega))))) hm1.1
  clear hm1 hB0
  obtain ⟨x, rfl⟩ := Int.eq_ofNat_of_zero_le hx0
  obtain ⟨A, hA⟩ : ∃ A : Nat, A = x + 1 := ⟨_, rfl⟩
  have hi8 : IntKind.i8.wrap (1 + (x : Int)) = (A : Int) := by rw [i8_small (by omega) (by omega), hA]; omega
  have a1 : 1 ≤ A := by omega
  have a5 : A ≤ 5 := by omega
  clear hA
  go_wp2_with (fail)
  refine (pick_any b 2 ao n cap 5 _ (by omega) (by omega) (by omega) ⟨p1, sd1, hp1, (by repeat (first | (with_reducible assumption) | ((with_reducible refine blk_new _ _ _ ?_); focus (first | omega | (simp; done) | (simp; omega))) | ((with_reducible refine blk_old _ _ _ ?_ ?_); focus (simp; done)) | ((with_reducible refine blk_old _ _ _ ?_ ?_); focus (first | omega | (simp; omega))) | ((with_reducible apply blk_set); focus (simp; done)) | ((with_reducible refine blk_off _ _ _ _ ?_ ?_); focus (simp; done)) | ((with_reducible refine blk_offc _ _ _ _ ?_ ?_); focus (first | (simp; done) | omega | (simp; omega))) | ((with_reducible refine blk_off _ _ _ _ ?_ ?_); focus (first | omega | (simp; omega))) | (with_reducible refine blk_drew _ _ ?_) | ((with_reducible refine blk_below (by assumption) ?_ ?_); focus (simp; done)) | ((with_reducible refine blk_below (by assumption) ?_ ?_); focus (first | omega | (simp; omega)))))⟩ (bytes_below (by repeat (first | (with_reducible assumption) | (with_reducible exact Below.refl _ _) | ((with_reducible refine bel_alloc _ ?_ ?_); focus (first | omega | (simp; done) | (simp; omega))) | ((with_reducible refine bel_row _ ?_ ?_); focus (first | omega | (simp; done) | (simp; omega))) | ((with_reducible refine bel_cell _ ?_ ?_); focus (first | omega | (simp; done) | (simp; omega))) | (with_reducible refine Below.drew ?_) | (with_reducible refine below_wideW _ ?_) | ((with_reducible refine bel_next (by assumption) ?_ ?_); focus (first | omega | (simp; done) | (simp; omega))))) hb)).mono ?_
  rintro e w2 ⟨y, rfl, hy0, hy9, ⟨p2, sd2, hp2, hB2⟩, hm2⟩
  have hR2 : w2.heap[w.heap.size]? = some (.cells (plate 0 0 (fun _ => 0)) 35 (0, 0)) := (hm2.2.1 _ (by omega)).trans (by repeat (first | (with_reducible assumption) | ((with_reducible refine blk_new _ _ _ ?_); focus (first | omega | (simp; done) | (simp; omega))) | ((with_reducible refine blk_old _ _ _ ?_ ?_); focus (simp; done)) | ((with_reducible refine blk_old _ _ _ ?_ ?_); focus (first | omega | (simp; omega))) | ((with_reducible apply blk_set); focus (simp; done)) | ((with_reducible refine blk_off _ _ _ _ ?_ ?_); focus (simp; done)) | ((with_reducible refine blk_offc _ _ _ _ ?_ ?_); focus (first | (simp; done) | omega | (simp; omega))) | ((with_reducible refine blk_off _ _ _ _ ?_ ?_); focus (first | omega | (simp; omega))) | (with_reducible refine blk_drew _ _ ?_) | ((with_reducible refine blk_below (by assumption) ?_ ?_); focus (simp; done)) | ((with_reducible refine blk_below (by assumption) ?_ ?_); focus (first | omega | (simp; omega)))))
  have hz2 : w2.heap.size = w.heap.size + 1 := hm2.2.2.trans (by simp [hz1])
  have hd2 : Below b w w2 := Below.trans (by repeat (first | (with_reducible assumption) | (with_reducible exact Below.refl _ _) | ((with_reducible refine bel_alloc _ ?_ ?_); focus (first | omega | (simp; done) | (simp; omega))) | ((with_reducible refine bel_row _ ?_ ?_); focus (first | omega | (simp; done) | (simp; omega))) | ((with_reducible refine bel_cell _ ?_ ?_); focus (first | omega | (simp; done) | (simp; omega))) | (with_reducible refine Below.drew ?_) | (with_reducible refine below_wideW _ ?_) | ((with_reducible refine bel_next (by assumption) ?_ ?_); focus (first | omega | (simp; done) | (simp; omega))))) hm2.1
  clear hm2 hB1 hR1 hd1 hz1
  obtain ⟨y, rfl⟩ := Int.eq_ofNat_of_zero_le hy0
  obtain ⟨B, hBB⟩ : ∃ B : Nat, B = y + 1 := ⟨_, rfl⟩
  have hj8 : IntKind.i8.wrap (1 + (y : Int)) = (B : Int) := by rw [i8_small (by omega) (by omega), hBB]; omega
  have b1 : 1 ≤ B := by omega
  have b5 : B ≤ 5 := by omega
  clear hBB
  go_wp2_with (first | ((with_reducible refine at_store 35 ?_); refine wpList_store_part rfl 35 _ _ rfl _ 0 _ rfl rfl _ _ (by repeat (first | (with_reducible assumption) | ((with_reducible refine blk_new _ _ _ ?_); focus (first | omega | (simp; done) | (simp; omega))) | ((with_reducible refine blk_old _ _ _ ?_ ?_); focus (simp; done)) | ((with_reducible refine blk_old _ _ _ ?_ ?_); focus (first | omega | (simp; omega))) | ((with_reducible apply blk_set); focus (simp; done)) | ((with_reducible refine blk_off _ _ _ _ ?_ ?_); focus (simp; done)) | ((with_reducible refine blk_offc _ _ _ _ ?_ ?_); focus (first | (simp; done) | omega | (simp; omega))) | ((with_reducible refine blk_off _ _ _ _ ?_ ?_); focus (first | omega | (simp; omega))) | (with_reducible refine blk_drew _ _ ?_) | ((with_reducible refine blk_below (by assumption) ?_ ?_); focus (simp; done)) | ((with_reducible refine blk_below (by assumption) ?_ ?_); focus (first | omega | (simp; omega))))) (by rw [row_size]; kernel_rfl) (by simp [row_size]) (row_cells _ _ _ rfl) _ (row_over _ _ 64 _ _ (by simp)) ?_))
  go_loopw [4] (fun i wr => ∃ (k : Nat) (G : Nat → Nat), k ≤ 64 ∧ i = .int .i64 k ∧ wr.heap[w.heap.size + 1]? = some (.cells (plate (A : Nat) (B : Nat) G) 35 (0, 0)) ∧ wr.heap[w.heap.size]? = some (.cells (plate 0 0 (fun _ => 0)) 35 (0, 0)) ∧ (∀ i : Nat, partB (G i) = true ∧ G i < 2 ^ 32) ∧ (∀ i : Nat, isC A B i = false → G i = 0) ∧ (∀ i : Nat, k ≤ i → G i = 0) ∧ Src wr b (4 + 4 * k) ao n cap ∧ wr.heap.size = w.heap.size + 2 ∧ Below b w wr) (fun i _ => 64 - (intOf i).toNat)
  case atStart => exact ⟨0, fun _ => 0, by omega, rfl, by rw [← hz2]; exact (by repeat (first | (with_reducible assumption) | ((with_reducible refine blk_new _ _ _ ?_); focus (first | omega | (simp; done) | (simp; omega))) | ((with_reducible refine blk_old _ _ _ ?_ ?_); focus (simp; done)) | ((with_reducible refine blk_old _ _ _ ?_ ?_); focus (first | omega | (simp; omega))) | ((with_reducible apply blk_set); focus (simp; done)) | ((with_reducible refine blk_off _ _ _ _ ?_ ?_); focus (simp; done)) | ((with_reducible refine blk_offc _ _ _ _ ?_ ?_); focus (first | (simp; done) | omega | (simp; omega))) | ((with_reducible refine blk_off _ _ _ _ ?_ ?_); focus (first | omega | (simp; omega))) | (with_reducible refine blk_drew _ _ ?_) | ((with_reducible refine blk_below (by assumption) ?_ ?_); focus (simp; done)) | ((with_reducible refine blk_below (by assumption) ?_ ?_); focus (first | omega | (simp; omega))))), (by repeat (first | (with_reducible assumption) | ((with_reducible refine blk_new _ _ _ ?_); focus (first | omega | (simp; done) | (simp; omega))) | ((with_reducible refine blk_old _ _ _ ?_ ?_); focus (simp; done)) | ((with_reducible refine blk_old _ _ _ ?_ ?_); focus (first | omega | (simp; omega))) | ((with_reducible apply blk_set); focus (simp; done)) | ((with_reducible refine blk_off _ _ _ _ ?_ ?_); focus (simp; done)) | ((with_reducible refine blk_offc _ _ _ _ ?_ ?_); focus (first | (simp; done) | omega | (simp; omega))) | ((with_reducible refine blk_off _ _ _ _ ?_ ?_); focus (first | omega | (simp; omega))) | (with_reducible refine blk_drew _ _ ?_) | ((with_reducible refine blk_below (by assumption) ?_ ?_); focus (simp; done)) | ((with_reducible refine blk_below (by assumption) ?_ ?_); focus (first | omega | (simp; omega))))), fun _ => ⟨(by decide +kernel : partB 0 = true), (by decide : 0 < 2 ^ 32)⟩, fun _ _ => rfl, fun _ _ => rfl, ⟨p2, sd2, hp2, (by repeat (first | (with_reducible assumption) | ((with_reducible refine blk_new _ _ _ ?_); focus (first | omega | (simp; done) | (simp; omega))) | ((with_reducible refine blk_old _ _ _ ?_ ?_); focus (simp; done)) | ((with_reducible refine blk_old _ _ _ ?_ ?_); focus (first | omega | (simp; omega))) | ((with_reducible apply blk_set); focus (simp; done)) | ((with_reducible refine blk_off _ _ _ _ ?_ ?_); focus (simp; done)) | ((with_reducible refine blk_offc _ _ _ _ ?_ ?_); focus (first | (simp; done) | omega | (simp; omega))) | ((with_reducible refine blk_off _ _ _ _ ?_ ?_); focus (first | omega | (simp; omega))) | (with_reducible refine blk_drew _ _ ?_) | ((with_reducible refine blk_below (by assumption) ?_ ?_); focus (simp; done)) | ((with_reducible refine blk_below (by assumption) ?_ ?_); focus (first | omega | (simp; omega)))))⟩, by simp [hz2], (by repeat (first | (with_reducible assumption) | (with_reducible exact Below.refl _ _) | ((with_reducible refine bel_alloc _ ?_ ?_); focus (first | omega | (simp; done) | (simp; omega))) | ((with_reducible refine bel_row _ ?_ ?_); focus (first | omega | (simp; done) | (simp; omega))) | ((with_reducible refine bel_cell _ ?_ ?_); focus (first | omega | (simp; done) | (simp; omega))) | (with_reducible refine Below.drew ?_) | (with_reducible refine below_wideW _ ?_) | ((with_reducible refine bel_next (by assumption) ?_ ?_); focus (first | omega | (simp; done) | (simp; omega)))))⟩
  case round =>
    clear hB2 hR2 hd2 hz2 hi8 hj8
    obtain ⟨k, G, hk, rfl, hT, hR, hG, hO, hZ, ⟨p, sd, hp, hB⟩, hzz, hd⟩ := hrel
    have HG := Lib.hid hG
    have HO := Lib.hid hO
    have HZ := Lib.hid hZ
    clear hG hO hZ
    by_cases hlt : k < 64
    · have c0 : wr.cell? ⟨w.heap.size + 1, 0, none⟩ = some (.int .i8 A) := (cell_of_row wr _ 0 _ _ _ hT).trans (row_g0 _ _ _ _)
      have c1 : wr.cell? ⟨w.heap.size + 1, 1, none⟩ = some (.int .i8 B) := (cell_of_row wr _ 1 _ _ _ hT).trans (row_g1 _ _ _ _ _)
      have hI := specIs_any (a := A) (b := B) (i := k) (by omega) (by omega) hlt wr (w.heap.size + 1) c0 c1
      cases hc : isC A B k
      · rw [hc] at hI
        go_wp2_with (go_at_call 44; (with_reducible refine hI.mono ?_); rintro e w' ⟨rfl, rfl⟩)
        go_roundw
        case rel => exact ⟨k + 1, G, by omega, by go_num, hT, hR, HG.out, HO.out, fun i hi => HZ.out i (by omega), ⟨p, sd, by omega, hB⟩, hzz, hd⟩
        case measure => simp [intOf]; omega
      · rw [hc] at hI
        go_wp2_with (go_at_call 44; (with_reducible refine hI.mono ?_); rintro e w' ⟨rfl, rfl⟩)
        refine (toneL_any b (4 + 4 * k) ao n cap _ (by omega) ⟨p, sd, hp, (by repeat (first | (with_reducible assumption) | ((with_reducible refine blk_new _ _ _ ?_); focus (first | omega | (simp; done) | (simp; omega))) | ((with_reducible refine blk_old _ _ _ ?_ ?_); focus (simp; done)) | ((with_reducible refine blk_old _ _ _ ?_ ?_); focus (first | omega | (simp; omega))) | ((with_reducible apply blk_set); focus (simp; done)) | ((with_reducible refine blk_off _ _ _ _ ?_ ?_); focus (simp; done)) | ((with_reducible refine blk_offc _ _ _ _ ?_ ?_); focus (first | (simp; done) | omega | (simp; omega))) | ((with_reducible refine blk_off _ _ _ _ ?_ ?_); focus (first | omega | (simp; omega))) | (with_reducible refine blk_drew _ _ ?_) | ((with_reducible refine blk_below (by assumption) ?_ ?_); focus (simp; done)) | ((with_reducible refine blk_below (by assumption) ?_ ?_); focus (first | omega | (simp; omega)))))⟩ (bytes_below (by repeat (first | (with_reducible assumption) | (with_reducible exact Below.refl _ _) | ((with_reducible refine bel_alloc _ ?_ ?_); focus (first | omega | (simp; done) | (simp; omega))) | ((with_reducible refine bel_row _ ?_ ?_); focus (first | omega | (simp; done) | (simp; omega))) | ((with_reducible refine bel_cell _ ?_ ?_); focus (first | omega | (simp; done) | (simp; omega))) | (with_reducible refine Below.drew ?_) | (with_reducible refine below_wideW _ ?_) | ((with_reducible refine bel_next (by assumption) ?_ ?_); focus (first | omega | (simp; done) | (simp; omega))))) hb)).mono ?_
        rintro e w6 ⟨v, rfl, hv, ⟨p6, sd6, hp6, hB6⟩, hm6⟩
        have hR6 : w6.heap[w.heap.size]? = some (.cells (plate 0 0 (fun _ => 0)) 35 (0, 0)) := (hm6.2.1 _ (by omega)).trans (by repeat (first | (with_reducible assumption) | ((with_reducible refine blk_new _ _ _ ?_); focus (first | omega | (simp; done) | (simp; omega))) | ((with_reducible refine blk_old _ _ _ ?_ ?_); focus (simp; done)) | ((with_reducible refine blk_old _ _ _ ?_ ?_); focus (first | omega | (simp; omega))) | ((with_reducible apply blk_set); focus (simp; done)) | ((with_reducible refine blk_off _ _ _ _ ?_ ?_); focus (simp; done)) | ((with_reducible refine blk_offc _ _ _ _ ?_ ?_); focus (first | (simp; done) | omega | (simp; omega))) | ((with_reducible refine blk_off _ _ _ _ ?_ ?_); focus (first | omega | (simp; omega))) | (with_reducible refine blk_drew _ _ ?_) | ((with_reducible refine blk_below (by assumption) ?_ ?_); focus (simp; done)) | ((with_reducible refine blk_below (by assumption) ?_ ?_); focus (first | omega | (simp; omega)))))
        have hT6 : w6.heap[w.heap.size + 1]? = some (.cells (plate (A : Nat) (B : Nat) G) 35 (0, 0)) := (hm6.2.1 _ (by omega)).trans hT
        have hz6 : w6.heap.size = w.heap.size + 2 := hm6.2.2.trans (by simp [hzz])
        have hd6 : Below b w w6 := Below.trans (by repeat (first | (with_reducible assumption) | (with_reducible exact Below.refl _ _) | ((with_reducible refine bel_alloc _ ?_ ?_); focus (first | omega | (simp; done) | (simp; omega))) | ((with_reducible refine bel_row _ ?_ ?_); focus (first | omega | (simp; done) | (simp; omega))) | ((with_reducible refine bel_cell _ ?_ ?_); focus (first | omega | (simp; done) | (simp; omega))) | (with_reducible refine Below.drew ?_) | (with_reducible refine below_wideW _ ?_) | ((with_reducible refine bel_next (by assumption) ?_ ?_); focus (first | omega | (simp; done) | (simp; omega))))) hm6.1
        clear hm6 hB hR hd hzz hT c0 c1 hI
        have ft6 : w6.frozen? ⟨w.heap.size + 1, 2 + k, none⟩ = false := frozen_of_row w6 _ _ _ _ hT6
        have ct6 : w6.cell? ⟨w.heap.size + 1, 2 + k, none⟩ = some (.float .f32 (G k)) := (cell_of_row w6 _ (2 + k) _ _ _ hT6).trans (row_k2 _ _ _ _ hlt)
        go_wp2_with (fail)
        go_roundw
        case rel => exact ⟨k + 1, upd G k v, by omega, by go_num, put_row (pre := [.int .i8 (A : Nat), .int .i8 (B : Nat)]) hlt hT6, put_off (by omega) hR6, fun i => by unfold upd; split; exact hv; exact HG.out i, fun i hi => by unfold upd; rw [if_neg (fun e => by rw [e, hc] at hi; cases hi)]; exact HO.out i hi, fun i hi => by unfold upd; rw [if_neg (by omega)]; exact HZ.out i (by omega), ⟨p6, sd6, by omega, put_off (by omega) hB6⟩, by simp [hz6], hd6.setCell (by simp; omega) _⟩
        case measure => simp [intOf]; omega
    · obtain rfl : k = 64 := by omega
      go_wp2_with (first | ((with_reducible refine at_load 35 ?_); refine wpList_load_part rfl 35 _ rfl _ 0 66 rfl _ _ _ _ (by repeat (first | (with_reducible assumption) | ((with_reducible refine blk_new _ _ _ ?_); focus (first | omega | (simp; done) | (simp; omega))) | ((with_reducible refine blk_old _ _ _ ?_ ?_); focus (simp; done)) | ((with_reducible refine blk_old _ _ _ ?_ ?_); focus (first | omega | (simp; omega))) | ((with_reducible apply blk_set); focus (simp; done)) | ((with_reducible refine blk_off _ _ _ _ ?_ ?_); focus (simp; done)) | ((with_reducible refine blk_offc _ _ _ _ ?_ ?_); focus (first | (simp; done) | omega | (simp; omega))) | ((with_reducible refine blk_off _ _ _ _ ?_ ?_); focus (first | omega | (simp; omega))) | (with_reducible refine blk_drew _ _ ?_) | ((with_reducible refine blk_below (by assumption) ?_ ?_); focus (simp; done)) | ((with_reducible refine blk_below (by assumption) ?_ ?_); focus (first | omega | (simp; omega))))) Tryd.underlying35 rfl (by kernel_rfl) (by simp [row_size]) _ (row_all [_, _] 64 _) ?_) | ((with_reducible refine at_store 35 ?_); refine wpList_store_part rfl 35 _ _ rfl _ 0 _ rfl rfl _ _ (by repeat (first | (with_reducible assumption) | ((with_reducible refine blk_new _ _ _ ?_); focus (first | omega | (simp; done) | (simp; omega))) | ((with_reducible refine blk_old _ _ _ ?_ ?_); focus (simp; done)) | ((with_reducible refine blk_old _ _ _ ?_ ?_); focus (first | omega | (simp; omega))) | ((with_reducible apply blk_set); focus (simp; done)) | ((with_reducible refine blk_off _ _ _ _ ?_ ?_); focus (simp; done)) | ((with_reducible refine blk_offc _ _ _ _ ?_ ?_); focus (first | (simp; done) | omega | (simp; omega))) | ((with_reducible refine blk_off _ _ _ _ ?_ ?_); focus (first | omega | (simp; omega))) | (with_reducible refine blk_drew _ _ ?_) | ((with_reducible refine blk_below (by assumption) ?_ ?_); focus (simp; done)) | ((with_reducible refine blk_below (by assumption) ?_ ?_); focus (first | omega | (simp; omega))))) (by rw [row_size]; kernel_rfl) (by simp [row_size]) (row_cells _ _ _ rfl) _ (row_over _ _ 64 _ _ (by simp)) ?_))
      refine bodyPost_ret (v := .agg (plate (A : Nat) (B : Nat) G)) ?_ ?_ ?_
      · refine results_cell_row Tryd.results40 _ _ _ 35 (plate (A : Nat) (B : Nat) G) (0, 0) _ rfl ?_ Tryd.underlying35 rfl (by rw [row_size]; kernel_rfl)
        exact (by repeat (first | (with_reducible assumption) | ((with_reducible refine blk_new _ _ _ ?_); focus (first | omega | (simp; done) | (simp; omega))) | ((with_reducible refine blk_old _ _ _ ?_ ?_); focus (simp; done)) | ((with_reducible refine blk_old _ _ _ ?_ ?_); focus (first | omega | (simp; omega))) | ((with_reducible apply blk_set); focus (simp; done)) | ((with_reducible refine blk_off _ _ _ _ ?_ ?_); focus (simp; done)) | ((with_reducible refine blk_offc _ _ _ _ ?_ ?_); focus (first | (simp; done) | omega | (simp; omega))) | ((with_reducible refine blk_off _ _ _ _ ?_ ?_); focus (first | omega | (simp; omega))) | (with_reducible refine blk_drew _ _ ?_) | ((with_reducible refine blk_below (by assumption) ?_ ?_); focus (simp; done)) | ((with_reducible refine blk_below (by assumption) ?_ ?_); focus (first | omega | (simp; omega)))))
      · rfl
      · exact ⟨A, B, G, rfl, ⟨by omega, by omega, by omega, by omega, HG.out, HO.out⟩, (by repeat (first | (with_reducible assumption) | (with_reducible exact Below.refl _ _) | ((with_reducible refine bel_alloc _ ?_ ?_); focus (first | omega | (simp; done) | (simp; omega))) | ((with_reducible refine bel_row _ ?_ ?_); focus (first | omega | (simp; done) | (simp; omega))) | ((with_reducible refine bel_cell _ ?_ ?_); focus (first | omega | (simp; done) | (simp; omega))) | (with_reducible refine Below.drew ?_) | (with_reducible refine below_wideW _ ?_) | ((with_reducible refine bel_next (by assumption) ?_ ?_); focus (first | omega | (simp; done) | (simp; omega)))))⟩
theorem a2plate_any (ao : Option Addr) (n cap : Nat) (w : World) (hb : BytesAt w w.heap.size ao n) : Calls Tryd.prog 18 #[.slice ao n cap] w fun e w' => ∃ (A B : Nat) (F : Nat → Nat), e = .returned (.agg (plate A B F)) ∧ DrawnP A B F ∧ Below w.heap.size w w' := by
  have hz : Tryd.zeroCells35 = row [.int .i8 0, .int .i8 0] 64 (fun _ => 0) := rfl
  go_enter Tryd.func18, Tryd.ntmps18
  go_wp2_with (go_at_call 27; (with_reducible refine (from_any ao n cap _).mono ?_); rintro e w' ⟨rfl, rfl⟩)
  refine (drawnP_any (w.heap.size + 1) ao n cap _ ⟨0, 0, Nat.le_refl _, blk_new _ _ _ (by simp)⟩ (bytes_wide (bytes_below (by repeat (first | (with_reducible assumption) | (with_reducible exact Below.refl _ _) | ((with_reducible refine bel_alloc _ ?_ ?_); focus (first | omega | (simp; done) | (simp; omega))) | ((with_reducible refine bel_row _ ?_ ?_); focus (first | omega | (simp; done) | (simp; omega))) | ((with_reducible refine bel_cell _ ?_ ?_); focus (first | omega | (simp; done) | (simp; omega))) | (with_reducible refine Below.drew ?_) | (with_reducible refine below_wideW _ ?_) | ((with_reducible refine bel_next (by assumption) ?_ ?_); focus (first | omega | (simp; done) | (simp; omega))))) hb) (by omega)) (by simp)).mono ?_
  rintro e w1 ⟨A, B, G, rfl, hS, hm⟩
  have hR : w1.heap[w.heap.size]? = some (.cells (plate 0 0 (fun _ => 0)) 35 (0, 0)) := (hm.block _ (by omega)).trans (by repeat (first | (with_reducible assumption) | ((with_reducible refine blk_new _ _ _ ?_); focus (first | omega | (simp; done) | (simp; omega))) | ((with_reducible refine blk_old _ _ _ ?_ ?_); focus (simp; done)) | ((with_reducible refine blk_old _ _ _ ?_ ?_); focus (first | omega | (simp; omega))) | ((with_reducible apply blk_set); focus (simp; done)) | ((with_reducible refine blk_off _ _ _ _ ?_ ?_); focus (simp; done)) | ((with_reducible refine blk_offc _ _ _ _ ?_ ?_); focus (first | (simp; done) | omega | (simp; omega))) | ((with_reducible refine blk_off _ _ _ _ ?_ ?_); focus (first | omega | (simp; omega))) | (with_reducible refine blk_drew _ _ ?_) | ((with_reducible refine blk_below (by assumption) ?_ ?_); focus (simp; done)) | ((with_reducible refine blk_below (by assumption) ?_ ?_); focus (first | omega | (simp; omega)))))
  have hz : w.heap.size + 2 ≤ w1.heap.size := by have := hm.size; simp at this; omega
  go_wp2_with (first | ((with_reducible refine at_store 35 ?_); refine wpList_store_part rfl 35 _ _ rfl _ 0 _ rfl rfl _ _ (by repeat (first | (with_reducible assumption) | ((with_reducible refine blk_new _ _ _ ?_); focus (first | omega | (simp; done) | (simp; omega))) | ((with_reducible refine blk_old _ _ _ ?_ ?_); focus (simp; done)) | ((with_reducible refine blk_old _ _ _ ?_ ?_); focus (first | omega | (simp; omega))) | ((with_reducible apply blk_set); focus (simp; done)) | ((with_reducible refine blk_off _ _ _ _ ?_ ?_); focus (simp; done)) | ((with_reducible refine blk_offc _ _ _ _ ?_ ?_); focus (first | (simp; done) | omega | (simp; omega))) | ((with_reducible refine blk_off _ _ _ _ ?_ ?_); focus (first | omega | (simp; omega))) | (with_reducible refine blk_drew _ _ ?_) | ((with_reducible refine blk_below (by assumption) ?_ ?_); focus (simp; done)) | ((with_reducible refine blk_below (by assumption) ?_ ?_); focus (first | omega | (simp; omega))))) (by rw [row_size]; kernel_rfl) (by simp [row_size]) (row_cells _ _ _ rfl) _ (row_over _ _ 64 _ _ (by simp)) ?_))
  refine bodyPost_ret (v := .agg (plate A B G)) ?_ ?_ ?_
  · refine results_cell_row Tryd.results18 _ _ _ 35 (plate A B G) (0, 0) _ rfl ?_ Tryd.underlying35 rfl (by rw [row_size]; kernel_rfl)
    exact (by repeat (first | (with_reducible assumption) | ((with_reducible refine blk_new _ _ _ ?_); focus (first | omega | (simp; done) | (simp; omega))) | ((with_reducible refine blk_old _ _ _ ?_ ?_); focus (simp; done)) | ((with_reducible refine blk_old _ _ _ ?_ ?_); focus (first | omega | (simp; omega))) | ((with_reducible apply blk_set); focus (simp; done)) | ((with_reducible refine blk_off _ _ _ _ ?_ ?_); focus (simp; done)) | ((with_reducible refine blk_offc _ _ _ _ ?_ ?_); focus (first | (simp; done) | omega | (simp; omega))) | ((with_reducible refine blk_off _ _ _ _ ?_ ?_); focus (first | omega | (simp; omega))) | (with_reducible refine blk_drew _ _ ?_) | ((with_reducible refine blk_below (by assumption) ?_ ?_); focus (simp; done)) | ((with_reducible refine blk_below (by assumption) ?_ ?_); focus (first | omega | (simp; omega)))))
  · rfl
  · exact ⟨A, B, G, rfl, hS, bel_row _ (Nat.le_refl _) (Below.trans (by repeat (first | (with_reducible assumption) | (with_reducible exact Below.refl _ _) | ((with_reducible refine bel_alloc _ ?_ ?_); focus (first | omega | (simp; done) | (simp; omega))) | ((with_reducible refine bel_row _ ?_ ?_); focus (first | omega | (simp; done) | (simp; omega))) | ((with_reducible refine bel_cell _ ?_ ?_); focus (first | omega | (simp; done) | (simp; omega))) | (with_reducible refine Below.drew ?_) | (with_reducible refine below_wideW _ ?_) | ((with_reducible refine bel_next (by assumption) ?_ ?_); focus (first | omega | (simp; done) | (simp; omega))))) (hm.mono (by omega)))⟩
theorem Z_400 : Z32 1137180672 = ((400 * 2 ^ 149 : Nat) : Int) := by decide +kernel
theorem Z_quarter : Z32 1048576000 = 2 ^ 147 := by decide +kernel
theorem gain_quo {n : Nat} (hn : n ≤ 100) : gainB (fdiv (floatOfInt .f32 (n : Int)) 1137180672) = true := by
  obtain ⟨f, z⟩ := cvt_Z n (by omega)
  have hy : Fin32 1137180672 := by decide
  have hp : 0 < Z32 1137180672 := by rw [Z_400]; decide
  have z0 : 0 ≤ Z32 (floatOfInt .f32 (n : Int)) := by rw [z]; omega
  have h1 : Z32 (fdiv (floatOfInt .f32 (n : Int)) 1137180672) ≤ Z32 1048576000 := by
    refine fdiv_le f hy z0 hp (by decide) (by rw [Z_quarter]; decide) ?_
    rw [z, Z_400, Z_quarter]
    omega
  have h0 := fdiv_ge f hy z0 hp (c := 0) (by decide) (by rw [Z_zero]; omega) (by rw [Z_zero, Int.zero_mul]; omega)
  rw [Z_zero] at h0
  rw [Z_quarter] at h1
  exact (gain_iff _).2 ⟨num_fdiv f hy (by omega), h0, h1⟩
theorem a2gain_any (ao : Option Addr) (n cap : Nat) (w : World) (hb : BytesAt w w.heap.size ao n) : Calls Tryd.prog 6 #[.slice ao n cap] w fun e w' => ∃ v : Nat, e = .returned (.float .f32 v) ∧ gainB v = true ∧ Below w.heap.size w w' := by
  have cv : ∀ (m : Nat) (w : World), (convert 2 24 (.int .i64 (m : Int))).run Tryd.prog w = .ok (.float .f32 (floatOfInt .f32 (m : Int))) w := fun m w => by kernel_rfl
  have dv : ∀ (x y : Nat) (hx : Fin32 x) (hy : Fin32 y) (h0 : Z32 y ≠ 0) (w : World), (binOp .quo 24 (.float .f32 x) (.float .f32 y)).run Tryd.prog w = .ok (.float .f32 (fdiv x y)) w := fun x y hx hy h0 w => run_fdiv w 24 hx hy h0
  go_enter Tryd.func6, Tryd.ntmps6
  go_wp2_with (go_at_call 27; (with_reducible refine (from_any ao n cap _).mono ?_); rintro e w' ⟨rfl, rfl⟩)
  refine (pick_any w.heap.size 0 ao n cap 101 _ (by omega) (by omega) (by omega) ⟨0, 0, Nat.le_refl _, blk_new _ _ _ rfl⟩ (bytes_below (by repeat (first | (with_reducible assumption) | (with_reducible exact Below.refl _ _) | ((with_reducible refine bel_alloc _ ?_ ?_); focus (first | omega | (simp; done) | (simp; omega))) | ((with_reducible refine bel_row _ ?_ ?_); focus (first | omega | (simp; done) | (simp; omega))) | ((with_reducible refine bel_cell _ ?_ ?_); focus (first | omega | (simp; done) | (simp; omega))) | (with_reducible refine Below.drew ?_) | (with_reducible refine below_wideW _ ?_) | ((with_reducible refine bel_next (by assumption) ?_ ?_); focus (first | omega | (simp; done) | (simp; omega))))) hb)).mono ?_
  rintro e w1 ⟨y, rfl, hy0, hy9, _, hm⟩
  obtain ⟨y, rfl⟩ := Int.eq_ofNat_of_zero_le hy0
  have d := fun w => dv (floatOfInt .f32 (y : Int)) 1137180672 (quo_fin (by omega)) (by decide) (by rw [Z_400]; decide) w
  have c := cv y
  go_wp2
  go_ret
  exact ⟨_, rfl, gain_quo (by omega), Below.trans (by repeat (first | (with_reducible assumption) | (with_reducible exact Below.refl _ _) | ((with_reducible refine bel_alloc _ ?_ ?_); focus (first | omega | (simp; done) | (simp; omega))) | ((with_reducible refine bel_row _ ?_ ?_); focus (first | omega | (simp; done) | (simp; omega))) | ((with_reducible refine bel_cell _ ?_ ?_); focus (first | omega | (simp; done) | (simp; omega))) | (with_reducible refine Below.drew ?_) | (with_reducible refine below_wideW _ ?_) | ((with_reducible refine bel_next (by assumption) ?_ ?_); focus (first | omega | (simp; done) | (simp; omega))))) hm.1⟩
end Go.Proofs.YtihddajpkcjokaaDoor

/-! Small laws of worlds, and the parts of a function's code; each under its own premises. -/
set_option linter.unusedVariables false
set_option linter.unusedSimpArgs false
namespace Go.Proofs.YtihddajpkcjokaaDoor
open Go.RowKit Ieee
theorem lt_of_heap {w : World} {g : Nat} {o : Obj} (h : w.heap[g]? = some o) : g < w.heap.size := by
  obtain ⟨h1, _⟩ := Array.getElem?_eq_some_iff.1 h
  exact h1
theorem chain1 {wk : World} {o o1 : Obj} {cs : Array Value} {g : Nat} (h : wk.heap[g]? = some o1) : ((wk.alloc o).setRow wk.heap.size cs).heap[g]? = some o1 := by
  have hl := lt_of_heap h
  exact blk_off _ _ _ _ (by omega) (blk_old _ _ _ hl h)
theorem chainN (wk : World) (a cs : Array Value) (t : TypeId) : ((wk.alloc (.cells a t)).setRow wk.heap.size cs).heap[wk.heap.size]? = some (.cells cs t (0, 0)) := blk_set _ _ _ _ _ _ _ rfl (blk_new _ _ _ rfl)
theorem old0 {wk w2 : World} {o1 : Obj} {g : Nat} (hb : Below wk.heap.size wk w2) (h : wk.heap[g]? = some o1) : w2.heap[g]? = some o1 := blk_below hb (lt_of_heap h) h
theorem old1 {wk w2 : World} {o o1 : Obj} {cs : Array Value} {g : Nat} (hb : Below ((wk.alloc o).setRow wk.heap.size cs).heap.size ((wk.alloc o).setRow wk.heap.size cs) w2) (h : wk.heap[g]? = some o1) : w2.heap[g]? = some o1 := by
  have hl := lt_of_heap h
  exact blk_below hb (by simp; omega) (chain1 h)
theorem new1 {wk w2 : World} {a cs : Array Value} {t : TypeId} (hb : Below ((wk.alloc (.cells a t)).setRow wk.heap.size cs).heap.size ((wk.alloc (.cells a t)).setRow wk.heap.size cs) w2) : w2.heap[wk.heap.size]? = some (.cells cs t (0, 0)) :=
  blk_below hb (by simp) (chainN _ _ _ _)
theorem bel0 {B : Nat} {w wk w2 : World} (hb : Below wk.heap.size wk w2) (h : Below B w wk) (hl : B ≤ wk.heap.size) : Below B w w2 := h.trans (hb.mono hl)
theorem belr {B : Nat} {w wk : World} {o : Obj} {cs : Array Value} (h : Below B w wk) (hl : B ≤ wk.heap.size) : Below B w ((wk.alloc o).setRow wk.heap.size cs) := bel_row _ hl (bel_alloc _ hl h)
theorem bel1 {B : Nat} {w wk w2 : World} {o : Obj} {cs : Array Value} (hb : Below ((wk.alloc o).setRow wk.heap.size cs).heap.size ((wk.alloc o).setRow wk.heap.size cs) w2) (h : Below B w wk) (hl : B ≤ wk.heap.size) : Below B w w2 :=
  bel_next hb (by simp; omega) (bel_row _ hl (bel_alloc _ hl h))

/-! ### the parts of a code -/
def cL : Code → Code
  | .seq a _ => a
  | c => c
def cR : Code → Code
  | .seq _ b => b
  | c => c
def cRn : Nat → Code → Code
  | 0, c => c
  | n + 1, c => cRn n (cR c)
def bodyOf (f : Func) : Code := f.body.getD .skip
end Go.Proofs.YtihddajpkcjokaaDoor

/-! The bytes that a law's argument holds. -/
set_option linter.unusedVariables false
set_option linter.unusedSimpArgs false
namespace Go.Proofs.YtihddajpkcjokaaDoor
open Go.ChangeShapes Go.WideShapes Go.ChangeAt Go.RowKit

theorem cell_in {w : World} {a : Addr} {v : Value} (h : w.cell? a = some v) : a.block < w.heap.size := by
  refine Classical.byContradiction fun hn => ?_
  have : w.heap[a.block]? = none := Array.getElem?_eq_none (by omega)
  simp [World.cell?, this] at h
theorem form_bytes {H : Type} {P : Program} {enc : TypeId × Value → H} {r : Reach} {W : World} {b0 : Nat} {t e : TypeId} {v : Value} {d : DataW H} {ps : List MemPlace} {base : Nat} {spare : Nat → Bool} {held : Bool} (ht : P.underlying t = some (.slice e)) (he : P.underlying e = some (.int .u8)) (hc : P.cellsOf e = 1)
    (hval : Value.okWide P W r b0 t v) (hd : DataW.Trod enc P W base spare held t v d ps) : ∃ (ao : Option Addr) (n cap : Nat), v = .slice ao n cap ∧ BytesAt W W.heap.size ao n := by
  obtain ⟨a0, n0, c0, rfl⟩ := okWide_slice ht hval
  refine ⟨a0, n0, c0, rfl, ?_⟩
  obtain ⟨fuel, hf⟩ := hd
  rcases open_ints ht he hc hf with ⟨hcs, _⟩ | ⟨a, len, cap, zs, hcs, _, hl, hm, hz, _, hcell, hwz⟩
  · obtain ⟨rfl, rfl, rfl⟩ : a0 = none ∧ n0 = 0 ∧ c0 = 0 := by simpa [Value.cells] using hcs
    exact ⟨Nat.zero_le _, fun h => by omega⟩
  · obtain ⟨rfl, rfl, rfl⟩ : a0 = some a ∧ n0 = len ∧ c0 = cap := by simpa [Value.cells] using hcs
    have hlen : n0 ≤ zs.length := by rw [hz]; split <;> omega
    refine ⟨by omega, fun h => ⟨a, rfl, ?_, fun i hi => ?_⟩⟩
    · have := cell_in (hcell 0 (by omega))
      rwa [show (a.add 0).block = a.block from by unfold Addr.add; split <;> rfl] at this
    · refine ⟨zs.getD i 0, hcell i (by omega), ?_⟩
      have hw := hwz (zs.getD i 0) (by
        rw [List.getD_eq_getElem?_getD, List.getElem?_eq_getElem (by omega)]
        exact List.getElem_mem _)
      generalize zs.getD i 0 = z at hw ⊢
      simp [Lit.wf, IntKind.min, IntKind.max, IntKind.signed, IntKind.bits] at hw
      omega
end Go.Proofs.YtihddajpkcjokaaDoor

/-! Numbers and their texts of eight hexadecimal digits; plain, no program in sight. -/
set_option linter.unusedVariables false
set_option linter.unusedSimpArgs false
namespace Go.Proofs.YtihddajpkcjokaaDoor

/-- The byte of a digit. -/
def hexDig (n : Nat) : UInt8 := UInt8.ofNat (if n < 10 then 48 + n else 87 + n)
/-- The lowest k digits of u. -/
def hexL : Nat → Nat → List UInt8
  | 0, _ => []
  | k + 1, u => hexL k (u / 16) ++ [hexDig (u % 16)]
/-- The digits of u without leading zeros, at most k. -/
def hexS : Nat → Nat → List UInt8
  | 0, _ => []
  | k + 1, u => if u < 16 then [hexDig u] else hexS k (u / 16) ++ [hexDig (u % 16)]
/-- The digit of a byte. -/
def digOf (c : Nat) : Option Nat := if 48 ≤ c ∧ c ≤ 57 then some (c - 48) else if 97 ≤ c ∧ c ≤ 102 then some (c - 87) else none

theorem hexL_length : ∀ k u, (hexL k u).length = k
  | 0, _ => rfl
  | k + 1, u => by simp [hexL, hexL_length k]
theorem hexL_zero : ∀ k, hexL k 0 = List.replicate k 48
  | 0 => rfl
  | k + 1 => by
    show hexL k 0 ++ [hexDig 0] = _
    rw [hexL_zero k, List.replicate_succ']
    rfl
theorem hexS_length_le : ∀ k u, (hexS k u).length ≤ k
  | 0, _ => Nat.le_refl _
  | k + 1, u => by
    unfold hexS
    split
    · simp
    · have := hexS_length_le k (u / 16); simp; omega
theorem hexS_pad : ∀ k u, 0 < k → u < 16 ^ k → List.replicate (k - (hexS k u).length) 48 ++ hexS k u = hexL k u
  | 0, _, h, _ => absurd h (by omega)
  | k + 1, u, _, h => by
    unfold hexS hexL
    split
    · rename_i hu
      have e0 : u / 16 = 0 := by omega
      have e1 : u % 16 = u := by omega
      rw [e0, e1, hexL_zero]
      simp
    · rename_i hu
      have hk : 0 < k := by
        cases k with
        | zero => simp at h; omega
        | succ k => omega
      have hd : u / 16 < 16 ^ k := by rw [Nat.pow_succ] at h; omega
      have ih := hexS_pad k (u / 16) hk hd
      have hl := hexS_length_le k (u / 16)
      rw [← ih, List.length_append, List.length_singleton, Nat.add_sub_add_right, List.append_assoc]
/-- The value of digits, the first ones the highest, behind a value already read; none if a byte is no digit. -/
def hexV : Nat → List UInt8 → Option Nat
  | a, [] => some a
  | a, c :: l => match digOf c.toNat with
    | some d => hexV (a * 16 + d) l
    | none => none

theorem digOf_hexDig : ∀ n, n < 16 → digOf (hexDig n).toNat = some n := by decide
theorem hexDig_digOf : ∀ c : Nat, c < 256 → ∀ d, digOf c = some d → d < 16 ∧ hexDig d = UInt8.ofNat c := by
  intro c hc d hd
  unfold digOf at hd
  split at hd
  · injection hd with hd
    subst hd
    refine ⟨by omega, ?_⟩
    unfold hexDig
    rw [if_pos (by omega)]
    congr 1
    omega
  · split at hd
    · injection hd with hd
      subst hd
      refine ⟨by omega, ?_⟩
      unfold hexDig
      rw [if_neg (by omega)]
      congr 1
      omega
    · exact absurd hd (by simp)
theorem hexV_cons (a : Nat) (c : UInt8) (l : List UInt8) : hexV a (c :: l) = (digOf c.toNat).bind fun d => hexV (a * 16 + d) l := by
  show (match digOf c.toNat with | some d => hexV (a * 16 + d) l | none => none) = _
  cases digOf c.toNat <;> rfl
theorem hexV_append : ∀ (l : List UInt8) (a : Nat) (m : List UInt8), hexV a (l ++ m) = (hexV a l).bind fun b => hexV b m
  | [], _, _ => rfl
  | c :: l, a, m => by
    rw [List.cons_append, hexV_cons, hexV_cons]
    cases digOf c.toNat with
    | none => rfl
    | some d => exact hexV_append l _ m
theorem hexV_hexL : ∀ k u a, u < 16 ^ k → hexV a (hexL k u) = some (a * 16 ^ k + u)
  | 0, u, a, h => by simp at h; simp [hexL, hexV, h]
  | k + 1, u, a, h => by
    have hd : u / 16 < 16 ^ k := by rw [Nat.pow_succ] at h; omega
    rw [show hexL (k + 1) u = hexL k (u / 16) ++ [hexDig (u % 16)] from rfl, hexV_append, hexV_hexL k _ a hd]
    show (match digOf (hexDig (u % 16)).toNat with | some d => hexV ((a * 16 ^ k + u / 16) * 16 + d) [] | none => none) = _
    rw [digOf_hexDig _ (by omega)]
    show some ((a * 16 ^ k + u / 16) * 16 + u % 16) = _
    congr 1
    rw [Nat.pow_succ, Nat.add_mul, Nat.mul_assoc]
    omega
theorem hexL_hexV : ∀ (l : List UInt8) (v : Nat), hexV 0 l = some v → v < 16 ^ l.length ∧ l = hexL l.length v := by
  intro l
  -- from the last byte on
  suffices h : ∀ (m : List UInt8) v, hexV 0 m.reverse = some v → v < 16 ^ m.length ∧ m.reverse = hexL m.length v by
    intro v hv
    have := h l.reverse v (by simpa using hv)
    simpa using this
  intro m
  induction m with
  | nil => intro v hv; simp [hexV] at hv; subst hv; simp [hexL]
  | cons c m ih =>
    intro v hv
    rw [List.reverse_cons, hexV_append] at hv
    cases h1 : hexV 0 m.reverse with
    | none => rw [h1] at hv; simp at hv
    | some b =>
      rw [h1] at hv
      obtain ⟨hb, eb⟩ := ih b h1
      simp only [Option.bind] at hv
      cases h2 : digOf c.toNat with
      | none => simp [hexV, h2] at hv
      | some d =>
        simp [hexV, h2] at hv
        obtain ⟨hd, ed⟩ := hexDig_digOf c.toNat c.toNat_lt d h2
        subst hv
        have e0 : (b * 16 + d) / 16 = b := by omega
        have e1 : (b * 16 + d) % 16 = d := by omega
        refine ⟨by rw [List.length_cons, Nat.pow_succ]; omega, ?_⟩
        rw [List.reverse_cons, List.length_cons, show hexL (m.length + 1) (b * 16 + d) = hexL m.length ((b * 16 + d) / 16) ++ [hexDig ((b * 16 + d) % 16)] from rfl, e0, e1, ← eb, ed]
        congr 1
        simp

end Go.Proofs.YtihddajpkcjokaaDoor
