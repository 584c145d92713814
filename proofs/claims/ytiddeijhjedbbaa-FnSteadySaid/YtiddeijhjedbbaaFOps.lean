/- The four operations on finite narrow numbers: that the model gives them, what they are in units, and their bounds; each under its own premises. -/
import Derived.Test.YtiddeijhjedbbaaFRun
import Derived.Test.YtiddeijhjedbbaaFltC
set_option linter.unusedVariables false
set_option linter.unusedSimpArgs false
namespace Go.Proofs.Ytiddeijhjedbbaa
open Go.RowKit Ieee

abbrev Fin32 (x : Nat) : Prop := Flt.Fin single x
abbrev Z32 (x : Nat) : Int := Flt.Z single x
def fadd (x y : Nat) : Nat := (single.add x y).getD 0
def fsub (x y : Nat) : Nat := (single.sub x y).getD 0
def fmul (x y : Nat) : Nat := (single.mul x y).getD 0
def fdiv (x y : Nat) : Nat := (single.div x y).getD 0

/-! ### rounded integers of units -/
theorem RZ_mono (f : Format) {y z : Int} (d : Nat) (h : y ≤ z) : Flt.RZ f y d ≤ Flt.RZ f z d := by
  unfold Flt.RZ Flt.sg
  by_cases hy : y < 0 <;> by_cases hz : z < 0
  · have := Flt.U_le f (Flt.G_le f (n := z.natAbs) (m := y.natAbs) (d := d) (c := d) (Nat.mul_le_mul_right _ (by omega)))
    simp only [hy, hz, decide_true, if_true]; omega
  · simp only [hy, hz, decide_true, decide_false, if_true]; simp
  · omega
  · have := Flt.U_le f (Flt.G_le f (n := y.natAbs) (m := z.natAbs) (d := d) (c := d) (Nat.mul_le_mul_right _ (by omega)))
    simp only [hy, hz, decide_false]; simp; omega
theorem RZ_exact (f : Format) {c : Nat} (d : Nat) (h : Flt.Fin f c) : Flt.RZ f (Flt.Z f c * 2 ^ d) d = Flt.Z f c := by
  have hp2 : (0 : Int) < 2 ^ d := Int.pow_pos (by decide)
  have hr : Flt.rung f c ≤ f.infRung := Nat.le_of_lt h
  have key : (Flt.Z f c * 2 ^ d).natAbs = Flt.U f (Flt.rung f c) * 2 ^ d := by
    rw [Int.natAbs_mul, Int.natAbs_pow]
    congr 1
    unfold Flt.Z Flt.sg; split <;> simp
  unfold Flt.RZ
  rw [key, Flt.G_exact' f _ _ hr]
  unfold Flt.Z Flt.sg
  by_cases hn : Flt.neg f c = true
  · simp only [hn, if_true]
    by_cases h0 : Flt.U f (Flt.rung f c) = 0
    · rw [h0]; simp
    · have : -(Flt.U f (Flt.rung f c) : Int) * 2 ^ d < 0 := Int.mul_neg_of_neg_of_pos (by omega) hp2
      simp [this]
  · simp only [hn, if_false]
    have : ¬ ((Flt.U f (Flt.rung f c) : Int) * 2 ^ d < 0) := by
      have := Int.mul_nonneg (Int.natCast_nonneg (Flt.U f (Flt.rung f c))) (Int.le_of_lt hp2)
      omega
    simp [this]
theorem RZ_le (f : Format) {z : Int} {d c : Nat} (hc : Flt.Fin f c) (h : z ≤ Flt.Z f c * 2 ^ d) : Flt.RZ f z d ≤ Flt.Z f c := by
  have := RZ_mono f d h
  rwa [RZ_exact f d hc] at this
theorem RZ_ge (f : Format) {z : Int} {d c : Nat} (hc : Flt.Fin f c) (h : Flt.Z f c * 2 ^ d ≤ z) : Flt.Z f c ≤ Flt.RZ f z d := by
  have := RZ_mono f d h
  rwa [RZ_exact f d hc] at this

theorem sg_RZ (f : Format) (n : Bool) (z : Int) (d : Nat) (h : z ≠ 0 → n = decide (z < 0)) : Flt.sg n (Flt.U f (Flt.G f z.natAbs d)) = Flt.RZ f z d := by
  unfold Flt.RZ
  by_cases hz : z = 0
  · subst hz
    have : Flt.U f (Flt.G f (0 : Int).natAbs d) = 0 := by
      have : Flt.G f 0 d = 0 := by simp [Flt.G, Flt.G0, Flt.ex, Flt.rne_zero]
      rw [Int.natAbs_zero, this, Flt.U_zero]
    rw [this]
    unfold Flt.sg
    cases n <;> simp
  · rw [h hz]

theorem fin_nan {x : Nat} (h : Fin32 x) : ¬ Flt.NaN single x := by
  unfold Flt.NaN; unfold Fin32 Flt.Fin at h; omega
theorem fin_of {x : Nat} (h : ¬ Flt.NaN single x) (h1 : -(2 : Int) ^ 250 ≤ Z32 x) (h2 : Z32 x ≤ 2 ^ 250) : Fin32 x := by
  rcases Flt.not_nan single h with h | h
  · exact h
  · exfalso
    unfold Z32 Flt.Z Flt.sg at h1 h2
    rw [h, Flt.single_inf] at h1 h2
    have : 2 ^ 250 < 2 ^ Flt.eS := Nat.pow_lt_pow_right (by omega) (by have := Flt.eS_eq; omega)
    have h3 : ((2 ^ 250 : Nat) : Int) < ((2 ^ Flt.eS : Nat) : Int) := by exact_mod_cast this
    have h4 : ((2 ^ 250 : Nat) : Int) = (2 : Int) ^ 250 := by simp
    rw [h4] at h3
    split at h1
    · rename_i hn; rw [if_pos hn] at h2; omega
    · rename_i hn; rw [if_neg hn] at h2; omega

theorem G_word_num (n : Bool) (a d : Nat) : ¬ Flt.NaN single (single.word n (Flt.G single a d)) := Flt.word_nan single n (by unfold Flt.G; omega)

/-! ### sums -/
section
variable {x y : Nat} (hx : Fin32 x) (hy : Fin32 y)
include hx hy
theorem add_some : floatBits .add .f32 x y = some (fadd x y) := by
  show single.add x y = _
  unfold fadd
  rw [Flt.add_fin single hx hy]; rfl
theorem Z_fadd : Z32 (fadd x y) = Flt.RZ single (Z32 x + Z32 y) 0 := by
  unfold fadd Z32
  rw [Flt.add_fin single hx hy]
  simp only [Option.getD_some]
  rw [Flt.Z_word single _ (Flt.G_lt single _ _)]
  exact sg_RZ single _ _ _ (fun h => by unfold Flt.sumNeg; rw [if_neg h])
theorem num_fadd : ¬ Flt.NaN single (fadd x y) := by
  unfold fadd
  rw [Flt.add_fin single hx hy]
  exact G_word_num _ _ _
theorem fadd_le {c : Nat} (hc : Fin32 c) (h : Z32 x + Z32 y ≤ Z32 c) : Z32 (fadd x y) ≤ Z32 c := by
  rw [Z_fadd hx hy]; exact RZ_le single hc (by simpa using h)
theorem fadd_ge {c : Nat} (hc : Fin32 c) (h : Z32 c ≤ Z32 x + Z32 y) : Z32 c ≤ Z32 (fadd x y) := by
  rw [Z_fadd hx hy]; exact RZ_ge single hc (by simpa using h)
theorem sub_some : floatBits .sub .f32 x y = some (fsub x y) := by
  show single.sub x y = _
  unfold fsub
  rw [Flt.sub_fin single hx hy]; rfl
theorem Z_fsub : Z32 (fsub x y) = Flt.RZ single (Z32 x - Z32 y) 0 := by
  unfold fsub Z32
  rw [Flt.sub_fin single hx hy]
  simp only [Option.getD_some]
  rw [Flt.Z_word single _ (Flt.G_lt single _ _)]
  exact sg_RZ single _ _ _ (fun h => by unfold Flt.difNeg; rw [if_neg h])
theorem num_fsub : ¬ Flt.NaN single (fsub x y) := by
  unfold fsub
  rw [Flt.sub_fin single hx hy]
  exact G_word_num _ _ _
theorem fsub_le {c : Nat} (hc : Fin32 c) (h : Z32 x - Z32 y ≤ Z32 c) : Z32 (fsub x y) ≤ Z32 c := by
  rw [Z_fsub hx hy]; exact RZ_le single hc (by simpa using h)
theorem fsub_ge {c : Nat} (hc : Fin32 c) (h : Z32 c ≤ Z32 x - Z32 y) : Z32 c ≤ Z32 (fsub x y) := by
  rw [Z_fsub hx hy]; exact RZ_ge single hc (by simpa using h)
theorem mul_some : floatBits .mul .f32 x y = some (fmul x y) := by
  show single.mul x y = _
  unfold fmul
  rw [Flt.mul_fin single (D := 149) (by decide) hx hy]; rfl
theorem Z_fmul : Z32 (fmul x y) = Flt.RZ single (Z32 x * Z32 y) 149 := by
  unfold fmul
  rw [Flt.mul_fin single (D := 149) (by decide) hx hy]
  simp only [Option.getD_some]
  unfold Z32
  rw [Flt.Z_word single _ (Flt.G_lt single _ _)]
  refine sg_RZ single _ _ _ (fun h => ?_)
  unfold Flt.Z Flt.sg at h ⊢
  generalize Flt.U single (Flt.rung single x) = a at *
  generalize Flt.U single (Flt.rung single y) = b at *
  have := Int.mul_nonneg (Int.natCast_nonneg a) (Int.natCast_nonneg b)
  cases hnx : Flt.neg single x <;> cases hny : Flt.neg single y <;> rw [hnx, hny] at h <;> simp only [Bool.false_eq_true, if_true, if_false, Int.mul_neg, Int.neg_mul, Int.neg_neg] at h ⊢ <;> simp <;> omega
theorem num_fmul : ¬ Flt.NaN single (fmul x y) := by
  unfold fmul
  rw [Flt.mul_fin single (D := 149) (by decide) hx hy]
  exact G_word_num _ _ _
theorem fmul_le {c : Nat} (hc : Fin32 c) (h : Z32 x * Z32 y ≤ Z32 c * 2 ^ 149) : Z32 (fmul x y) ≤ Z32 c := by
  rw [Z_fmul hx hy]; exact RZ_le single hc h
theorem fmul_ge {c : Nat} (hc : Fin32 c) (h : Z32 c * 2 ^ 149 ≤ Z32 x * Z32 y) : Z32 c ≤ Z32 (fmul x y) := by
  rw [Z_fmul hx hy]; exact RZ_ge single hc h
theorem div_some (h0 : Z32 y ≠ 0) : floatBits .quo .f32 x y = some (fdiv x y) := by
  show single.div x y = _
  unfold fdiv
  obtain ⟨g, e, _⟩ := Flt.div_fin single (D := 149) (by decide) hx hy h0
  rw [e]; rfl
theorem num_fdiv (h0 : Z32 y ≠ 0) : ¬ Flt.NaN single (fdiv x y) := by
  unfold fdiv
  obtain ⟨g, e, hg, _⟩ := Flt.div_fin single (D := 149) (by decide) hx hy h0
  rw [e]
  exact Flt.word_nan single _ hg
end

section
variable {P : Program} (w : World) (t : TypeId) {x y : Nat} (hx : Fin32 x) (hy : Fin32 y)
include hx hy
theorem run_fadd : (binOp .add t (.float .f32 x) (.float .f32 y)).run P w = .ok (.float .f32 (fadd x y)) w := run_float_arith w .add t .f32 x y _ (add_some hx hy)
theorem run_fsub : (binOp .sub t (.float .f32 x) (.float .f32 y)).run P w = .ok (.float .f32 (fsub x y)) w := run_float_arith w .sub t .f32 x y _ (sub_some hx hy)
theorem run_fmul : (binOp .mul t (.float .f32 x) (.float .f32 y)).run P w = .ok (.float .f32 (fmul x y)) w := run_float_arith w .mul t .f32 x y _ (mul_some hx hy)
theorem run_fdiv (h0 : Z32 y ≠ 0) : (binOp .quo t (.float .f32 x) (.float .f32 y)).run P w = .ok (.float .f32 (fdiv x y)) w := run_float_arith w .quo t .f32 x y _ (div_some hx hy h0)
end

/-! ### ranges -/
def rangeB (lo hi a : Nat) : Bool := (FloatKind.f32.format.order a lo == some .gt || FloatKind.f32.format.order a lo == some .eq) && (FloatKind.f32.format.order a hi == some .lt || FloatKind.f32.format.order a hi == some .eq)

theorem ord_ge {a c : Nat} (hc : ¬ Flt.NaN single c) : (FloatKind.f32.format.order a c == some .gt || FloatKind.f32.format.order a c == some .eq) = decide (¬ Flt.NaN single a ∧ Z32 c ≤ Z32 a) := by
  rw [show FloatKind.f32.format.order a c = single.order a c from rfl]
  by_cases ha : Flt.NaN single a
  · rw [Flt.order_nan single (by decide) (Or.inl ha)]; simp [ha]
  · rw [Flt.order_num single (by decide) ha hc]
    unfold Z32
    rcases Int.lt_trichotomy (Flt.Z single a) (Flt.Z single c) with h | h | h
    · rw [Int.compare_eq_lt.2 h]; simp [ha]; omega
    · rw [Int.compare_eq_eq.2 h]; simp [ha]; omega
    · rw [Int.compare_eq_gt.2 h]; simp [ha]; omega
theorem ord_le {a c : Nat} (hc : ¬ Flt.NaN single c) : (FloatKind.f32.format.order a c == some .lt || FloatKind.f32.format.order a c == some .eq) = decide (¬ Flt.NaN single a ∧ Z32 a ≤ Z32 c) := by
  rw [show FloatKind.f32.format.order a c = single.order a c from rfl]
  by_cases ha : Flt.NaN single a
  · rw [Flt.order_nan single (by decide) (Or.inl ha)]; simp [ha]
  · rw [Flt.order_num single (by decide) ha hc]
    unfold Z32
    rcases Int.lt_trichotomy (Flt.Z single a) (Flt.Z single c) with h | h | h
    · rw [Int.compare_eq_lt.2 h]; simp [ha]; omega
    · rw [Int.compare_eq_eq.2 h]; simp [ha]; omega
    · rw [Int.compare_eq_gt.2 h]; simp [ha]; omega
theorem rangeB_eq {lo hi a : Nat} (h1 : ¬ Flt.NaN single lo) (h2 : ¬ Flt.NaN single hi) : rangeB lo hi a = decide (¬ Flt.NaN single a ∧ Z32 lo ≤ Z32 a ∧ Z32 a ≤ Z32 hi) := by
  unfold rangeB
  rw [ord_ge h1, ord_le h2, Bool.eq_iff_iff]
  simp only [Bool.and_eq_true, decide_eq_true_eq]
  exact ⟨fun ⟨⟨a, b⟩, _, c⟩ => ⟨a, b, c⟩, fun ⟨a, b, c⟩ => ⟨⟨a, b⟩, a, c⟩⟩

def one : Nat := 1065353216
abbrev partB (a : Nat) : Bool := rangeB 0 1065353216 a
abbrev filmB (a : Nat) : Bool := rangeB 0 1233125376 a
abbrev gainB (a : Nat) : Bool := rangeB 0 1048576000 a
theorem Z_zero : Z32 0 = 0 := by decide +kernel
theorem Z_one : Z32 1065353216 = 2 ^ 149 := by decide +kernel
theorem Z_film : Z32 1233125376 = 2 ^ 169 := by decide +kernel
theorem Z_gain : Z32 1048576000 = 2 ^ 147 := by decide +kernel
theorem Z_two : Z32 1073741824 = 2 ^ 150 := by decide +kernel
theorem Z_four : Z32 1082130432 = 2 ^ 151 := by decide +kernel
theorem part_iff (a : Nat) : partB a = true ↔ ¬ Flt.NaN single a ∧ 0 ≤ Z32 a ∧ Z32 a ≤ 2 ^ 149 := by
  rw [partB, rangeB_eq (by decide) (by decide), Z_zero, Z_one]; simp
theorem film_iff (a : Nat) : filmB a = true ↔ ¬ Flt.NaN single a ∧ 0 ≤ Z32 a ∧ Z32 a ≤ 2 ^ 169 := by
  rw [filmB, rangeB_eq (by decide) (by decide), Z_zero, Z_film]; simp
theorem gain_iff (a : Nat) : gainB a = true ↔ ¬ Flt.NaN single a ∧ 0 ≤ Z32 a ∧ Z32 a ≤ 2 ^ 147 := by
  rw [gainB, rangeB_eq (by decide) (by decide), Z_zero, Z_gain]; simp
theorem part_fin {a : Nat} (h : partB a = true) : Fin32 a := by
  obtain ⟨h1, h2, h3⟩ := (part_iff a).1 h
  exact fin_of h1 (by omega) (by omega)
theorem film_fin {a : Nat} (h : filmB a = true) : Fin32 a := by
  obtain ⟨h1, h2, h3⟩ := (film_iff a).1 h
  exact fin_of h1 (by omega) (by omega)
theorem gain_fin {a : Nat} (h : gainB a = true) : Fin32 a := by
  obtain ⟨h1, h2, h3⟩ := (gain_iff a).1 h
  exact fin_of h1 (by omega) (by omega)
end Go.Proofs.Ytiddeijhjedbbaa
