/- The contracts of the functions that take numbers alone: ranges, light, dots for light, gain. -/
import Derived.Test.YthgodmnalojnaaaFOps
import Derived.Test.YthgodmnalojnaaaFNum
set_option linter.unusedVariables false
set_option linter.unusedSimpArgs false
namespace Go.Proofs.Ythgodmnalojnaaa
open Go.RowKit

section
variable (a : Nat) (w : World)
theorem specPart_any : Calls Try.prog 50 #[.float .f32 a] w fun e w' => e = .returned (.bool (partB a)) ∧ w = w' := by
  go_enter Try.func50, Try.ntmps50
  go_wp2
  · rename_i h; go_ret; exact ⟨by simp [partB, rangeB, h], rfl⟩
  · rename_i h; go_ret; exact ⟨by simp [partB, rangeB, not_or.1 h], rfl⟩
theorem implPart_any : Calls Try.prog 48 #[.float .f32 a] w fun e w' => e = .returned (.bool (partB a)) ∧ w = w' := by
  go_enter Try.func48, Try.ntmps48
  go_wp2
  · rename_i h; go_ret; exact ⟨by simp [partB, rangeB, h], rfl⟩
  · rename_i h; go_ret; exact ⟨by simp [partB, rangeB, not_or.1 h], rfl⟩
end

theorem part_one_sub {s : Nat} (h : partB s = true) : partB (fsub 1065353216 s) = true := by
  obtain ⟨h1, h2, h3⟩ := (part_iff s).1 h
  have f1 : Fin32 1065353216 := by decide
  have f2 := part_fin h
  refine (part_iff _).2 ⟨num_fsub f1 f2, ?_, ?_⟩
  · have := fsub_ge f1 f2 (c := 0) (by decide) (by rw [Z_zero, Z_one]; omega)
    rwa [Z_zero] at this
  · have := fsub_le f1 f2 (c := 1065353216) f1 (by rw [Z_one]; omega)
    rwa [Z_one] at this
theorem part_mul {a b : Nat} (ha : partB a = true) (hb : partB b = true) : partB (fmul a b) = true := by
  obtain ⟨_, a2, a3⟩ := (part_iff a).1 ha
  obtain ⟨_, b2, b3⟩ := (part_iff b).1 hb
  have f1 := part_fin ha
  have f2 := part_fin hb
  have hp := Int.mul_nonneg a2 b2
  have hq := Int.mul_le_mul a3 b3 b2 (by omega)
  refine (part_iff _).2 ⟨num_fmul f1 f2, ?_, ?_⟩
  · have := fmul_ge f1 f2 (c := 0) (by decide) (by rw [Z_zero, Int.zero_mul]; exact hp)
    rwa [Z_zero] at this
  · have := fmul_le f1 f2 (c := 1065353216) (by decide) (by rw [Z_one]; exact hq)
    rwa [Z_one] at this
def lightR (d s : Nat) : Nat := if partB d && partB s then fsub 1065353216 (fmul d (fsub 1065353216 s)) else 0
def okC (b : Bool) : Int := if b then 0 else 2
theorem lightR_num (d s : Nat) : ¬ Flt.NaN Ieee.single (lightR d s) := by
  unfold lightR
  split
  · rename_i h
    rw [Bool.and_eq_true] at h
    exact fin_nan (part_fin (part_one_sub (part_mul h.1 (part_one_sub h.2))))
  · decide
end Go.Proofs.Ythgodmnalojnaaa
