/- Signbit, and whether two numbers are the same, as the program and the reference ask it; the bits fit 32 bits. -/
import Derived.Test.YtiddeijhjedbbaaFSame
import Derived.Outline
import Derived.Lib.Hide
set_option linter.unusedVariables false
set_option linter.unusedSimpArgs false
namespace Go.Proofs.Ytiddeijhjedbbaa
open Go.RowKit

theorem signbit_bool {x : Nat} (hx : x < 2 ^ 64) : decide (wrap64 (x : Int) < 0) = Flt.neg Ieee.double x := by
  have hs : Ieee.double.signWeight = 2 ^ 63 := by decide
  unfold Flt.neg wrap64
  rw [hs]
  by_cases h : x < 2 ^ 63
  · have h1 : x / 2 ^ 63 = 0 := Nat.div_eq_of_lt h
    rw [h1]; simp; omega
  · have h1 : x / 2 ^ 63 = 1 := by omega
    rw [h1]; simp; omega
theorem widen_lt (b : Nat) : Flt.widen b < 2 ^ 64 := Ieee.double.write_lt (Ieee.single.read b)

/-- Are two numbers the same? -/
def sameN (a b : Nat) : Bool := if Flt.NaN Ieee.single a ∨ Flt.NaN Ieee.single b then decide (Flt.NaN Ieee.single a ∧ Flt.NaN Ieee.single b) else decide (a = b)

theorem eq_of_same {a b : Nat} (ha : a < 2 ^ 32) (hb : b < 2 ^ 32) (na : ¬ Flt.NaN Ieee.single a) (nb : ¬ Flt.NaN Ieee.single b) :
    decide (a = b) = (FloatKind.f32.format.order a b == some .eq && (Flt.neg Ieee.single a == Flt.neg Ieee.single b)) := by
  rw [show FloatKind.f32.format.order a b = Ieee.single.order a b from rfl, Flt.order_num Ieee.single (by decide) na nb]
  have hs : 2 * Ieee.single.signWeight = 2 ^ 32 := by decide
  by_cases h : a = b
  · subst h; simp
  · simp only [h, decide_false]
    symm
    rw [Bool.and_eq_false_iff]
    by_cases hz : Flt.Z Ieee.single a = Flt.Z Ieee.single b
    · right
      by_cases hn : Flt.neg Ieee.single a = Flt.neg Ieee.single b
      · exact absurd (Flt.word_inj Ieee.single (by omega) (by omega) hn hz) h
      · simpa using hn
    · left
      simpa [Int.compare_eq_eq] using hz

section
variable (a b : Nat) (w : World)
theorem specSame_any : Calls Try.prog 56 #[.float .f32 a, .float .f32 b] w fun e w' => e = .returned (.bool (sameN a b)) ∧ w = w' := by
  have hbits : ∀ x w, (callFunc 64 #[.float .f32 x]).run Try.prog w = .ok (.value (.int .u32 x)) w := fun x w => by kernel_rfl
  by_cases na : Flt.NaN Ieee.single a
  · have h1 : FloatKind.f32.format.order a a = none := order_nan .f32 (Or.inl na)
    by_cases nb : Flt.NaN Ieee.single b
    · have h2 : FloatKind.f32.format.order b b = none := order_nan .f32 (Or.inl nb)
      have hS : sameN a b = true := by simp [sameN, na, nb]
      rw [hS]
      clear na nb hS
      go_enter Try.func56, Try.ntmps56
      go_wp2
      go_ret
      exact ⟨rfl, rfl⟩
    · have h2 : FloatKind.f32.format.order b b = some .eq := order_self .f32 nb
      have hS : sameN a b = false := by simp [sameN, na, nb]
      rw [hS]
      clear na nb hS
      go_enter Try.func56, Try.ntmps56
      go_wp2
      go_ret
      exact ⟨rfl, rfl⟩
  · have h1 : FloatKind.f32.format.order a a = some .eq := order_self .f32 na
    by_cases nb : Flt.NaN Ieee.single b
    · have h2 : FloatKind.f32.format.order b b = none := order_nan .f32 (Or.inl nb)
      have hS : sameN a b = false := by simp [sameN, na, nb]
      rw [hS]
      clear na nb hS
      go_enter Try.func56, Try.ntmps56
      go_wp2
      go_ret
      exact ⟨rfl, rfl⟩
    · have h2 : FloatKind.f32.format.order b b = some .eq := order_self .f32 nb
      have hS : sameN a b = ((a : Int) == (b : Int)) := by
        simp only [sameN, na, nb, or_self, if_false]
        rw [Bool.eq_iff_iff]; simp; omega
      rw [hS]
      clear na nb hS
      go_enter Try.func56, Try.ntmps56
      go_wp2
      all_goals (go_ret; exact ⟨rfl, rfl⟩)
end
end Go.Proofs.Ytiddeijhjedbbaa
