/- Signbit, and whether two numbers are the same, as the program and the reference ask it; the bits fit 32 bits. -/
import Derived.Test.YthgodmnalojnaaaFSame
import Derived.Outline
import Derived.Lib.Hide
set_option linter.unusedVariables false
set_option linter.unusedSimpArgs false
namespace Go.Proofs.Ythgodmnalojnaaa
open Go.RowKit

theorem signbit_bool {x : Nat} (hx : x < 2 ^ 64) : decide (wrap64 (x : Int) < 0) = Flt.neg Ieee.double x := by
  have hs : Ieee.double.signWeight = 2 ^ 63 := by decide
  unfold Flt.neg wrap64
  rw [hs]
  by_cases h : x < 2 ^ 63
  · have h1 : x / 2 ^ 63 = 0 := Nat.div_eq_of_lt h
    rw [h1]; simp; omega
  · have h1 : x / 2 ^ 63 = 1 := by omega
    rw [h1]; simp; omega
theorem signbit_any (x : Nat) (w : World) (hx : x < 2 ^ 64) : Calls Try.prog 73 #[.float .f64 x] w fun e w' => e = .returned (.bool (Flt.neg Ieee.double x)) ∧ w = w' := by
  have hb : ∀ x w, (callFunc 75 #[.float .f64 x]).run Try.prog w = .ok (.value (.int .u64 x)) w := fun x w => by kernel_rfl
  have hs := Lib.hid (signbit_bool hx)
  clear hx
  go_enter Try.func73, Try.ntmps73
  go_wp2
  go_ret
  exact ⟨by rw [hs.out]; rfl, rfl⟩

theorem widen_lt (b : Nat) : Flt.widen b < 2 ^ 64 := Ieee.double.write_lt (Ieee.single.read b)

/-- Are two numbers the same? -/
def sameN (a b : Nat) : Bool := if Flt.NaN Ieee.single a ∨ Flt.NaN Ieee.single b then decide (Flt.NaN Ieee.single a ∧ Flt.NaN Ieee.single b) else decide (a = b)

theorem eq_of_same {a b : Nat} (ha : a < 2 ^ 32) (hb : b < 2 ^ 32) (na : ¬ Flt.NaN Ieee.single a) (nb : ¬ Flt.NaN Ieee.single b) :
    decide (a = b) = (FloatKind.f32.format.order a b == some .eq && (Flt.neg Ieee.single a == Flt.neg Ieee.single b)) := by
  rw [show FloatKind.f32.format.order a b = Ieee.single.order a b from rfl, Flt.order_num Ieee.single (by decide) na nb]
  have hs : 2 * Ieee.single.signWeight = 2 ^ 32 := by decide
  by_cases h : a = b
  · subst h; simp
  · simp only [h, decide_false]
    symm
    rw [Bool.and_eq_false_iff]
    by_cases hz : Flt.Z Ieee.single a = Flt.Z Ieee.single b
    · right
      by_cases hn : Flt.neg Ieee.single a = Flt.neg Ieee.single b
      · exact absurd (Flt.word_inj Ieee.single (by omega) (by omega) hn hz) h
      · simpa using hn
    · left
      simpa [Int.compare_eq_eq] using hz

section
variable (a b : Nat) (w : World)
theorem specSame_any : Calls Try.prog 68 #[.float .f32 a, .float .f32 b] w fun e w' => e = .returned (.bool (sameN a b)) ∧ w = w' := by
  have hbits : ∀ x w, (callFunc 72 #[.float .f32 x]).run Try.prog w = .ok (.value (.int .u32 x)) w := fun x w => by kernel_rfl
  by_cases na : Flt.NaN Ieee.single a
  · have h1 : FloatKind.f32.format.order a a = none := order_nan .f32 (Or.inl na)
    by_cases nb : Flt.NaN Ieee.single b
    · have h2 : FloatKind.f32.format.order b b = none := order_nan .f32 (Or.inl nb)
      have hS : sameN a b = true := by simp [sameN, na, nb]
      rw [hS]
      clear na nb hS
      go_enter Try.func68, Try.ntmps68
      go_wp2
      go_ret
      exact ⟨rfl, rfl⟩
    · have h2 : FloatKind.f32.format.order b b = some .eq := order_self .f32 nb
      have hS : sameN a b = false := by simp [sameN, na, nb]
      rw [hS]
      clear na nb hS
      go_enter Try.func68, Try.ntmps68
      go_wp2
      go_ret
      exact ⟨rfl, rfl⟩
  · have h1 : FloatKind.f32.format.order a a = some .eq := order_self .f32 na
    by_cases nb : Flt.NaN Ieee.single b
    · have h2 : FloatKind.f32.format.order b b = none := order_nan .f32 (Or.inl nb)
      have hS : sameN a b = false := by simp [sameN, na, nb]
      rw [hS]
      clear na nb hS
      go_enter Try.func68, Try.ntmps68
      go_wp2
      go_ret
      exact ⟨rfl, rfl⟩
    · have h2 : FloatKind.f32.format.order b b = some .eq := order_self .f32 nb
      have hS : sameN a b = ((a : Int) == (b : Int)) := by
        simp only [sameN, na, nb, or_self, if_false]
        rw [Bool.eq_iff_iff]; simp; omega
      rw [hS]
      clear na nb hS
      go_enter Try.func68, Try.ntmps68
      go_wp2
      all_goals (go_ret; exact ⟨rfl, rfl⟩)
theorem implSame_any (ha : a < 2 ^ 32) (hb : b < 2 ^ 32) : Calls Try.prog 69 #[.float .f32 a, .float .f32 b] w fun e w' => e = .returned (.bool (sameN a b)) ∧ w = w' := by
  by_cases na : Flt.NaN Ieee.single a
  · have h1 : FloatKind.f32.format.order a a = none := order_nan .f32 (Or.inl na)
    clear ha hb
    by_cases nb : Flt.NaN Ieee.single b
    · have h2 : FloatKind.f32.format.order b b = none := order_nan .f32 (Or.inl nb)
      have hS : sameN a b = true := by simp [sameN, na, nb]
      rw [hS]
      clear na nb hS
      go_enter Try.func69, Try.ntmps69
      go_wp2
      go_ret
      exact ⟨rfl, rfl⟩
    · have h2 : FloatKind.f32.format.order b b = some .eq := order_self .f32 nb
      have hS : sameN a b = false := by simp [sameN, na, nb]
      rw [hS]
      clear na nb hS
      go_enter Try.func69, Try.ntmps69
      go_wp2
      go_ret
      exact ⟨rfl, rfl⟩
  · have h1 : FloatKind.f32.format.order a a = some .eq := order_self .f32 na
    by_cases nb : Flt.NaN Ieee.single b
    · have h2 : FloatKind.f32.format.order b b = none := order_nan .f32 (Or.inl nb)
      have hS : sameN a b = false := by simp [sameN, na, nb]
      rw [hS]
      clear na nb hS ha hb
      go_enter Try.func69, Try.ntmps69
      go_wp2
      go_ret
      exact ⟨rfl, rfl⟩
    · have h2 : FloatKind.f32.format.order b b = some .eq := order_self .f32 nb
      have hS : sameN a b = (FloatKind.f32.format.order a b == some .eq && (Flt.neg Ieee.single a == Flt.neg Ieee.single b)) := by
        simp only [sameN, na, nb, or_self, if_false]
        exact eq_of_same ha hb na nb
      have ca := fun w => run_wide (P := Try.prog) 23 41 a w (by kernel_rfl) (by kernel_rfl) na
      have cb := fun w => run_wide (P := Try.prog) 23 41 b w (by kernel_rfl) (by kernel_rfl) nb
      have sa := signbit_any (Flt.widen a) w (widen_lt a)
      have sb := signbit_any (Flt.widen b) w (widen_lt b)
      rw [Flt.widen_neg na] at sa
      rw [Flt.widen_neg nb] at sb
      have SA := Lib.hid sa
      have SB := Lib.hid sb
      clear sa sb
      rw [hS]
      clear na nb hS ha hb
      by_cases ho : FloatKind.f32.format.order a b = some .eq
      · go_enter Try.func69, Try.ntmps69
        go_wp2_with fail
        refine SA.out.mono ?_
        rintro e w' ⟨rfl, rfl⟩
        go_wp2_with fail
        refine SB.out.mono ?_
        rintro e w' ⟨rfl, rfl⟩
        go_wp2
        go_ret
        exact ⟨by simp [ho], rfl⟩
      · go_enter Try.func69, Try.ntmps69
        go_wp2
        go_ret
        exact ⟨by simp [ho], rfl⟩
end
end Go.Proofs.Ythgodmnalojnaaa
