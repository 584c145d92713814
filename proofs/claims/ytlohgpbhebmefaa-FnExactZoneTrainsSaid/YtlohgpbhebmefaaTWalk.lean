/- Contracts of the functions that walk over a train's rollers: FilmsFall, ThickestRoller, InkOn; the reference's and the program's. -/
import Derived.Test.YtlohgpbhebmefaaTEq
import Derived.Test.YtlohgpbhebmefaaFErr
set_option linter.unusedVariables false
set_option linter.unusedSimpArgs false
namespace Go.Proofs.Ytlohgpbhebmefaa
open Go.RowKit Ieee

def fallsTo (F : Nat → Nat) : Nat → Bool
  | 0 => true
  | k + 1 => fallsTo F k && (k == 0 || !(FloatKind.f32.format.order (F k) (F (k - 1)) == some .gt))
theorem fallsTo_no {F : Nat → Nat} {k n : Nat} (h1 : 1 ≤ k) (hk : k < n) (h : (FloatKind.f32.format.order (F k) (F (k - 1)) == some .gt) = true) : fallsTo F n = false := by
  induction n with
  | zero => omega
  | succ n ih =>
    by_cases e : k = n
    · subst e
      have : (k == 0) = false := by simp; omega
      simp [fallsTo, h, this]
    · simp [fallsTo, ih (by omega)]
def fallsR (r : Int) (s t : Nat) (F : Nat → Nat) : Bool := trainB r s t F && fallsTo F r.toNat
def codeV (ok : Bool) : Int := if ok then 0 else 1
def thickAt (F : Nat → Nat) : Nat → Nat
  | 0 => 0
  | k + 1 => if k = 0 then 0 else if FloatKind.f32.format.order (F k) (F (thickAt F k)) == some .gt then k else thickAt F k
theorem thickAt_lt (F : Nat → Nat) : ∀ k, 1 ≤ k → thickAt F k < k
  | 1, _ => by simp [thickAt]
  | k + 2, _ => by
    have := thickAt_lt F (k + 1) (by omega)
    unfold thickAt
    rw [if_neg (by omega)]
    split <;> omega
theorem thickAt_step {F : Nat → Nat} {k : Nat} (h : 1 ≤ k) : thickAt F (k + 1) = if FloatKind.f32.format.order (F k) (F (thickAt F k)) == some .gt then k else thickAt F k := by
  rw [thickAt, if_neg (by omega)]

def thickR (r : Int) (s t : Nat) (F : Nat → Nat) : Nat := if trainB r s t F then thickAt F r.toNat else 0
def thickF (r : Int) (s t : Nat) (F : Nat → Nat) : Nat := if trainB r s t F then F (thickAt F r.toNat) else 0

theorem thick_keep {F : Nat → Nat} {k a : Nat} (ha : a = thickAt F k) (h : (FloatKind.f32.format.order (F k) (F a) == some .gt) = false) : thickAt F (k + 1) = a := by
  subst ha
  rw [thickAt, h]
  by_cases hk : k = 0
  · subst hk; rfl
  · rw [if_neg hk]; simp
theorem thick_turn {F : Nat → Nat} {k a : Nat} (ha : a = thickAt F k) (h0 : FloatKind.f32.format.order (F 0) (F 0) = some .eq) (h : (FloatKind.f32.format.order (F k) (F a) == some .gt) = true) : thickAt F (k + 1) = k := by
  subst ha
  by_cases hk : k = 0
  · subst hk; rfl
  · rw [thickAt, h, if_neg hk]; simp

end Go.Proofs.Ytlohgpbhebmefaa
