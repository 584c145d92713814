/- Contracts of DarkestCell, the reference's and the program's, and the law on it. -/
import Derived.Test.YtiddeijhjedbbaaPCover
import Derived.Test.YtiddeijhjedbbaaTWalk
set_option linter.unusedVariables false
set_option linter.unusedSimpArgs false
namespace Go.Proofs.Ytiddeijhjedbbaa
open Go.RowKit Ieee

theorem cnt_mono (a b : Nat) {i j : Nat} (h : i ≤ j) : cntC a b i ≤ cntC a b j := by
  induction j with
  | zero => have : i = 0 := by omega
            subst this; exact Nat.le_refl _
  | succ j ih =>
    by_cases e : i = j + 1
    · subst e; exact Nat.le_refl _
    · exact Nat.le_trans (ih (by omega)) (by simp [cntC])
/-- The darkest of the first k cells. -/
def darkK (F : Nat → Nat) (a : Nat) : Nat → Nat
  | 0 => 0
  | k + 1 => if FloatKind.f32.format.order (F (cellAt a k)) (F (darkK F a k)) == some .gt then cellAt a k else darkK F a k
theorem dark_lt {a b : Nat} (F : Nat → Nat) (ha : a < 9) (hb : b < 9) : ∀ k, k ≤ a * b → darkK F a k < 64
  | 0, _ => by simp [darkK]
  | k + 1, h => by
    have h64 := (cells_all a ha b hb).2
    unfold darkK
    split
    · exact (cells_of a ha b hb k (by omega) (by omega)).1
    · exact dark_lt F ha hb k (by omega)
theorem dark_turn {F : Nat → Nat} {a k i : Nat} (hi : cellAt a k = i) (h : (FloatKind.f32.format.order (F i) (F (darkK F a k)) == some .gt) = true) : darkK F a (k + 1) = i := by
  subst hi; rw [darkK, h]; simp
theorem dark_keep {F : Nat → Nat} {a k i : Nat} (hi : cellAt a k = i) (h : (FloatKind.f32.format.order (F i) (F (darkK F a k)) == some .gt) = false) : darkK F a (k + 1) = darkK F a k := by
  subst hi; rw [darkK, h]; simp
theorem dark_1 {F : Nat → Nat} {a : Nat} (h : ¬ Flt.NaN single (F 0)) : darkK F a 1 = 0 := by
  have e : cellAt a 0 = 0 := by simp [cellAt]
  rw [darkK, e, show darkK F a 0 = 0 from rfl, order_self .f32 h]
  simp
def darkI (x y : Int) (F : Nat → Nat) : Int := if plateB x y F then ((darkK F x.toNat (x.toNat * y.toNat) : Nat) : Int) else 0
def darkF (x y : Int) (F : Nat → Nat) : Nat := if plateB x y F then F (darkK F x.toNat (x.toNat * y.toNat)) else 0
theorem darkF_num (x y : Int) (F : Nat → Nat) : ¬ Flt.NaN single (darkF x y F) := by
  unfold darkF
  split
  · rename_i h
    have hn := plateB_num h
    obtain ⟨a, b, rfl, rfl, la, ha, lb, hb, _, _⟩ := plateB_size h
    exact hn _ (dark_lt F ha hb _ (Nat.le_refl _))
  · decide
end Go.Proofs.Ytiddeijhjedbbaa
