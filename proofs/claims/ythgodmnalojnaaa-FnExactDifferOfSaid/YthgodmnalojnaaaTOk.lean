/- Valid trains, as the reference and the program ask it. -/
import Derived.Test.YthgodmnalojnaaaTCopy
set_option linter.unusedVariables false
set_option linter.unusedSimpArgs false
namespace Go.Proofs.Ythgodmnalojnaaa
open Go.RowKit

def zeroB (x : Nat) : Bool := FloatKind.f32.format.order x 0 == some .eq
theorem zero_yes {x : Nat} (h : zeroB x = true) : FloatKind.f32.format.order x 0 = some .eq := by simpa [zeroB] using h
theorem zero_no {x : Nat} (h : zeroB x = false) : (FloatKind.f32.format.order x 0 == some .eq) = false ∧ (FloatKind.f32.format.order x 0 != some .eq) = true := by
  unfold zeroB at h
  exact ⟨h, by rw [bne, h]; rfl⟩
def cellB (r : Int) (F : Nat → Nat) (i : Nat) : Bool := if (i : Int) < r then filmB (F i) else zeroB (F i)
def cellsB (r : Int) (F : Nat → Nat) : Nat → Bool
  | 0 => true
  | k + 1 => cellsB r F k && cellB r F k
def trainB (r : Int) (s t : Nat) (F : Nat → Nat) : Bool := decide (2 ≤ r) && decide (r ≤ 12) && partB s && partB t && cellsB r F 12
theorem cellsB_le {r : Int} {F : Nat → Nat} {n : Nat} (h : cellsB r F n = true) : ∀ k, k < n → cellB r F k = true := by
  induction n with
  | zero => intro k hk; omega
  | succ n ih =>
    simp only [cellsB, Bool.and_eq_true] at h
    intro k hk
    by_cases e : k = n
    · subst e; exact h.2
    · exact ih h.1 k (by omega)
theorem cellsB_no {r : Int} {F : Nat → Nat} {n k : Nat} (hk : k < n) (h : cellB r F k = false) : cellsB r F n = false := by
  cases e : cellsB r F n
  · rfl
  · have := cellsB_le e k hk
    rw [h] at this; cases this
theorem trainB_no {r : Int} {s t : Nat} {F : Nat → Nat} {k : Nat} (hk : k < 12) (h : cellB r F k = false) : trainB r s t F = false := by
  unfold trainB; rw [cellsB_no hk h]; simp
theorem trainB_yes {r : Int} {s t : Nat} {F : Nat → Nat} (h1 : 2 ≤ r) (h2 : r ≤ 12) (hs : partB s = true) (ht : partB t = true) (h : cellsB r F 12 = true) : trainB r s t F = true := by
  unfold trainB; simp [h1, h2, hs, ht, h]

end Go.Proofs.Ythgodmnalojnaaa
