/- Contracts of DotAt and WithDot, the reference's and the program's, and the laws on them. -/
import Derived.Test.YtiddeijhjedbbaaPMap
set_option linter.unusedVariables false
set_option linter.unusedSimpArgs false
namespace Go.Proofs.Ytiddeijhjedbbaa
open Go.RowKit Ieee

theorem inXY_iff {X Y : Int} {a b : Nat} : inXY X Y a b = true ↔ (0 ≤ X ∧ X < a) ∧ 0 ≤ Y ∧ Y < b := by simp [inXY]
theorem inXY_nat {X Y : Int} {a b : Nat} (h : inXY X Y a b = true) : ∃ u v : Nat, X = u ∧ Y = v ∧ u < a ∧ v < b := by
  obtain ⟨⟨h1, h2⟩, h3, h4⟩ := inXY_iff.1 h
  exact ⟨X.toNat, Y.toNat, by omega, by omega, by omega, by omega⟩
section
end

def atR (x y : Int) (F : Nat → Nat) (X Y : Int) : Nat := if plateB x y F && inXY X Y x.toNat y.toNat then F (X + 8 * Y).toNat else 0
def atC (x y : Int) (F : Nat → Nat) (X Y : Int) : Int := if plateB x y F then (if inXY X Y x.toNat y.toNat then 0 else 2) else 1
theorem atR_num (x y : Int) (F : Nat → Nat) (X Y : Int) : ¬ Flt.NaN single (atR x y F X Y) := by
  unfold atR
  split
  · rename_i h
    rw [Bool.and_eq_true] at h
    obtain ⟨a, b, rfl, rfl, la, ha, lb, hb, _, _⟩ := plateB_size h.1
    obtain ⟨u, v, rfl, rfl, hu, hv⟩ := inXY_nat h.2
    exact plateB_num h.1 _ (by simp at hu hv; omega)
  · decide

theorem numWith {x y X Y : Int} {F : Nat → Nat} {d : Nat} (h : (plateB x y F && (inXY X Y x.toNat y.toNat && partB d)) = true) : ∀ i, i < 64 → ¬ Flt.NaN single (upd F (X + 8 * Y).toNat d i) := by
  simp only [Bool.and_eq_true] at h
  intro i hi
  unfold upd
  split
  · exact part_num' h.2.2
  · exact plateB_num h.1 i hi

end Go.Proofs.Ytiddeijhjedbbaa
