/- The walks of the laws on trains that give numbers. -/
import Derived.Test.YtiddeijhjedbbaaTSum
set_option linter.unusedVariables false
set_option linter.unusedSimpArgs false
namespace Go.Proofs.Ytiddeijhjedbbaa
open Go.RowKit Ieee

theorem trainB_num {r : Int} {s t : Nat} {F : Nat → Nat} (h : trainB r s t F = true) : ¬ Flt.NaN single s ∧ ¬ Flt.NaN single t ∧ ∀ i, i < 12 → ¬ Flt.NaN single (F i) := by
  obtain ⟨_, _, hs, ht, hf, hz⟩ := trainB_facts h
  refine ⟨((part_iff s).1 hs).1, ((part_iff t).1 ht).1, fun i hi => ?_⟩
  by_cases hr : (i : Int) < r
  · exact ((film_iff _).1 (hf i hi hr)).1
  · have := hz i hi (by omega)
    intro hn
    unfold zeroB at this
    rw [order_nan .f32 (Or.inl hn)] at this
    cases this
theorem thickF_num (r : Int) (s t : Nat) (F : Nat → Nat) : ¬ Flt.NaN single (thickF r s t F) := by
  unfold thickF
  split
  · rename_i h
    obtain ⟨h2, h12, _⟩ := trainB_facts h
    have := thickAt_lt F r.toNat (by omega)
    exact (trainB_num h).2.2 _ (by omega)
  · decide

end Go.Proofs.Ytiddeijhjedbbaa
