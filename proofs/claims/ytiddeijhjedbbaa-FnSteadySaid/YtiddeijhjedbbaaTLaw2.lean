/- The walks of the laws on EmptyTrain and WashTrain. -/
import Derived.Test.YtiddeijhjedbbaaTMap
set_option linter.unusedVariables false
set_option linter.unusedSimpArgs false
namespace Go.Proofs.Ytiddeijhjedbbaa
open Go.RowKit Ieee

def NumT (s t : Nat) (F : Nat → Nat) : Prop := ¬ Flt.NaN single s ∧ ¬ Flt.NaN single t ∧ ∀ i, i < 12 → ¬ Flt.NaN single (F i)
theorem num_zero : NumT 0 0 (fun _ => 0) := ⟨by decide, by decide, fun _ _ => (by decide : ¬ Flt.NaN single 0)⟩
theorem part_num {a : Nat} (h : partB a = true) : ¬ Flt.NaN single a := ((part_iff a).1 h).1
theorem film_num {a : Nat} (h : filmB a = true) : ¬ Flt.NaN single a := ((film_iff a).1 h).1
theorem numEmpty {n : Int} {a b : Nat} (h : emptyB n a b = true) : NumT a b (fun _ => 0) := by
  unfold emptyB at h
  simp only [Bool.and_eq_true] at h
  exact ⟨part_num h.2.1, part_num h.2.2, fun _ _ => (by decide : ¬ Flt.NaN single 0)⟩
theorem numWash {r : Int} {s t : Nat} {F : Nat → Nat} {x : Nat} (h : (trainB r s t F && partB x) = true) : NumT s t (washF r F x) := by
  simp only [Bool.and_eq_true] at h
  obtain ⟨ho, hx⟩ := h
  obtain ⟨_, _, hs, ht, hf, hz⟩ := trainB_facts ho
  refine ⟨part_num hs, part_num ht, fun i hi => ?_⟩
  unfold washF
  split
  · rename_i hr
    exact film_num (film_mul (hf i hi hr) (part_one_sub hx))
  · exact (trainB_num ho).2.2 i hi

end Go.Proofs.Ytiddeijhjedbbaa
