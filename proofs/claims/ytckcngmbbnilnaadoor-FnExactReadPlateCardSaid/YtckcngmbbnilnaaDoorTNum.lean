/- Contracts of the functions of trains that give numbers: SteadyFed, FilmsFall, ThickestRoller, InkOn; the reference's and the program's. -/
import Derived.Test.YtckcngmbbnilnaaDoorTOk
set_option linter.unusedVariables false
set_option linter.unusedSimpArgs false
namespace Go.Proofs.YtckcngmbbnilnaaDoor
open Go.RowKit Ieee

theorem trainB_facts {r : Int} {s t : Nat} {F : Nat → Nat} (h : trainB r s t F = true) : 2 ≤ r ∧ r ≤ 12 ∧ partB s = true ∧ partB t = true ∧ (∀ i : Nat, i < 12 → (i : Int) < r → filmB (F i) = true) ∧ (∀ i : Nat, i < 12 → r ≤ (i : Int) → zeroB (F i) = true) := by
  unfold trainB at h
  simp only [Bool.and_eq_true, decide_eq_true_eq] at h
  obtain ⟨⟨⟨⟨h1, h2⟩, h3⟩, h4⟩, h5⟩ := h
  have h6 := cellsB_le h5
  refine ⟨h1, h2, h3, h4, fun i hi hr => ?_, fun i hi hr => ?_⟩
  · have := h6 i hi
    unfold cellB at this
    rwa [if_pos hr] at this
  · have := h6 i hi
    unfold cellB at this
    rwa [if_neg (by omega)] at this
def steadyR (c f : Nat) (r : Int) (s t : Nat) (F : Nat → Nat) : Nat := if trainB r s t F && (partB c && filmB f) then fmul f (fmul t c) else 0
def codeT (ok rng : Bool) : Int := if !ok then 1 else if !rng then 2 else 0
structure SteadyFacts (c f t : Nat) : Prop where
  f1 : Fin32 (fmul t c)
  f2 : Fin32 (fmul f (fmul t c))
theorem film_mul {f p : Nat} (hf : filmB f = true) (hp : partB p = true) : filmB (fmul f p) = true := by
  obtain ⟨_, a2, a3⟩ := (film_iff f).1 hf
  obtain ⟨_, b2, b3⟩ := (part_iff p).1 hp
  have f1 := film_fin hf
  have f2 := part_fin hp
  have h0 := Int.mul_nonneg a2 b2
  have h1 := Int.mul_le_mul a3 b3 b2 (by omega)
  refine (film_iff _).2 ⟨num_fmul f1 f2, ?_, ?_⟩
  · have := fmul_ge f1 f2 (c := 0) (by decide) (by rw [Z_zero, Int.zero_mul]; exact h0)
    rwa [Z_zero] at this
  · have := fmul_le f1 f2 (c := 1233125376) (by decide) (by rw [Z_film]; exact h1)
    rwa [Z_film] at this
theorem steadyR_num (c f : Nat) (r : Int) (s t : Nat) (F : Nat → Nat) : ¬ Flt.NaN single (steadyR c f r s t F) := by
  unfold steadyR
  split
  · rename_i h
    simp only [Bool.and_eq_true] at h
    obtain ⟨_, _, _, ht, _⟩ := trainB_facts h.1
    exact fin_nan (film_fin (film_mul h.2.2 (part_mul ht h.2.1)))
  · decide

end Go.Proofs.YtckcngmbbnilnaaDoor
