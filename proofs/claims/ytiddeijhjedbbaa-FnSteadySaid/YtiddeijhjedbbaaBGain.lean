/- The contracts of the functions that take numbers alone: dots for light, gain, and what has gained taken back. -/
import Derived.Test.YtiddeijhjedbbaaBNum
set_option linter.unusedVariables false
set_option linter.unusedSimpArgs false
namespace Go.Proofs.Ytiddeijhjedbbaa
open Go.RowKit Ieee

/-! ### quotients of numbers that are not negative -/
theorem Z_fdiv_pos {x y : Nat} (hx : Fin32 x) (hy : Fin32 y) (h0 : 0 ≤ Z32 x) (h1 : 0 < Z32 y) :
    ∃ g, Z32 (fdiv x y) = (Flt.U single g : Nat) ∧ g ≤ single.infRung ∧ ∀ r, r ≤ single.infRung → (Z32 x * 2 ^ 149 ≤ (Flt.U single r : Nat) * Z32 y → g ≤ r) ∧ ((Flt.U single r : Nat) * Z32 y ≤ Z32 x * 2 ^ 149 → r ≤ g) := by
  obtain ⟨g, e, hg, hr⟩ := Flt.div_fin single (D := 149) (by decide) hx hy (by unfold Z32 at h1; omega)
  have hxa : ((Flt.Z single x).natAbs : Int) = Z32 x := by unfold Z32 at *; omega
  have hya : ((Flt.Z single y).natAbs : Int) = Z32 y := by unfold Z32 at *; omega
  have hp : ((2 ^ 149 : Nat) : Int) = 2 ^ 149 := by simp
  have conv : ∀ r, r ≤ single.infRung → (Z32 x * 2 ^ 149 ≤ (Flt.U single r : Nat) * Z32 y → g ≤ r) ∧ ((Flt.U single r : Nat) * Z32 y ≤ Z32 x * 2 ^ 149 → r ≤ g) := by
    intro r hrr
    obtain ⟨c1, c2⟩ := hr r hrr
    rw [← hxa, ← hya, ← hp, ← Int.natCast_mul, ← Int.natCast_mul]
    exact ⟨fun h => c1 (by exact_mod_cast h), fun h => c2 (by exact_mod_cast h)⟩
  refine ⟨g, ?_, hg, conv⟩
  have hny : Flt.neg single y = false := by
    unfold Z32 Flt.Z Flt.sg at h1
    cases hn : Flt.neg single y
    · rfl
    · rw [hn] at h1; simp at h1; omega
  unfold fdiv Z32
  rw [e]
  simp only [Option.getD_some]
  rw [Flt.Z_word single _ (by have := Flt.infRung_lt' single; omega), hny]
  by_cases hz : Z32 x = 0
  · have : g ≤ 0 := (conv 0 (by omega)).1 (by rw [hz]; simp [Flt.U_zero])
    have : g = 0 := by omega
    subst this
    rw [Flt.U_zero]
    unfold Flt.sg; split <;> simp
  · have hnx : Flt.neg single x = false := by
      unfold Z32 Flt.Z Flt.sg at h0 hz
      cases hn : Flt.neg single x
      · rfl
      · rw [hn] at h0 hz; simp at h0 hz; omega
    rw [hnx]; rfl
theorem U_of_pos {c : Nat} (h : 0 ≤ Z32 c) : ((Flt.U single (Flt.rung single c) : Nat) : Int) = Z32 c := by
  unfold Z32 Flt.Z Flt.sg at *
  split at h
  · rename_i hn; rw [if_pos hn]; omega
  · rename_i hn; rw [if_neg hn]
theorem fdiv_le {x y c : Nat} (hx : Fin32 x) (hy : Fin32 y) (h0 : 0 ≤ Z32 x) (h1 : 0 < Z32 y) (hc : Fin32 c) (hc0 : 0 ≤ Z32 c) (h : Z32 x * 2 ^ 149 ≤ Z32 c * Z32 y) : Z32 (fdiv x y) ≤ Z32 c := by
  obtain ⟨g, e, hg, hr⟩ := Z_fdiv_pos hx hy h0 h1
  have hrc : Flt.rung single c ≤ single.infRung := Nat.le_of_lt hc
  have := (hr _ hrc).1 (by rw [U_of_pos hc0]; exact h)
  rw [e, ← U_of_pos hc0]
  exact_mod_cast Flt.U_le single this
theorem fdiv_ge {x y c : Nat} (hx : Fin32 x) (hy : Fin32 y) (h0 : 0 ≤ Z32 x) (h1 : 0 < Z32 y) (hc : Fin32 c) (hc0 : 0 ≤ Z32 c) (h : Z32 c * Z32 y ≤ Z32 x * 2 ^ 149) : Z32 c ≤ Z32 (fdiv x y) := by
  obtain ⟨g, e, hg, hr⟩ := Z_fdiv_pos hx hy h0 h1
  have hrc : Flt.rung single c ≤ single.infRung := Nat.le_of_lt hc
  have := (hr _ hrc).2 (by rw [U_of_pos hc0]; exact h)
  rw [e, ← U_of_pos hc0]
  exact_mod_cast Flt.U_le single this

/-! ### dots for light -/
def isOne (s : Nat) : Bool := FloatKind.f32.format.order s 1065353216 == some .eq
def overOne (s : Nat) : Bool := FloatKind.f32.format.order s 1065353216 == some .gt
def dotQ (l s : Nat) : Nat := fdiv (fsub 1065353216 l) (fsub 1065353216 s)
def dotR (l s : Nat) : Nat := if partB l && partB s && !isOne s && !overOne (dotQ l s) then dotQ l s else 0
def dotC (l s : Nat) : Int := if !(partB l && partB s) then 2 else if isOne s then 4 else if overOne (dotQ l s) then 6 else 0
theorem less_pos {s : Nat} (h : partB s = true) (h1 : isOne s = false) : 0 < Z32 (fsub 1065353216 s) := by
  obtain ⟨n, a, b⟩ := (part_iff s).1 h
  have hne : Z32 s ≠ 2 ^ 149 := by
    intro he
    unfold isOne at h1
    rw [show FloatKind.f32.format.order s 1065353216 = single.order s 1065353216 from rfl, Flt.order_num single (by decide) n (by decide)] at h1
    rw [show Flt.Z single s = Flt.Z single 1065353216 from by rw [show Flt.Z single s = Z32 s from rfl, he]; exact Z_one.symm] at h1
    simp at h1
  have := fsub_ge (x := 1065353216) (y := s) (by decide) (part_fin h) (c := 1) (by decide) (by rw [Z_one, show Z32 1 = 1 from by decide +kernel]; omega)
  rw [show Z32 1 = 1 from by decide +kernel] at this
  omega
theorem dotQ_num {l s : Nat} (hl : partB l = true) (hs : partB s = true) (h1 : isOne s = false) : ¬ Flt.NaN single (dotQ l s) :=
  num_fdiv (part_fin (part_one_sub hl)) (part_fin (part_one_sub hs)) (by have := less_pos hs h1; omega)
theorem dotR_num (l s : Nat) : ¬ Flt.NaN single (dotR l s) := by
  unfold dotR
  split
  · rename_i h
    simp only [Bool.and_eq_true, Bool.not_eq_true'] at h
    exact dotQ_num h.1.1.1 h.1.1.2 h.1.2
  · decide
def clipR (x : Nat) : Nat := if FloatKind.f32.format.order x 1065353216 == some .gt then 1065353216 else if FloatKind.f32.format.order x 0 == some .lt then 0 else x
def gained (d g : Nat) : Nat := clipR (fadd d (fmul g (fmul (fmul 1082130432 d) (fsub 1065353216 d))))
theorem part_clip {x : Nat} (h : ¬ Flt.NaN single x) : partB (clipR x) = true := by
  unfold clipR
  rw [show FloatKind.f32.format.order x 1065353216 = single.order x 1065353216 from rfl, show FloatKind.f32.format.order x 0 = single.order x 0 from rfl, Flt.order_num single (by decide) h (by decide), Flt.order_num single (by decide) h (by decide)]
  rw [show Flt.Z single 1065353216 = 2 ^ 149 from Z_one, show Flt.Z single 0 = 0 from Z_zero, show Flt.Z single x = Z32 x from rfl]
  split
  · decide +kernel
  · split
    · decide +kernel
    · rename_i h1 h2
      refine (part_iff x).2 ⟨h, ?_, ?_⟩
      · rcases Int.lt_trichotomy (Z32 x) 0 with hz | hz | hz
        · rw [Int.compare_eq_lt.2 hz] at h2; simp at h2
        · omega
        · omega
      · rcases Int.lt_trichotomy (Z32 x) (2 ^ 149) with hz | hz | hz
        · omega
        · omega
        · rw [Int.compare_eq_gt.2 hz] at h1; simp at h1
structure GainFacts (d g : Nat) : Prop where
  f1 : Fin32 (fmul 1082130432 d)
  f2 : Fin32 (fsub 1065353216 d)
  f3 : Fin32 (fmul (fmul 1082130432 d) (fsub 1065353216 d))
  f4 : Fin32 (fmul g (fmul (fmul 1082130432 d) (fsub 1065353216 d)))
  n5 : ¬ Flt.NaN single (fadd d (fmul g (fmul (fmul 1082130432 d) (fsub 1065353216 d))))
  p4 : 0 ≤ Z32 (fmul g (fmul (fmul 1082130432 d) (fsub 1065353216 d)))
theorem gain_facts {d g : Nat} (hd : partB d = true) (hg : gainB g = true) : GainFacts d g := by
  obtain ⟨_, d2, d3⟩ := (part_iff d).1 hd
  obtain ⟨_, g2, g3⟩ := (gain_iff g).1 hg
  have fd := part_fin hd
  have fg := gain_fin hg
  have four : Fin32 1082130432 := by decide
  -- 4 d
  have a0 : 0 ≤ Z32 (fmul 1082130432 d) := by
    have := fmul_ge four fd (c := 0) (by decide) (by rw [Z_zero, Z_four, Int.zero_mul]; omega)
    rwa [Z_zero] at this
  have a1 : Z32 (fmul 1082130432 d) ≤ 2 ^ 151 := by
    have := fmul_le four fd (c := 1082130432) four (by rw [Z_four]; omega)
    rwa [Z_four] at this
  have f1 : Fin32 (fmul 1082130432 d) := fin_of (num_fmul four fd) (by omega) (by omega)
  -- 1 - d
  have hs := part_one_sub hd
  obtain ⟨_, b0, b1⟩ := (part_iff _).1 hs
  have f2 := part_fin hs
  -- their product
  have m0 := Int.mul_nonneg a0 b0
  have m1 := Int.mul_le_mul a1 b1 b0 (by omega)
  have c0 : 0 ≤ Z32 (fmul (fmul 1082130432 d) (fsub 1065353216 d)) := by
    have := fmul_ge f1 f2 (c := 0) (by decide) (by rw [Z_zero, Int.zero_mul]; exact m0)
    rwa [Z_zero] at this
  have c1 : Z32 (fmul (fmul 1082130432 d) (fsub 1065353216 d)) ≤ 2 ^ 151 := by
    have := fmul_le f1 f2 (c := 1082130432) four (by rw [Z_four]; exact m1)
    rwa [Z_four] at this
  have f3 : Fin32 (fmul (fmul 1082130432 d) (fsub 1065353216 d)) := fin_of (num_fmul f1 f2) (by omega) (by omega)
  -- with the gain
  have k0 := Int.mul_nonneg g2 c0
  have k1 := Int.mul_le_mul g3 c1 c0 (by omega)
  have e0 : 0 ≤ Z32 (fmul g (fmul (fmul 1082130432 d) (fsub 1065353216 d))) := by
    have := fmul_ge fg f3 (c := 0) (by decide) (by rw [Z_zero, Int.zero_mul]; exact k0)
    rwa [Z_zero] at this
  have e1 : Z32 (fmul g (fmul (fmul 1082130432 d) (fsub 1065353216 d))) ≤ 2 ^ 149 := by
    have := fmul_le fg f3 (c := 1065353216) (by decide) (by rw [Z_one]; exact k1)
    rwa [Z_one] at this
  have f4 : Fin32 (fmul g (fmul (fmul 1082130432 d) (fsub 1065353216 d))) := fin_of (num_fmul fg f3) (by omega) (by omega)
  exact ⟨f1, f2, f3, f4, num_fadd fd f4, e0⟩
theorem part_gained {d g : Nat} (hd : partB d = true) (hg : gainB g = true) : partB (gained d g) = true := part_clip (gain_facts hd hg).n5

end Go.Proofs.Ytiddeijhjedbbaa
