/- Sums, differences and products of finite numbers, and how two numbers stand to each other, are proved to be what integers of units say; the operands are finite. -/
import Derived.Test.YtiddeijhjedbbaaFlt
set_option linter.unusedVariables false
set_option linter.unusedSimpArgs false
namespace Flt
open Ieee
section
variable (f : Format)

def rung (w : Nat) : Nat := w % f.signWeight
def neg (w : Nat) : Bool := w / f.signWeight % 2 == 1
/-- a finite number -/
def Fin (w : Nat) : Prop := rung f w < f.infRung
def NaN (w : Nat) : Prop := f.infRung < rung f w
instance (w : Nat) : Decidable (Fin f w) := by unfold Fin; infer_instance
instance (w : Nat) : Decidable (NaN f w) := by unfold NaN; infer_instance
/-- The number with its sign, in units; an infinity counts as the next rung. -/
def sg (n : Bool) (u : Nat) : Int := if n then -(u : Int) else u
def Z (w : Nat) : Int := sg (neg f w) (U f (rung f w))
/-- The rounded number. -/
def RZ (z : Int) (d : Nat) : Int := sg (decide (z < 0)) (U f (G f z.natAbs d))

theorem infRung_lt' : f.infRung < f.signWeight := by
  have h : 0 < 2 ^ f.exponentBits := Nat.two_pow_pos _
  have hb := binade_pos f
  have : f.infRung + f.binade = f.signWeight := by
    unfold Format.infRung Format.signWeight
    rw [Nat.pow_add, ← Nat.succ_mul]
    exact congrArg (· * f.binade) (by omega)
  omega

theorem sw_pos : 0 < f.signWeight := Nat.two_pow_pos _

theorem rung_word (n : Bool) {r : Nat} (h : r < f.signWeight) : rung f (f.word n r) = r := by
  unfold rung Format.word
  cases n
  · simp [Nat.mod_eq_of_lt h]
  · simp [Nat.mod_eq_of_lt h]
theorem neg_word (n : Bool) {r : Nat} (h : r < f.signWeight) : neg f (f.word n r) = n := by
  unfold neg Format.word
  cases n
  · simp [Nat.div_eq_of_lt h]
  · have : (f.signWeight + r) / f.signWeight = 1 := by
      rw [Nat.add_div_left _ (sw_pos f), Nat.div_eq_of_lt h]
    simp [this]
theorem Z_word (n : Bool) {r : Nat} (h : r < f.signWeight) : Z f (f.word n r) = sg n (U f r) := by
  unfold Z; rw [rung_word f n h, neg_word f n h]
theorem word_rung (w : Nat) (h : w < 2 * f.signWeight) : f.word (neg f w) (rung f w) = w := by
  have hs := sw_pos f
  have h1 := Nat.div_add_mod w f.signWeight
  have h2 : w / f.signWeight < 2 := (Nat.div_lt_iff_lt_mul hs).2 (by omega)
  unfold Format.word neg rung
  generalize w / f.signWeight = q at *
  generalize w % f.signWeight = t at *
  by_cases h0 : q = 0
  · subst h0; simp at h1 ⊢; exact h1
  · have : q = 1 := by omega
    subst this; simp at h1 ⊢; exact h1

theorem G_lt (n d : Nat) : G f n d < f.signWeight := by
  have := infRung_lt' f
  unfold G; omega

theorem read_fin {w : Nat} (h : Fin f w) : ∃ m k, f.read w = .number (neg f w) m (f.leastPlace + (k : Nat)) ∧ m * 2 ^ k = U f (rung f w) := by
  unfold Fin rung at h
  unfold Format.read rung neg
  dsimp only
  by_cases h1 : w % f.signWeight < f.binade
  · rw [if_pos h1]
    exact ⟨w % f.signWeight, 0, by simp, by simp [U, h1]⟩
  · rw [if_neg h1, if_pos h]
    exact ⟨_, _, rfl, by simp [U, h1]⟩
theorem read_inf (hf : f.binade ≤ f.infRung) {w : Nat} (h : rung f w = f.infRung) : f.read w = .infinity (neg f w) := by
  unfold rung at h
  unfold Format.read neg
  dsimp only
  rw [if_neg (by omega), if_neg (by omega), if_pos h]
theorem read_nan (hf : f.binade ≤ f.infRung) {w : Nat} (h : NaN f w) : f.read w = .nan (neg f w) (rung f w - f.infRung) := by
  unfold NaN at h
  unfold rung at *
  unfold Format.read neg
  dsimp only
  rw [if_neg (by omega), if_neg (by omega), if_neg (by omega)]

theorem signed_shift (s : Bool) (m k j : Nat) (h : j ≤ k) : signed s m (k - j) * (2 : Int) ^ j = sg s (m * 2 ^ k) := by
  have : m * 2 ^ (k - j) * 2 ^ j = m * 2 ^ k := by rw [Nat.mul_assoc, ← Nat.pow_add, Nat.sub_add_cancel h]
  unfold signed sg
  rw [Nat.shiftLeft_eq]
  split
  · rw [Int.neg_mul, ← this]; simp [Int.natCast_mul, Int.natCast_pow]
  · rw [← this]; simp [Int.natCast_mul, Int.natCast_pow]

theorem compare_scale (a b : Int) (j : Nat) : compare (a * (2 : Int) ^ j) (b * (2 : Int) ^ j) = compare a b := by
  have hp : (0 : Int) < 2 ^ j := Int.pow_pos (by decide)
  rcases Int.lt_trichotomy a b with h | h | h
  · have := Int.mul_lt_mul_of_pos_right h hp
    rw [show compare a b = .lt from Int.compare_eq_lt.2 h, show compare (a * 2 ^ j) (b * 2 ^ j) = .lt from Int.compare_eq_lt.2 this]
  · subst h; simp
  · have := Int.mul_lt_mul_of_pos_right h hp
    rw [show compare a b = .gt from Int.compare_eq_gt.2 h, show compare (a * 2 ^ j) (b * 2 ^ j) = .gt from Int.compare_eq_gt.2 this]

theorem U_inf_gt {w : Nat} (h : Fin f w) : U f (rung f w) < U f f.infRung := U_lt f h

theorem Z_fin {w : Nat} (h : Fin f w) : -(U f f.infRung : Int) < Z f w ∧ Z f w < U f f.infRung := by
  have := U_inf_gt f h
  unfold Z sg; split <;> omega

theorem order_fin {x y : Nat} (hx : Fin f x) (hy : Fin f y) : f.order x y = some (compare (Z f x) (Z f y)) := by
  obtain ⟨m, k, e1, u1⟩ := read_fin f hx
  obtain ⟨n, l, e2, u2⟩ := read_fin f hy
  unfold Format.order
  rw [e1, e2]
  simp only [Datum.order]
  congr 1
  unfold Z
  rw [← u1, ← u2]
  have a1 : (f.leastPlace + (k : Int) - min (f.leastPlace + (k : Int)) (f.leastPlace + (l : Int))).toNat = k - min k l := by omega
  have a2 : (f.leastPlace + (l : Int) - min (f.leastPlace + (k : Int)) (f.leastPlace + (l : Int))).toNat = l - min k l := by omega
  rw [a1, a2, ← compare_scale _ _ (min k l), signed_shift _ _ _ _ (Nat.min_le_left k l), signed_shift _ _ _ _ (Nat.min_le_right k l)]

theorem order_nan (hf : f.binade ≤ f.infRung) {x y : Nat} (h : NaN f x ∨ NaN f y) : f.order x y = none := by
  unfold Format.order
  rcases h with h | h
  · rw [read_nan f hf h]; rfl
  · rw [read_nan f hf h]
    cases f.read x <;> rfl

theorem not_nan {w : Nat} (h : ¬ NaN f w) : Fin f w ∨ rung f w = f.infRung := by
  unfold NaN at h; unfold Fin; omega

theorem order_num (hf : f.binade ≤ f.infRung) {x y : Nat} (hx : ¬ NaN f x) (hy : ¬ NaN f y) : f.order x y = some (compare (Z f x) (Z f y)) := by
  have hU : 0 < U f f.infRung := by
    have := U_lt f (r := 0) (s := f.infRung) (by have := binade_pos f; omega)
    omega
  rcases not_nan f hx with h1 | h1 <;> rcases not_nan f hy with h2 | h2
  · exact order_fin f h1 h2
  · unfold Format.order
    have hz := Z_fin f h1
    obtain ⟨m, k, e1, _⟩ := read_fin f h1
    rw [e1, read_inf f hf h2]
    simp only [Datum.order]
    have e : Z f y = sg (neg f y) (U f f.infRung) := by unfold Z; rw [h2]
    rw [e]
    cases neg f y
    · simp only [sg]
      rw [Int.compare_eq_lt.2 (by simp; omega)]; rfl
    · simp only [sg]
      rw [Int.compare_eq_gt.2 (by simp; omega)]; rfl
  · unfold Format.order
    have hz := Z_fin f h2
    obtain ⟨m, k, e1, _⟩ := read_fin f h2
    rw [e1, read_inf f hf h1]
    simp only [Datum.order]
    have e : Z f x = sg (neg f x) (U f f.infRung) := by unfold Z; rw [h1]
    rw [e]
    cases neg f x
    · simp only [sg]
      rw [Int.compare_eq_gt.2 (by simp; omega)]; rfl
    · simp only [sg]
      rw [Int.compare_eq_lt.2 (by simp; omega)]; rfl
  · unfold Format.order
    rw [read_inf f hf h1, read_inf f hf h2]
    simp only [Datum.order]
    have e : Z f x = sg (neg f x) (U f f.infRung) := by unfold Z; rw [h1]
    have e' : Z f y = sg (neg f y) (U f f.infRung) := by unfold Z; rw [h2]
    rw [e, e']
    cases neg f x <;> cases neg f y <;> simp only [sg] <;> congr 1
    · simp
    · rw [Int.compare_eq_gt.2 (by simp; omega)]; decide
    · rw [Int.compare_eq_lt.2 (by simp; omega)]; decide
    · simp

/-! ### sums and products -/
theorem nearest_units (s : Bool) (m k d : Nat) (place : Int) (h : place = f.leastPlace + k - d) :
    f.nearest s m place = f.word s (G f (m * 2 ^ k) d) := nearest_eq f s m place k d h

def sumNeg (x y : Nat) : Bool := if Z f x + Z f y = 0 then neg f x && neg f y else decide (Z f x + Z f y < 0)

theorem sg_natAbs (z : Int) : z = sg (decide (z < 0)) z.natAbs := by
  unfold sg; split <;> rename_i h <;> simp at h <;> omega

theorem sum_fin {s t : Bool} {m n k l : Nat} :
    (Datum.sum (.number s m (f.leastPlace + (k : Nat))) (.number t n (f.leastPlace + (l : Nat)))).map f.write =
      some (f.word (if sg s (m * 2 ^ k) + sg t (n * 2 ^ l) = 0 then s && t else decide (sg s (m * 2 ^ k) + sg t (n * 2 ^ l) < 0)) (G f (sg s (m * 2 ^ k) + sg t (n * 2 ^ l)).natAbs 0)) := by
  simp only [Datum.sum, Option.map_some, Format.write]
  have a1 : (f.leastPlace + (k : Int) - min (f.leastPlace + (k : Int)) (f.leastPlace + (l : Int))).toNat = k - min k l := by omega
  have a2 : (f.leastPlace + (l : Int) - min (f.leastPlace + (k : Int)) (f.leastPlace + (l : Int))).toNat = l - min k l := by omega
  rw [a1, a2]
  have b1 := signed_shift s m k (min k l) (Nat.min_le_left k l)
  have b2 := signed_shift t n l (min k l) (Nat.min_le_right k l)
  rw [← b1, ← b2, ← Int.add_mul]
  generalize signed s m (k - min k l) + signed t n (l - min k l) = T
  have hp : (0 : Int) < 2 ^ (min k l) := Int.pow_pos (by decide)
  have c0 : (T * (2 : Int) ^ (min k l) = 0) ↔ (T = 0) := by
    constructor
    · intro h; rcases Int.mul_eq_zero.1 h with h | h
      · exact h
      · omega
    · intro h; rw [h, Int.zero_mul]
  have c1 : (T * (2 : Int) ^ (min k l) < 0) ↔ (T < 0) := by
    constructor
    · intro h
      apply Int.lt_of_not_ge
      intro h'
      have := Int.mul_nonneg h' (Int.le_of_lt hp)
      omega
    · intro h; exact Int.mul_neg_of_neg_of_pos h hp
  have c2 : (T * (2 : Int) ^ (min k l)).natAbs = T.natAbs * 2 ^ (min k l) := by
    rw [Int.natAbs_mul, Int.natAbs_pow]; rfl
  simp only [c0, c1, c2]
  rw [nearest_eq f _ _ _ (min k l) 0 (by omega)]

theorem add_fin {x y : Nat} (hx : Fin f x) (hy : Fin f y) : f.add x y = some (f.word (sumNeg f x y) (G f (Z f x + Z f y).natAbs 0)) := by
  obtain ⟨m, k, e1, u1⟩ := read_fin f hx
  obtain ⟨n, l, e2, u2⟩ := read_fin f hy
  unfold Format.add
  rw [e1, e2, sum_fin, u1, u2]
  rfl

def difNeg (x y : Nat) : Bool := if Z f x - Z f y = 0 then neg f x && !neg f y else decide (Z f x - Z f y < 0)

theorem sub_fin {x y : Nat} (hx : Fin f x) (hy : Fin f y) : f.sub x y = some (f.word (difNeg f x y) (G f (Z f x - Z f y).natAbs 0)) := by
  obtain ⟨m, k, e1, u1⟩ := read_fin f hx
  obtain ⟨n, l, e2, u2⟩ := read_fin f hy
  unfold Format.sub
  rw [e1, e2]
  simp only [Datum.opposite]
  rw [sum_fin, u1, u2]
  have : sg (!neg f y) (U f (rung f y)) = - Z f y := by unfold Z sg; cases neg f y <;> simp
  rw [this]
  rfl

theorem mul_fin {x y : Nat} {D : Nat} (hD : f.leastPlace = -(D : Int)) (hx : Fin f x) (hy : Fin f y) : f.mul x y = some (f.word (neg f x ^^ neg f y) (G f (Z f x * Z f y).natAbs D)) := by
  obtain ⟨m, k, e1, u1⟩ := read_fin f hx
  obtain ⟨n, l, e2, u2⟩ := read_fin f hy
  unfold Format.mul
  rw [e1, e2]
  simp only [Datum.product, Option.map_some, Format.write]
  have : (Z f x * Z f y).natAbs = m * n * 2 ^ (k + l) := by
    rw [Int.natAbs_mul]
    have a : (Z f x).natAbs = m * 2 ^ k := by rw [u1]; unfold Z sg; split <;> simp
    have b : (Z f y).natAbs = n * 2 ^ l := by rw [u2]; unfold Z sg; split <;> simp
    rw [a, b, Nat.pow_add]
    ac_rfl
  rw [this, nearest_eq f _ _ _ (k + l) D (by omega)]

end
end Flt
