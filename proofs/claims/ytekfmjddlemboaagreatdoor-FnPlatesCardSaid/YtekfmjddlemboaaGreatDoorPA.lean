/- Parts of a proof, merged; each under its own premises. -/
import Ieee.Arith
import Derived.WalkKit
import Derived.WalkLawsBesides
import Derived.Test.YtekfmjddlemboaaGreatDoorRows
import Derived.Outline
import Derived.Lib.Hide
import Derived.Deep.QuietTactic
import Derived.BigQuiet

/-! Rounding to a binary format is proved to be monotone, exact at the numbers of the format, and near; no condition. -/
namespace Flt
open Ieee

/-- n / 2^k, to the nearest, ties to even. -/
def rne (n k : Nat) : Nat := n / 2 ^ k + (if 2 ^ k < 2 * (n % 2 ^ k) ∨ (2 ^ k = 2 * (n % 2 ^ k) ∧ n / 2 ^ k % 2 = 1) then 1 else 0)

theorem rne_zero (k : Nat) : rne 0 k = 0 := by
  simp [rne]

theorem rne_bounds (n k : Nat) : 2 * (rne n k * 2 ^ k) ≤ 2 * n + 2 ^ k ∧ 2 * n ≤ 2 * (rne n k * 2 ^ k) + 2 ^ k := by
  have h : 0 < 2 ^ k := Nat.two_pow_pos k
  have e := Nat.div_add_mod n (2 ^ k)
  have l := Nat.mod_lt n h
  unfold rne
  generalize 2 ^ k = g at *
  generalize n / g = q at *
  generalize n % g = r at *
  rw [Nat.mul_comm] at e
  split
  · rw [Nat.add_mul, Nat.one_mul]; omega
  · rw [Nat.add_mul, Nat.zero_mul]; omega

theorem rne_mono {n m : Nat} (k : Nat) (h : n ≤ m) : rne n k ≤ rne m k := by
  have hg : 0 < 2 ^ k := Nat.two_pow_pos k
  have e1 := Nat.div_add_mod n (2 ^ k)
  have e2 := Nat.div_add_mod m (2 ^ k)
  have l1 := Nat.mod_lt n hg
  have l2 := Nat.mod_lt m hg
  have hq := Nat.div_le_div_right (c := 2 ^ k) h
  unfold rne
  generalize 2 ^ k = g at *
  by_cases hlt : n / g < m / g
  · split <;> split <;> omega
  · have he : n / g = m / g := by omega
    rw [he] at e1 ⊢
    generalize g * (m / g) = x at *
    split <;> split <;> omega

theorem rne_scale (n k j : Nat) : rne (n * 2 ^ j) (k + j) = rne n k := by
  have hj : 0 < 2 ^ j := Nat.two_pow_pos j
  unfold rne
  rw [Nat.pow_add, Nat.mul_div_mul_right _ _ hj, Nat.mul_mod_mul_right]
  have a : (2 ^ k * 2 ^ j < 2 * (n % 2 ^ k * 2 ^ j)) ↔ (2 ^ k < 2 * (n % 2 ^ k)) := by
    rw [← Nat.mul_assoc]; exact Nat.mul_lt_mul_right hj
  have b : (2 ^ k * 2 ^ j = 2 * (n % 2 ^ k * 2 ^ j)) ↔ (2 ^ k = 2 * (n % 2 ^ k)) := by
    rw [← Nat.mul_assoc]; exact ⟨fun h => Nat.eq_of_mul_eq_mul_right hj h, fun h => congrArg (· * 2 ^ j) h⟩
  simp only [a, b]

theorem rne_exact (q k : Nat) : rne (q * 2 ^ k) k = q := by
  have h : 0 < 2 ^ k := Nat.two_pow_pos k
  unfold rne
  rw [Nat.mul_div_cancel _ h, Nat.mul_mod_left]
  simp

/-- A great divisor leaves nothing. -/
theorem rne_small (n k : Nat) (h : 2 * n < 2 ^ k) : rne n k = 0 := by
  unfold rne
  rw [Nat.div_eq_of_lt (by omega), Nat.mod_eq_of_lt (by omega)]
  simp; omega

theorem cut_even (neg : Bool) (n k : Nat) : Toward.even.cut neg n k = rne n k := by
  unfold Toward.cut
  have key : ∀ g j, g = 2 ^ j → (n / g + (decide (g < 2 * (n % g)) || (g == 2 * (n % g) && n / g % 2 == 1)).toNat) = rne n j := by
    rintro g j rfl
    unfold rne
    congr 1
    generalize 2 ^ j = g
    generalize n / g = q
    generalize n % g = r
    by_cases h1 : g < 2 * r
    · simp [h1]
    · by_cases h2 : g = 2 * r
      · by_cases h3 : q % 2 = 1
        · rw [if_pos (Or.inr ⟨h2, h3⟩)]; simp [← h2, h3]
        · rw [if_neg (by simp [h1, h3])]; simp [← h2, h3]
      · rw [if_neg (by simp [h1, h2])]; simp [h1, h2]
  have hs : 1 <<< min k (n.log2 + 2) = 2 ^ min k (n.log2 + 2) := by simp [Nat.shiftLeft_eq]
  have := key _ _ hs
  by_cases hk : k ≤ n.log2 + 2
  · rw [Nat.min_eq_left hk] at this ⊢
    exact this
  · rw [Nat.min_eq_right (by omega)] at this ⊢
    refine Eq.trans this ?_
    have hn : n < 2 ^ (n.log2 + 1) := Nat.lt_log2_self
    have h2 : 2 * n < 2 ^ (n.log2 + 2) := by rw [Nat.pow_succ]; omega
    have h3 : 2 ^ (n.log2 + 2) ≤ 2 ^ k := Nat.pow_le_pow_right (by omega) (by omega)
    rw [rne_small _ _ h2, rne_small _ _ (by omega)]

section
variable (f : Format)

/-- The units (multiples of the least number) of a rung. -/
def U (r : Nat) : Nat := if r < f.binade then r else (f.binade + r % f.binade) * 2 ^ (r / f.binade - 1)

theorem binade_pos : 0 < f.binade := Nat.two_pow_pos _

theorem U_small {r : Nat} (h : r ≤ 2 * f.binade) : U f r = r := by
  have hb := binade_pos f
  unfold U
  split
  · rfl
  · rename_i h1
    by_cases h2 : r = 2 * f.binade
    · subst h2
      have : 2 * f.binade / f.binade = 2 := Nat.mul_div_cancel _ hb
      rw [this, Nat.mul_mod_left]; omega
    · have h3 : r / f.binade = 1 := by
        have : r / f.binade < 2 := (Nat.div_lt_iff_lt_mul hb).2 (by omega)
        have : 1 ≤ r / f.binade := (Nat.le_div_iff_mul_le hb).2 (by omega)
        omega
      have h4 := Nat.div_add_mod r f.binade
      rw [h3] at h4 ⊢
      simp; omega

theorem U_split {e q : Nat} (h : (e = 0 ∨ f.binade ≤ q)) (hq : q ≤ 2 * f.binade) : U f (e * f.binade + q) = q * 2 ^ e := by
  have hb := binade_pos f
  rcases Nat.eq_zero_or_pos e with rfl | he
  · simp [U_small f hq]
  · have hq0 : f.binade ≤ q := by omega
    unfold U
    have h1 : ¬ (e * f.binade + q < f.binade) := by
      have := Nat.mul_le_mul_right f.binade he
      omega
    rw [if_neg h1]
    by_cases h2 : q = 2 * f.binade
    · subst h2
      rw [← Nat.add_mul, Nat.mul_div_cancel _ hb, Nat.mul_mod_left]
      have : e + 2 - 1 = e + 1 := by omega
      rw [this, Nat.pow_succ, Nat.add_zero, ← Nat.mul_assoc, Nat.mul_comm 2, Nat.mul_assoc, Nat.mul_assoc, Nat.mul_comm 2]
    · have h3 : q / f.binade = 1 := by
        have : q / f.binade < 2 := (Nat.div_lt_iff_lt_mul hb).2 (by omega)
        have : 1 ≤ q / f.binade := (Nat.le_div_iff_mul_le hb).2 (by omega)
        omega
      have h4 := Nat.div_add_mod q f.binade
      rw [h3] at h4
      rw [Nat.add_comm (e * f.binade) q, Nat.add_mul_mod_self_right, Nat.add_mul_div_right _ _ hb, h3]
      have : 1 + e - 1 = e := by omega
      rw [this]
      congr 1; omega

/-- Every rung is a binade's number and a significand. -/
theorem rung_split (r : Nat) : ∃ e q, r = e * f.binade + q ∧ (e = 0 ∨ f.binade ≤ q) ∧ q < 2 * f.binade := by
  have hb := binade_pos f
  by_cases h : r < f.binade
  · exact ⟨0, r, by omega, Or.inl rfl, by omega⟩
  · have h4 := Nat.div_add_mod r f.binade
    have h5 := Nat.mod_lt r hb
    have h6 : 1 ≤ r / f.binade := (Nat.le_div_iff_mul_le hb).2 (by omega)
    refine ⟨r / f.binade - 1, f.binade + r % f.binade, ?_, Or.inr (by omega), by omega⟩
    have : (r / f.binade - 1) * f.binade + f.binade = r / f.binade * f.binade := by
      have : r / f.binade = r / f.binade - 1 + 1 := by omega
      rw [this, Nat.add_mul, Nat.one_mul, Nat.add_sub_cancel]
    rw [Nat.mul_comm] at h4
    omega

theorem binade_eq : f.binade = 2 ^ f.fractionBits := rfl

/-- The word that a rounded number gets: the number is n / 2^d units. -/
def ex (n d : Nat) : Nat := n.log2 - (d + f.fractionBits)
def G0 (n d : Nat) : Nat := ex f n d * f.binade + rne n (d + ex f n d)
def G (n d : Nat) : Nat := min (G0 f n d) f.infRung

theorem ex_lt {n d : Nat} : n < 2 ^ (d + f.fractionBits + ex f n d + 1) := by
  have h : n < 2 ^ (n.log2 + 1) := Nat.lt_log2_self
  refine Nat.lt_of_lt_of_le h (Nat.pow_le_pow_right (by omega) ?_)
  unfold ex; omega

theorem ex_ge {n d : Nat} (h : ex f n d ≠ 0) : 2 ^ (d + f.fractionBits + ex f n d) ≤ n := by
  have hn : n ≠ 0 := by
    rintro rfl
    exact h (by simp [ex])
  have h2 := Nat.log2_self_le hn
  refine Nat.le_trans (Nat.pow_le_pow_right (by omega) ?_) h2
  unfold ex at *; omega

theorem rne_le_two (n d : Nat) : rne n (d + ex f n d) ≤ 2 * f.binade := by
  have h := (rne_mono (d + ex f n d) (Nat.le_of_lt (ex_lt f (n := n) (d := d))))
  refine Nat.le_trans h (Nat.le_of_eq ?_)
  have : d + f.fractionBits + ex f n d + 1 = (f.fractionBits + 1) + (d + ex f n d) := by omega
  rw [this, Nat.pow_add, rne_exact, Nat.pow_succ, binade_eq]; omega

theorem rne_ge_one (n d : Nat) (h : ex f n d ≠ 0) : f.binade ≤ rne n (d + ex f n d) := by
  have h := (rne_mono (d + ex f n d) (ex_ge f h))
  refine Nat.le_trans (Nat.le_of_eq ?_) h
  have : d + f.fractionBits + ex f n d = f.fractionBits + (d + ex f n d) := by omega
  rw [this, Nat.pow_add, rne_exact, binade_eq]

/-- What a rounded number is, in units. -/
theorem U_G0 (n d : Nat) : U f (G0 f n d) = rne n (d + ex f n d) * 2 ^ ex f n d := by
  refine U_split f ?_ (rne_le_two f n d)
  by_cases h : ex f n d = 0
  · exact Or.inl h
  · exact Or.inr (rne_ge_one f n d h)

theorem log2_mono {n m : Nat} (h : n ≤ m) : n.log2 ≤ m.log2 := by
  rcases Nat.eq_zero_or_pos n with rfl | hn
  · simp
  · exact (Nat.le_log2 (by omega)).2 (Nat.le_trans (Nat.log2_self_le (by omega)) h)

theorem ex_mono {n m : Nat} (d : Nat) (h : n ≤ m) : ex f n d ≤ ex f m d := by
  have := log2_mono h
  unfold ex; omega

theorem G0_mono {n m : Nat} (d : Nat) (h : n ≤ m) : G0 f n d ≤ G0 f m d := by
  have he := ex_mono f d h
  by_cases heq : ex f n d = ex f m d
  · unfold G0; rw [heq]
    exact Nat.add_le_add_left (rne_mono _ h) _
  · have h1 := rne_le_two f n d
    have h2 := rne_ge_one f m d (by omega)
    have h3 : (ex f n d + 1) * f.binade ≤ ex f m d * f.binade := Nat.mul_le_mul_right _ (by omega)
    rw [Nat.add_mul] at h3
    unfold G0; omega

theorem log2_scale (n j : Nat) (h : n ≠ 0) : (n * 2 ^ j).log2 = n.log2 + j := by
  have hj : 0 < 2 ^ j := Nat.two_pow_pos j
  refine (Nat.log2_eq_iff (Nat.mul_ne_zero h (by omega))).2 ⟨?_, ?_⟩
  · rw [Nat.pow_add]; exact Nat.mul_le_mul_right _ (Nat.log2_self_le h)
  · have : n.log2 + j + 1 = (n.log2 + 1) + j := by omega
    rw [this, Nat.pow_add]; exact Nat.mul_lt_mul_of_pos_right Nat.lt_log2_self hj

theorem ex_scale (n d j : Nat) : ex f (n * 2 ^ j) (d + j) = ex f n d := by
  by_cases h : n = 0
  · subst h; simp [ex]
  · unfold ex; rw [log2_scale n j h]; omega

theorem G0_scale (n d j : Nat) : G0 f (n * 2 ^ j) (d + j) = G0 f n d := by
  unfold G0
  rw [ex_scale]
  have : d + j + ex f n d = (d + ex f n d) + j := by omega
  rw [this, rne_scale]

theorem G_scale (n d j : Nat) : G f (n * 2 ^ j) (d + j) = G f n d := by unfold G; rw [G0_scale]

theorem G0_le {n m d c : Nat} (h : n * 2 ^ c ≤ m * 2 ^ d) : G0 f n d ≤ G0 f m c := by
  rw [← G0_scale f n d c, ← G0_scale f m c d, Nat.add_comm c d]
  exact G0_mono f _ h

theorem G_le {n m d c : Nat} (h : n * 2 ^ c ≤ m * 2 ^ d) : G f n d ≤ G f m c := by
  have := G0_le f h
  unfold G; omega

theorem G0_exact (r : Nat) : G0 f (U f r) 0 = r := by
  obtain ⟨e, q, rfl, h1, h2⟩ := rung_split f r
  have hb := binade_pos f
  rw [U_split f h1 (by omega)]
  have hx : ex f (q * 2 ^ e) 0 = e := by
    by_cases hq : q = 0
    · subst hq
      have : e = 0 := by omega
      subst this; simp [ex]
    · unfold ex
      rw [log2_scale q e hq]
      have hl : q.log2 < f.fractionBits + 1 := (Nat.log2_lt hq).2 (by rw [Nat.pow_succ, ← binade_eq]; omega)
      rcases h1 with rfl | h1
      · omega
      · have : f.fractionBits ≤ q.log2 := (Nat.le_log2 hq).2 (by rw [← binade_eq]; exact h1)
        omega
  unfold G0
  rw [hx, Nat.zero_add, rne_exact]

theorem G_exact (r : Nat) (h : r ≤ f.infRung) : G f (U f r) 0 = r := by
  unfold G; rw [G0_exact]; omega

theorem G_exact' (r d : Nat) (h : r ≤ f.infRung) : G f (U f r * 2 ^ d) d = r := by
  have := G_scale f (U f r) 0 d
  rw [Nat.zero_add] at this
  rw [this, G_exact f r h]

theorem U_mono {r s : Nat} (h : U f r ≤ U f s) : r ≤ s := by
  rw [← G0_exact f r, ← G0_exact f s]
  exact G0_mono f 0 h

theorem U_lt {r s : Nat} (h : r < s) : U f r < U f s := by
  apply Nat.lt_of_not_le
  intro h'
  have := U_mono f h'
  omega

theorem U_le {r s : Nat} (h : r ≤ s) : U f r ≤ U f s := by
  rcases Nat.lt_or_eq_of_le h with h | rfl
  · exact Nat.le_of_lt (U_lt f h)
  · exact Nat.le_refl _

theorem U_zero : U f 0 = 0 := by simp [U, binade_pos f]

/-- Rounding up is never past a rung that is above. -/
theorem G_le_rung {n d r : Nat} (h : n ≤ U f r * 2 ^ d) (hr : r ≤ f.infRung) : G f n d ≤ r := by
  have := G_le f (n := n) (m := U f r) (d := d) (c := 0) (by simpa using h)
  rwa [G_exact f r hr] at this

theorem rung_le_G {n d r : Nat} (h : U f r * 2 ^ d ≤ n) (hr : r ≤ f.infRung) : r ≤ G f n d := by
  have := G_le f (n := U f r) (m := n) (d := 0) (c := d) (by simpa using h)
  rwa [G_exact f r hr] at this

/-- The error of a rounding, where nothing overflows. -/
theorem U_G0_err (n d : Nat) : 2 * (U f (G0 f n d) * 2 ^ d) ≤ 2 * n + 2 ^ (d + ex f n d) ∧ 2 * n ≤ 2 * (U f (G0 f n d) * 2 ^ d) + 2 ^ (d + ex f n d) := by
  have h := rne_bounds n (d + ex f n d)
  rw [U_G0]
  have : rne n (d + ex f n d) * 2 ^ ex f n d * 2 ^ d = rne n (d + ex f n d) * 2 ^ (d + ex f n d) := by
    rw [Nat.mul_assoc, Nat.pow_add, Nat.mul_comm (2 ^ d)]
  rw [this]; exact h

theorem ex_le {n d t : Nat} (h : n < 2 ^ (d + f.fractionBits + t + 1)) : ex f n d ≤ t := by
  by_cases hn : n = 0
  · subst hn; simp [ex]
  · have := (Nat.log2_lt hn).2 h
    unfold ex; omega

theorem nearest_eq (neg : Bool) (mag : Nat) (place : Int) (k d : Nat) (h : place = f.leastPlace + k - d) :
    f.nearest neg mag place = f.word neg (G f (mag * 2 ^ k) d) := by
  unfold Format.nearest
  split
  · rename_i h0
    subst h0
    have : G f (0 * 2 ^ k) d = 0 := by
      have : G0 f 0 d = 0 := by simp [G0, ex, rne_zero]
      simp [G, this]
    rw [this]
  · rename_i h0
    dsimp only
    rw [cut_even]
    congr 1
    unfold G
    congr 1
    -- bring both to one denominator
    have hl := log2_scale mag k h0
    -- the exponent
    have hex : (max (place + mag.log2 - f.fractionBits) f.leastPlace - f.leastPlace).toNat = ex f (mag * 2 ^ k) d := by
      unfold ex; rw [hl]; omega
    unfold G0
    rw [hex]
    congr 1
    have hlast : max (place + mag.log2 - f.fractionBits) f.leastPlace = f.leastPlace + ex f (mag * 2 ^ k) d := by
      unfold ex; rw [hl]; omega
    rw [hlast]
    generalize hE : ex f (mag * 2 ^ k) d = E
    rw [Nat.shiftLeft_eq]
    -- place - last = k - d - E
    have e1 : (place - (f.leastPlace + (E : Int))).toNat = k - (d + E) := by omega
    have e2 : ((f.leastPlace + (E : Int)) - place).toNat = (d + E) - k := by omega
    rw [e1, e2]
    rcases Nat.le_total k (d + E) with hk | hk
    · have : k - (d + E) = 0 := by omega
      rw [this, Nat.pow_zero, Nat.mul_one]
      have := rne_scale mag (d + E - k) k
      rw [Nat.sub_add_cancel hk] at this
      exact this.symm
    · have : d + E - k = 0 := by omega
      rw [this]
      have := rne_scale (mag * 2 ^ (k - (d + E))) 0 (d + E)
      rw [Nat.mul_assoc, ← Nat.pow_add, Nat.sub_add_cancel hk, Nat.zero_add] at this
      exact this.symm
end
end Flt

/-! Sums, differences and products of finite numbers, and how two numbers stand to each other, are proved to be what integers of units say; the operands are finite. -/
namespace Flt
open Ieee
section
variable (f : Format)

def rung (w : Nat) : Nat := w % f.signWeight
def neg (w : Nat) : Bool := w / f.signWeight % 2 == 1
/-- a finite number -/
def Fin (w : Nat) : Prop := rung f w < f.infRung
def NaN (w : Nat) : Prop := f.infRung < rung f w
instance (w : Nat) : Decidable (Fin f w) := by unfold Fin; infer_instance
instance (w : Nat) : Decidable (NaN f w) := by unfold NaN; infer_instance
/-- The number with its sign, in units; an infinity counts as the next rung. -/
def sg (n : Bool) (u : Nat) : Int := if n then -(u : Int) else u
def Z (w : Nat) : Int := sg (neg f w) (U f (rung f w))
/-- The rounded number. -/
def RZ (z : Int) (d : Nat) : Int := sg (decide (z < 0)) (U f (G f z.natAbs d))

theorem infRung_lt' : f.infRung < f.signWeight := by
  have h : 0 < 2 ^ f.exponentBits := Nat.two_pow_pos _
  have hb := binade_pos f
  have : f.infRung + f.binade = f.signWeight := by
    unfold Format.infRung Format.signWeight
    rw [Nat.pow_add, ← Nat.succ_mul]
    exact congrArg (· * f.binade) (by omega)
  omega

theorem sw_pos : 0 < f.signWeight := Nat.two_pow_pos _

theorem rung_word (n : Bool) {r : Nat} (h : r < f.signWeight) : rung f (f.word n r) = r := by
  unfold rung Format.word
  cases n
  · simp [Nat.mod_eq_of_lt h]
  · simp [Nat.mod_eq_of_lt h]
theorem neg_word (n : Bool) {r : Nat} (h : r < f.signWeight) : neg f (f.word n r) = n := by
  unfold neg Format.word
  cases n
  · simp [Nat.div_eq_of_lt h]
  · have : (f.signWeight + r) / f.signWeight = 1 := by
      rw [Nat.add_div_left _ (sw_pos f), Nat.div_eq_of_lt h]
    simp [this]
theorem Z_word (n : Bool) {r : Nat} (h : r < f.signWeight) : Z f (f.word n r) = sg n (U f r) := by
  unfold Z; rw [rung_word f n h, neg_word f n h]
theorem word_rung (w : Nat) (h : w < 2 * f.signWeight) : f.word (neg f w) (rung f w) = w := by
  have hs := sw_pos f
  have h1 := Nat.div_add_mod w f.signWeight
  have h2 : w / f.signWeight < 2 := (Nat.div_lt_iff_lt_mul hs).2 (by omega)
  unfold Format.word neg rung
  generalize w / f.signWeight = q at *
  generalize w % f.signWeight = t at *
  by_cases h0 : q = 0
  · subst h0; simp at h1 ⊢; exact h1
  · have : q = 1 := by omega
    subst this; simp at h1 ⊢; exact h1

theorem G_lt (n d : Nat) : G f n d < f.signWeight := by
  have := infRung_lt' f
  unfold G; omega

theorem read_fin {w : Nat} (h : Fin f w) : ∃ m k, f.read w = .number (neg f w) m (f.leastPlace + (k : Nat)) ∧ m * 2 ^ k = U f (rung f w) := by
  unfold Fin rung at h
  unfold Format.read rung neg
  dsimp only
  by_cases h1 : w % f.signWeight < f.binade
  · rw [if_pos h1]
    exact ⟨w % f.signWeight, 0, by simp, by simp [U, h1]⟩
  · rw [if_neg h1, if_pos h]
    exact ⟨_, _, rfl, by simp [U, h1]⟩
theorem read_inf (hf : f.binade ≤ f.infRung) {w : Nat} (h : rung f w = f.infRung) : f.read w = .infinity (neg f w) := by
  unfold rung at h
  unfold Format.read neg
  dsimp only
  rw [if_neg (by omega), if_neg (by omega), if_pos h]
theorem read_nan (hf : f.binade ≤ f.infRung) {w : Nat} (h : NaN f w) : f.read w = .nan (neg f w) (rung f w - f.infRung) := by
  unfold NaN at h
  unfold rung at *
  unfold Format.read neg
  dsimp only
  rw [if_neg (by omega), if_neg (by omega), if_neg (by omega)]

theorem signed_shift (s : Bool) (m k j : Nat) (h : j ≤ k) : signed s m (k - j) * (2 : Int) ^ j = sg s (m * 2 ^ k) := by
  have : m * 2 ^ (k - j) * 2 ^ j = m * 2 ^ k := by rw [Nat.mul_assoc, ← Nat.pow_add, Nat.sub_add_cancel h]
  unfold signed sg
  rw [Nat.shiftLeft_eq]
  split
  · rw [Int.neg_mul, ← this]; simp [Int.natCast_mul, Int.natCast_pow]
  · rw [← this]; simp [Int.natCast_mul, Int.natCast_pow]

theorem compare_scale (a b : Int) (j : Nat) : compare (a * (2 : Int) ^ j) (b * (2 : Int) ^ j) = compare a b := by
  have hp : (0 : Int) < 2 ^ j := Int.pow_pos (by decide)
  rcases Int.lt_trichotomy a b with h | h | h
  · have := Int.mul_lt_mul_of_pos_right h hp
    rw [show compare a b = .lt from Int.compare_eq_lt.2 h, show compare (a * 2 ^ j) (b * 2 ^ j) = .lt from Int.compare_eq_lt.2 this]
  · subst h; simp
  · have := Int.mul_lt_mul_of_pos_right h hp
    rw [show compare a b = .gt from Int.compare_eq_gt.2 h, show compare (a * 2 ^ j) (b * 2 ^ j) = .gt from Int.compare_eq_gt.2 this]

theorem U_inf_gt {w : Nat} (h : Fin f w) : U f (rung f w) < U f f.infRung := U_lt f h

theorem Z_fin {w : Nat} (h : Fin f w) : -(U f f.infRung : Int) < Z f w ∧ Z f w < U f f.infRung := by
  have := U_inf_gt f h
  unfold Z sg; split <;> omega

theorem order_fin {x y : Nat} (hx : Fin f x) (hy : Fin f y) : f.order x y = some (compare (Z f x) (Z f y)) := by
  obtain ⟨m, k, e1, u1⟩ := read_fin f hx
  obtain ⟨n, l, e2, u2⟩ := read_fin f hy
  unfold Format.order
  rw [e1, e2]
  simp only [Datum.order]
  congr 1
  unfold Z
  rw [← u1, ← u2]
  have a1 : (f.leastPlace + (k : Int) - min (f.leastPlace + (k : Int)) (f.leastPlace + (l : Int))).toNat = k - min k l := by omega
  have a2 : (f.leastPlace + (l : Int) - min (f.leastPlace + (k : Int)) (f.leastPlace + (l : Int))).toNat = l - min k l := by omega
  rw [a1, a2, ← compare_scale _ _ (min k l), signed_shift _ _ _ _ (Nat.min_le_left k l), signed_shift _ _ _ _ (Nat.min_le_right k l)]

theorem order_nan (hf : f.binade ≤ f.infRung) {x y : Nat} (h : NaN f x ∨ NaN f y) : f.order x y = none := by
  unfold Format.order
  rcases h with h | h
  · rw [read_nan f hf h]; rfl
  · rw [read_nan f hf h]
    cases f.read x <;> rfl

theorem not_nan {w : Nat} (h : ¬ NaN f w) : Fin f w ∨ rung f w = f.infRung := by
  unfold NaN at h; unfold Fin; omega

theorem order_num (hf : f.binade ≤ f.infRung) {x y : Nat} (hx : ¬ NaN f x) (hy : ¬ NaN f y) : f.order x y = some (compare (Z f x) (Z f y)) := by
  have hU : 0 < U f f.infRung := by
    have := U_lt f (r := 0) (s := f.infRung) (by have := binade_pos f; omega)
    omega
  rcases not_nan f hx with h1 | h1 <;> rcases not_nan f hy with h2 | h2
  · exact order_fin f h1 h2
  · unfold Format.order
    have hz := Z_fin f h1
    obtain ⟨m, k, e1, _⟩ := read_fin f h1
    rw [e1, read_inf f hf h2]
    simp only [Datum.order]
    have e : Z f y = sg (neg f y) (U f f.infRung) := by unfold Z; rw [h2]
    rw [e]
    cases neg f y
    · simp only [sg]
      rw [Int.compare_eq_lt.2 (by simp; omega)]; rfl
    · simp only [sg]
      rw [Int.compare_eq_gt.2 (by simp; omega)]; rfl
  · unfold Format.order
    have hz := Z_fin f h2
    obtain ⟨m, k, e1, _⟩ := read_fin f h2
    rw [e1, read_inf f hf h1]
    simp only [Datum.order]
    have e : Z f x = sg (neg f x) (U f f.infRung) := by unfold Z; rw [h1]
    rw [e]
    cases neg f x
    · simp only [sg]
      rw [Int.compare_eq_gt.2 (by simp; omega)]; rfl
    · simp only [sg]
      rw [Int.compare_eq_lt.2 (by simp; omega)]; rfl
  · unfold Format.order
    rw [read_inf f hf h1, read_inf f hf h2]
    simp only [Datum.order]
    have e : Z f x = sg (neg f x) (U f f.infRung) := by unfold Z; rw [h1]
    have e' : Z f y = sg (neg f y) (U f f.infRung) := by unfold Z; rw [h2]
    rw [e, e']
    cases neg f x <;> cases neg f y <;> simp only [sg] <;> congr 1
    · simp
    · rw [Int.compare_eq_gt.2 (by simp; omega)]; decide
    · rw [Int.compare_eq_lt.2 (by simp; omega)]; decide
    · simp

/-! ### sums and products -/
def sumNeg (x y : Nat) : Bool := if Z f x + Z f y = 0 then neg f x && neg f y else decide (Z f x + Z f y < 0)

theorem sum_fin {s t : Bool} {m n k l : Nat} :
    (Datum.sum (.number s m (f.leastPlace + (k : Nat))) (.number t n (f.leastPlace + (l : Nat)))).map f.write =
      some (f.word (if sg s (m * 2 ^ k) + sg t (n * 2 ^ l) = 0 then s && t else decide (sg s (m * 2 ^ k) + sg t (n * 2 ^ l) < 0)) (G f (sg s (m * 2 ^ k) + sg t (n * 2 ^ l)).natAbs 0)) := by
  simp only [Datum.sum, Option.map_some, Format.write]
  have a1 : (f.leastPlace + (k : Int) - min (f.leastPlace + (k : Int)) (f.leastPlace + (l : Int))).toNat = k - min k l := by omega
  have a2 : (f.leastPlace + (l : Int) - min (f.leastPlace + (k : Int)) (f.leastPlace + (l : Int))).toNat = l - min k l := by omega
  rw [a1, a2]
  have b1 := signed_shift s m k (min k l) (Nat.min_le_left k l)
  have b2 := signed_shift t n l (min k l) (Nat.min_le_right k l)
  rw [← b1, ← b2, ← Int.add_mul]
  generalize signed s m (k - min k l) + signed t n (l - min k l) = T
  have hp : (0 : Int) < 2 ^ (min k l) := Int.pow_pos (by decide)
  have c0 : (T * (2 : Int) ^ (min k l) = 0) ↔ (T = 0) := by
    constructor
    · intro h; rcases Int.mul_eq_zero.1 h with h | h
      · exact h
      · omega
    · intro h; rw [h, Int.zero_mul]
  have c1 : (T * (2 : Int) ^ (min k l) < 0) ↔ (T < 0) := by
    constructor
    · intro h
      apply Int.lt_of_not_ge
      intro h'
      have := Int.mul_nonneg h' (Int.le_of_lt hp)
      omega
    · intro h; exact Int.mul_neg_of_neg_of_pos h hp
  have c2 : (T * (2 : Int) ^ (min k l)).natAbs = T.natAbs * 2 ^ (min k l) := by
    rw [Int.natAbs_mul, Int.natAbs_pow]; rfl
  simp only [c0, c1, c2]
  rw [nearest_eq f _ _ _ (min k l) 0 (by omega)]

theorem add_fin {x y : Nat} (hx : Fin f x) (hy : Fin f y) : f.add x y = some (f.word (sumNeg f x y) (G f (Z f x + Z f y).natAbs 0)) := by
  obtain ⟨m, k, e1, u1⟩ := read_fin f hx
  obtain ⟨n, l, e2, u2⟩ := read_fin f hy
  unfold Format.add
  rw [e1, e2, sum_fin, u1, u2]
  rfl

def difNeg (x y : Nat) : Bool := if Z f x - Z f y = 0 then neg f x && !neg f y else decide (Z f x - Z f y < 0)

theorem sub_fin {x y : Nat} (hx : Fin f x) (hy : Fin f y) : f.sub x y = some (f.word (difNeg f x y) (G f (Z f x - Z f y).natAbs 0)) := by
  obtain ⟨m, k, e1, u1⟩ := read_fin f hx
  obtain ⟨n, l, e2, u2⟩ := read_fin f hy
  unfold Format.sub
  rw [e1, e2]
  simp only [Datum.opposite]
  rw [sum_fin, u1, u2]
  have : sg (!neg f y) (U f (rung f y)) = - Z f y := by unfold Z sg; cases neg f y <;> simp
  rw [this]
  rfl

theorem mul_fin {x y : Nat} {D : Nat} (hD : f.leastPlace = -(D : Int)) (hx : Fin f x) (hy : Fin f y) : f.mul x y = some (f.word (neg f x ^^ neg f y) (G f (Z f x * Z f y).natAbs D)) := by
  obtain ⟨m, k, e1, u1⟩ := read_fin f hx
  obtain ⟨n, l, e2, u2⟩ := read_fin f hy
  unfold Format.mul
  rw [e1, e2]
  simp only [Datum.product, Option.map_some, Format.write]
  have : (Z f x * Z f y).natAbs = m * n * 2 ^ (k + l) := by
    rw [Int.natAbs_mul]
    have a : (Z f x).natAbs = m * 2 ^ k := by rw [u1]; unfold Z sg; split <;> simp
    have b : (Z f y).natAbs = n * 2 ^ l := by rw [u2]; unfold Z sg; split <;> simp
    rw [a, b, Nat.pow_add]
    ac_rfl
  rw [this, nearest_eq f _ _ _ (k + l) D (by omega)]

end
end Flt

/-! A quotient of finite numbers is proved to lie between the numbers of the format about the true quotient; the second number is not 0. -/
namespace Flt
open Ieee

theorem two_pow_dvd_or {a b : Nat} : 2 ^ a ∣ 2 ^ b ∨ 2 * 2 ^ b ≤ 2 ^ a := by
  rcases Nat.lt_or_ge b a with h | h
  · right
    have : 2 * 2 ^ b = 2 ^ (b + 1) := by rw [Nat.pow_succ]; omega
    rw [this]; exact Nat.pow_le_pow_right (by omega) h
  · left; exact Nat.pow_dvd_pow 2 h

section
variable (f : Format)

theorem div_bracket {m n k l D r : Nat} (hn : n ≠ 0) :
    let more := f.fractionBits + 2 + n.log2 - m.log2
    let dividend := m <<< more
    let mag := 2 * (dividend / n) + (dividend % n != 0).toNat
    (m * 2 ^ k * 2 ^ D ≤ U f r * (n * 2 ^ l) → mag * 2 ^ (k + D) ≤ U f r * 2 ^ (l + more + 1)) ∧
    (U f r * (n * 2 ^ l) ≤ m * 2 ^ k * 2 ^ D → U f r * 2 ^ (l + more + 1) ≤ mag * 2 ^ (k + D)) := by
  intro more dividend mag
  have hnp : 0 < n := by omega
  obtain ⟨e, q, hr, hq1, hq2⟩ := rung_split f r
  have hU : U f r = q * 2 ^ e := by rw [hr]; exact U_split f hq1 (by omega)
  have hdv : dividend = m * 2 ^ more := Nat.shiftLeft_eq _ _
  have hF := Nat.div_add_mod dividend n
  have hml := Nat.mod_lt dividend hnp
  -- S and T
  have hS0 : 0 < 2 ^ (k + D) := Nat.two_pow_pos _
  have hT0 : 0 < 2 ^ (l + more) := Nat.two_pow_pos _
  have hmp : 0 < 2 ^ more := Nat.two_pow_pos _
  have eA : m * 2 ^ k * 2 ^ D * 2 ^ more = dividend * 2 ^ (k + D) := by rw [hdv, Nat.pow_add]; ac_rfl
  have eB : U f r * (n * 2 ^ l) * 2 ^ more = U f r * 2 ^ (l + more) * n := by rw [Nat.pow_add]; ac_rfl
  have eT : 2 ^ (l + more + 1) = 2 ^ (l + more) * 2 := Nat.pow_succ _ _
  -- the quotient is great, unless m is 0
  have hbig : m ≠ 0 → 2 ^ (f.fractionBits + 1) ≤ dividend / n := by
    intro hm
    have h1 : 2 ^ (f.fractionBits + 2 + n.log2) ≤ dividend := by
      rw [hdv]
      have h2 := Nat.log2_self_le hm
      calc 2 ^ (f.fractionBits + 2 + n.log2) ≤ 2 ^ (m.log2 + more) := Nat.pow_le_pow_right (by omega) (by omega)
        _ = 2 ^ m.log2 * 2 ^ more := Nat.pow_add _ _ _
        _ ≤ m * 2 ^ more := Nat.mul_le_mul_right _ h2
    refine (Nat.le_div_iff_mul_le hnp).2 (Nat.le_trans ?_ h1)
    have h3 : n ≤ 2 ^ (n.log2 + 1) := Nat.le_of_lt Nat.lt_log2_self
    calc 2 ^ (f.fractionBits + 1) * n ≤ 2 ^ (f.fractionBits + 1) * 2 ^ (n.log2 + 1) := Nat.mul_le_mul_left _ h3
      _ = 2 ^ (f.fractionBits + 2 + n.log2) := by rw [← Nat.pow_add]; congr 1; omega
  have hmag : mag = 2 * (dividend / n) + (dividend % n != 0).toNat := rfl
  -- a rung's multiple
  have hdiv : 2 ^ (k + D) ∣ U f r * 2 ^ (l + more) ∨ (2 * (2 ^ e * 2 ^ (l + more)) ≤ 2 ^ (k + D)) := by
    rcases two_pow_dvd_or (a := k + D) (b := e + (l + more)) with h | h
    · left
      rw [hU, Nat.mul_assoc, ← Nat.pow_add]
      exact Nat.dvd_trans h (Nat.dvd_mul_left _ _)
    · right; rw [← Nat.pow_add]; exact h
  have hqb : q < 2 * 2 ^ f.fractionBits := hq2
  have hp1 : 2 ^ (f.fractionBits + 1) = 2 * 2 ^ f.fractionBits := by rw [Nat.pow_succ]; omega
  generalize dividend / n = F at *
  generalize dividend % n = R at *
  generalize hSd : 2 ^ (k + D) = S at *
  generalize hTd : 2 ^ (l + more) = T at *
  rw [eT]
  constructor
  · intro h
    have h1 : dividend * S ≤ U f r * T * n := by
      rw [← eA, ← eB]; exact Nat.mul_le_mul_right _ h
    by_cases hR : R = 0
    · subst hR
      have : mag = 2 * F := by rw [hmag]; simp
      rw [this]
      have h2 : F * S ≤ U f r * T := by
        have : F * S * n ≤ U f r * T * n := by
          calc F * S * n = dividend * S := by rw [← hF]; simp; ac_rfl
            _ ≤ _ := h1
        exact Nat.le_of_mul_le_mul_right this hnp
      calc 2 * F * S = 2 * (F * S) := Nat.mul_assoc _ _ _
        _ ≤ 2 * (U f r * T) := Nat.mul_le_mul_left _ h2
        _ = U f r * (T * 2) := by ac_rfl
    · have hm1 : mag = 2 * F + 1 := by
        rw [hmag]
        have : (R != 0) = true := by simp [hR]
        rw [this]; rfl
      have hm0 : m ≠ 0 := by
        rintro rfl
        have : dividend = 0 := by rw [hdv]; simp
        have h2 : n * F ≥ 0 := Nat.zero_le _
        omega
      have h2 : F * S < U f r * T := by
        have : F * S * n < U f r * T * n := by
          calc F * S * n < dividend * S := by
                rw [← hF, Nat.add_mul]
                have : F * S * n = n * F * S := by ac_rfl
                rw [this]
                have : 0 < R * S := Nat.mul_pos (by omega) hS0
                omega
            _ ≤ _ := h1
        exact Nat.lt_of_mul_lt_mul_right this
      have h3 : (2 * F + 1) * S ≤ 2 * (U f r * T) := by
        rcases hdiv with ⟨c, hc⟩ | hc
        · rw [hc] at h2 ⊢
          rw [Nat.mul_comm F S] at h2
          have : F + 1 ≤ c := Nat.lt_of_mul_lt_mul_left h2
          have := Nat.mul_le_mul_left S this
          rw [Nat.mul_add, Nat.mul_one] at this
          rw [Nat.add_mul, Nat.mul_assoc, Nat.mul_comm F S]
          omega
        · exfalso
          have hb := hbig hm0
          rw [hU] at h2
          have g1 : 2 * 2 ^ f.fractionBits * S ≤ F * S := Nat.mul_le_mul_right _ (by omega)
          have g2 : q * 2 ^ e * T = q * (2 ^ e * T) := Nat.mul_assoc _ _ _
          have g3 : 2 * 2 ^ f.fractionBits * (2 * (2 ^ e * T)) ≤ 2 * 2 ^ f.fractionBits * S := Nat.mul_le_mul_left _ hc
          have g4 : q * (2 ^ e * T) ≤ 2 * 2 ^ f.fractionBits * (2 ^ e * T) := Nat.mul_le_mul_right _ (by omega)
          have g5 : 2 * 2 ^ f.fractionBits * (2 * (2 ^ e * T)) = 2 * (2 * 2 ^ f.fractionBits * (2 ^ e * T)) := by ac_rfl
          omega
      rw [hm1]
      calc _ ≤ 2 * (U f r * T) := h3
        _ = U f r * (T * 2) := by ac_rfl
  · intro h
    have h1 : U f r * T * n ≤ dividend * S := by
      rw [← eA, ← eB]; exact Nat.mul_le_mul_right _ h
    have h3 : U f r * T ≤ F * S := by
      by_cases hR : R = 0
      · subst hR
        have : U f r * T * n ≤ F * S * n := by
          calc _ ≤ dividend * S := h1
            _ = F * S * n := by rw [← hF]; simp; ac_rfl
        exact Nat.le_of_mul_le_mul_right this hnp
      · have hm0 : m ≠ 0 := by
          rintro rfl
          have : dividend = 0 := by rw [hdv]; simp
          have h2 : n * F ≥ 0 := Nat.zero_le _
          omega
        have h2 : U f r * T < (F + 1) * S := by
          have : U f r * T * n < (F + 1) * S * n := by
            calc _ ≤ dividend * S := h1
              _ < (F + 1) * S * n := by
                have : (F + 1) * S * n = (n * F + n) * S := by rw [Nat.add_mul, Nat.add_mul, Nat.add_mul]; ac_rfl
                rw [this]
                exact Nat.mul_lt_mul_of_pos_right (by omega) hS0
          exact Nat.lt_of_mul_lt_mul_right this
        rcases hdiv with ⟨c, hc⟩ | hc
        · rw [hc] at h2 ⊢
          rw [Nat.mul_comm (F + 1) S] at h2
          have : c < F + 1 := Nat.lt_of_mul_lt_mul_left h2
          rw [Nat.mul_comm F S]
          exact Nat.mul_le_mul_left _ (by omega)
        · have hb := hbig hm0
          rw [hU]
          have g2 : q * 2 ^ e * T = q * (2 ^ e * T) := Nat.mul_assoc _ _ _
          have g4 : q * (2 ^ e * T) ≤ 2 * 2 ^ f.fractionBits * (2 ^ e * T) := Nat.mul_le_mul_right _ (by omega)
          have g5 : 2 * 2 ^ f.fractionBits * (2 ^ e * T) = 2 ^ f.fractionBits * (2 * (2 ^ e * T)) := by ac_rfl
          have g6 : 2 ^ f.fractionBits * (2 * (2 ^ e * T)) ≤ 2 ^ f.fractionBits * S := Nat.mul_le_mul_left _ hc
          have g7 : 2 ^ f.fractionBits * S ≤ F * S := Nat.mul_le_mul_right _ (by omega)
          omega
    have h4 : 2 * F ≤ mag := by rw [hmag]; omega
    calc U f r * (T * 2) = 2 * (U f r * T) := by ac_rfl
      _ ≤ 2 * (F * S) := Nat.mul_le_mul_left _ h3
      _ = 2 * F * S := by ac_rfl
      _ ≤ mag * S := Nat.mul_le_mul_right _ h4

/-- A quotient of two finite numbers, the second not 0: some word between the rungs that lie about the true quotient. -/
theorem div_fin {x y D : Nat} (hD : f.leastPlace = -(D : Int)) (hx : Fin f x) (hy : Fin f y) (h0 : Z f y ≠ 0) :
    ∃ g, f.div x y = some (f.word (neg f x ^^ neg f y) g) ∧ g ≤ f.infRung ∧
      ∀ r, r ≤ f.infRung → ((Z f x).natAbs * 2 ^ D ≤ U f r * (Z f y).natAbs → g ≤ r) ∧ (U f r * (Z f y).natAbs ≤ (Z f x).natAbs * 2 ^ D → r ≤ g) := by
  obtain ⟨m, k, e1, u1⟩ := read_fin f hx
  obtain ⟨n, l, e2, u2⟩ := read_fin f hy
  have a : (Z f x).natAbs = m * 2 ^ k := by rw [u1]; unfold Z sg; split <;> simp
  have b : (Z f y).natAbs = n * 2 ^ l := by rw [u2]; unfold Z sg; split <;> simp
  have hn : n ≠ 0 := by
    rintro rfl
    apply h0
    simp at b
    exact b
  refine ⟨G f ((2 * ((m <<< (f.fractionBits + 2 + n.log2 - m.log2)) / n) + ((m <<< (f.fractionBits + 2 + n.log2 - m.log2)) % n != 0).toNat) * 2 ^ (k + D)) (l + (f.fractionBits + 2 + n.log2 - m.log2) + 1), ?_, ?_, ?_⟩
  · unfold Format.div
    rw [e1, e2]
    simp only [Datum.quotient, if_neg hn, Option.map_some, Format.write]
    rw [nearest_eq f _ _ _ (k + D) (l + (f.fractionBits + 2 + n.log2 - m.log2) + 1) (by omega)]
  · unfold G; omega
  · intro r hr
    have h := div_bracket f (m := m) (n := n) (k := k) (l := l) (D := D) (r := r) hn
    rw [a, b]
    exact ⟨fun h1 => G_le_rung f (h.1 h1) hr, fun h1 => rung_le_G f (h.2 h1) hr⟩
end
end Flt

/-! A number of the narrow format is proved to be the same number in the wide one, and to come back; words that are equal numbers of one sign are one word. No NaN. -/
namespace Flt
open Ieee
section
variable (f : Format)
/-- a number of few digits is met exactly -/
theorem U_G0_short {q e : Nat} (hq : q < 2 * f.binade) : U f (G0 f (q * 2 ^ e) 0) = q * 2 ^ e := by
  rw [U_G0, Nat.zero_add]
  by_cases h0 : q = 0
  · subst h0; simp [rne_zero]
  · have hx : ex f (q * 2 ^ e) 0 ≤ e := by
      unfold ex
      rw [log2_scale q e h0]
      have : q.log2 < f.fractionBits + 1 := (Nat.log2_lt h0).2 (by rw [Nat.pow_succ, ← binade_eq]; omega)
      omega
    have hs : q * 2 ^ e = q * 2 ^ (e - ex f (q * 2 ^ e) 0) * 2 ^ ex f (q * 2 ^ e) 0 := by
      rw [Nat.mul_assoc, ← Nat.pow_add, Nat.sub_add_cancel hx]
    generalize ex f (q * 2 ^ e) 0 = x at *
    rw [hs, rne_exact]

theorem G_short {q e : Nat} (hq : q < 2 * f.binade) (hU : q * 2 ^ e ≤ U f f.infRung) : U f (G f (q * 2 ^ e) 0) = q * 2 ^ e := by
  have h := U_G0_short f (q := q) (e := e) hq
  have : G0 f (q * 2 ^ e) 0 ≤ f.infRung := U_mono f (by rw [h]; exact hU)
  unfold G
  rw [Nat.min_eq_left this, h]

theorem U_two {r : Nat} : ∃ q e, q < 2 * f.binade ∧ U f r = q * 2 ^ e := by
  obtain ⟨e, q, rfl, h1, h2⟩ := rung_split f r
  exact ⟨q, e, h2, U_split f h1 (by omega)⟩

theorem word_inj {x y : Nat} (hx : x < 2 * f.signWeight) (hy : y < 2 * f.signWeight) (hn : neg f x = neg f y) (hz : Z f x = Z f y) : x = y := by
  rw [← word_rung f x hx, ← word_rung f y hy, hn]
  congr 1
  unfold Z sg at hz
  rw [hn] at hz
  have : U f (rung f x) = U f (rung f y) := by
    split at hz <;> omega
  have h1 := U_mono f (Nat.le_of_eq this)
  have h2 := U_mono f (Nat.le_of_eq this.symm)
  omega
theorem word_nan (n : Bool) {r : Nat} (h : r ≤ f.infRung) : ¬ NaN f (f.word n r) := by
  have := infRung_lt' f
  unfold NaN
  rw [rung_word f n (by omega)]
  omega
end

/-- The wide word of a narrow one that is no NaN. -/
def widen (w : Nat) : Nat := double.write (single.read w)

def eS : Nat := 277
def eD : Nat := 2098
def eK : Nat := 925
theorem eS_eq : eS = 277 := rfl
theorem eD_eq : eD = 2098 := rfl
theorem eK_eq : eK = 925 := rfl
theorem single_inf : U single single.infRung = 2 ^ eS := by decide +kernel
theorem double_inf : U double double.infRung = 2 ^ eD := by decide +kernel

theorem widen_inf {w : Nat} (h : rung single w = single.infRung) : widen w = double.word (neg single w) double.infRung := by
  unfold widen
  rw [read_inf single (by decide) h]; rfl

theorem widen_fin {w : Nat} (h : Fin single w) : ∃ g, widen w = double.word (neg single w) g ∧ g < double.infRung ∧ U double g = U single (rung single w) * 2 ^ eK := by
  obtain ⟨m, k, e1, u1⟩ := read_fin single h
  have hlt := U_lt single h
  rw [single_inf] at hlt
  obtain ⟨q, e, hq, hU⟩ := U_two single (r := rung single w)
  have hw : widen w = double.word (neg single w) (G double (m * 2 ^ (k + eK)) 0) := by
    unfold widen
    rw [e1]
    simp only [Format.write]
    rw [nearest_eq double _ _ _ (k + eK) 0 (by show (2 - 2 ^ (8 - 1) - 23 : Int) + k = 2 - 2 ^ (11 - 1) - 52 + ((k + eK : Nat) : Int) - (0 : Nat); rw [eK_eq]; omega)]
  have hm : m * 2 ^ (k + eK) = q * 2 ^ (e + eK) := by
    rw [Nat.pow_add, Nat.pow_add, ← Nat.mul_assoc, ← Nat.mul_assoc, u1, hU]
  have hle : q * 2 ^ (e + eK) < 2 ^ eD := by
    rw [Nat.pow_add, ← Nat.mul_assoc, ← hU]
    calc U single (rung single w) * 2 ^ eK < 2 ^ eS * 2 ^ eK := Nat.mul_lt_mul_of_pos_right hlt (Nat.two_pow_pos _)
      _ ≤ 2 ^ eD := by rw [← Nat.pow_add]; exact Nat.pow_le_pow_right (by omega) (by rw [eS_eq, eK_eq, eD_eq]; omega)
  have hq2 : q < 2 * double.binade := by
    have h1 : 2 * single.binade = 2 ^ 24 := by decide
    have h2 : 2 * double.binade = 2 ^ 53 := by decide
    omega
  rw [hm] at hw
  have hG := G_short double hq2 (Nat.le_of_lt (by rw [double_inf]; exact hle))
  refine ⟨_, hw, ?_, ?_⟩
  · apply Nat.lt_of_not_le
    intro h'
    have := U_le double h'
    rw [hG, double_inf] at this
    omega
  · rw [hG, hU, Nat.mul_assoc, ← Nat.pow_add]

theorem widen_neg {w : Nat} (h : ¬ NaN single w) : neg double (widen w) = neg single w := by
  rcases not_nan single h with h | h
  · obtain ⟨g, e, hg, _⟩ := widen_fin h
    rw [e, neg_word double _ (by have := infRung_lt' double; omega)]
  · rw [widen_inf h, neg_word double _ (infRung_lt' double)]
theorem widen_fin' {w : Nat} (h : Fin single w) : Fin double (widen w) := by
  obtain ⟨g, e, hg, hu⟩ := widen_fin h
  unfold Fin
  rw [e, rung_word double _ (by have := infRung_lt' double; omega)]
  exact hg

/-- ... and back. -/
theorem narrow {w : Nat} (hw : w < 2 ^ 32) (h : ¬ NaN single w) : single.write (double.read (widen w)) = w := by
  have hs : 2 * single.signWeight = 2 ^ 32 := by decide
  rcases not_nan single h with h | h
  · have hfd := widen_fin' h
    obtain ⟨g, e, hg, hu⟩ := widen_fin h
    obtain ⟨m, k, e1, u1⟩ := read_fin double hfd
    rw [e1]
    have hn := widen_neg (w := w) (by unfold NaN; unfold Fin at h; omega)
    rw [hn]
    simp only [Format.write]
    have hrg : rung double (widen w) = g := by rw [e, rung_word double _ (by have := infRung_lt' double; omega)]
    rw [hrg, hu] at u1
    rw [nearest_eq single _ _ _ k eK (by show (2 - 2 ^ (11 - 1) - 52 : Int) + k = 2 - 2 ^ (8 - 1) - 23 + (k : Int) - (eK : Nat); rw [eK_eq]; omega)]
    rw [u1]
    rw [G_exact' single _ _ (by unfold Fin at h; omega)]
    exact word_rung single w (by omega)
  · have hr : rung double (widen w) = double.infRung := by rw [widen_inf h, rung_word double _ (infRung_lt' double)]
    rw [read_inf double (by decide) hr]
    have hn := widen_neg (w := w) (by unfold NaN; omega)
    rw [hn]
    simp only [Format.write]
    rw [← h]
    exact word_rung single w (by omega)
end Flt

/-! How the model runs an operation on floats where its result is a NaN, and plain facts on comparisons; no condition. -/
namespace Go.Proofs.YtekfmjddlemboaaGreatDoor
open Go.RowKit

section
variable {P : Program} (w : World)
end

theorem order_self (k : FloatKind) {a : Nat} (h : ¬ Flt.NaN k.format a) : k.format.order a a = some .eq := by
  rw [Flt.order_num k.format (by cases k <;> decide) h h]
  simp
theorem order_nan (k : FloatKind) {a b : Nat} (h : Flt.NaN k.format a ∨ Flt.NaN k.format b) : k.format.order a b = none :=
  Flt.order_nan k.format (by cases k <;> decide) h

end Go.Proofs.YtekfmjddlemboaaGreatDoor

/-! The four operations on finite narrow numbers: that the model gives them, what they are in units, and their bounds; each under its own premises. -/
set_option linter.unusedVariables false
set_option linter.unusedSimpArgs false
namespace Go.Proofs.YtekfmjddlemboaaGreatDoor
open Go.RowKit Ieee

abbrev Fin32 (x : Nat) : Prop := Flt.Fin single x
abbrev Z32 (x : Nat) : Int := Flt.Z single x
def fadd (x y : Nat) : Nat := (single.add x y).getD 0
def fsub (x y : Nat) : Nat := (single.sub x y).getD 0
def fmul (x y : Nat) : Nat := (single.mul x y).getD 0
def fdiv (x y : Nat) : Nat := (single.div x y).getD 0

/-! ### rounded integers of units -/
theorem RZ_mono (f : Format) {y z : Int} (d : Nat) (h : y ≤ z) : Flt.RZ f y d ≤ Flt.RZ f z d := by
  unfold Flt.RZ Flt.sg
  by_cases hy : y < 0 <;> by_cases hz : z < 0
  · have := Flt.U_le f (Flt.G_le f (n := z.natAbs) (m := y.natAbs) (d := d) (c := d) (Nat.mul_le_mul_right _ (by omega)))
    simp only [hy, hz, decide_true, if_true]; omega
  · simp only [hy, hz, decide_true, decide_false, if_true]; simp
  · omega
  · have := Flt.U_le f (Flt.G_le f (n := y.natAbs) (m := z.natAbs) (d := d) (c := d) (Nat.mul_le_mul_right _ (by omega)))
    simp only [hy, hz, decide_false]; simp; omega
theorem RZ_exact (f : Format) {c : Nat} (d : Nat) (h : Flt.Fin f c) : Flt.RZ f (Flt.Z f c * 2 ^ d) d = Flt.Z f c := by
  have hp2 : (0 : Int) < 2 ^ d := Int.pow_pos (by decide)
  have hr : Flt.rung f c ≤ f.infRung := Nat.le_of_lt h
  have key : (Flt.Z f c * 2 ^ d).natAbs = Flt.U f (Flt.rung f c) * 2 ^ d := by
    rw [Int.natAbs_mul, Int.natAbs_pow]
    congr 1
    unfold Flt.Z Flt.sg; split <;> simp
  unfold Flt.RZ
  rw [key, Flt.G_exact' f _ _ hr]
  unfold Flt.Z Flt.sg
  by_cases hn : Flt.neg f c = true
  · simp only [hn, if_true]
    by_cases h0 : Flt.U f (Flt.rung f c) = 0
    · rw [h0]; simp
    · have : -(Flt.U f (Flt.rung f c) : Int) * 2 ^ d < 0 := Int.mul_neg_of_neg_of_pos (by omega) hp2
      simp [this]
  · simp only [hn, if_false]
    have : ¬ ((Flt.U f (Flt.rung f c) : Int) * 2 ^ d < 0) := by
      have := Int.mul_nonneg (Int.natCast_nonneg (Flt.U f (Flt.rung f c))) (Int.le_of_lt hp2)
      omega
    simp [this]
theorem RZ_le (f : Format) {z : Int} {d c : Nat} (hc : Flt.Fin f c) (h : z ≤ Flt.Z f c * 2 ^ d) : Flt.RZ f z d ≤ Flt.Z f c := by
  have := RZ_mono f d h
  rwa [RZ_exact f d hc] at this
theorem RZ_ge (f : Format) {z : Int} {d c : Nat} (hc : Flt.Fin f c) (h : Flt.Z f c * 2 ^ d ≤ z) : Flt.Z f c ≤ Flt.RZ f z d := by
  have := RZ_mono f d h
  rwa [RZ_exact f d hc] at this

theorem sg_RZ (f : Format) (n : Bool) (z : Int) (d : Nat) (h : z ≠ 0 → n = decide (z < 0)) : Flt.sg n (Flt.U f (Flt.G f z.natAbs d)) = Flt.RZ f z d := by
  unfold Flt.RZ
  by_cases hz : z = 0
  · subst hz
    have : Flt.U f (Flt.G f (0 : Int).natAbs d) = 0 := by
      have : Flt.G f 0 d = 0 := by simp [Flt.G, Flt.G0, Flt.ex, Flt.rne_zero]
      rw [Int.natAbs_zero, this, Flt.U_zero]
    rw [this]
    unfold Flt.sg
    cases n <;> simp
  · rw [h hz]

theorem fin_nan {x : Nat} (h : Fin32 x) : ¬ Flt.NaN single x := by
  unfold Flt.NaN; unfold Fin32 Flt.Fin at h; omega
theorem fin_of {x : Nat} (h : ¬ Flt.NaN single x) (h1 : -(2 : Int) ^ 250 ≤ Z32 x) (h2 : Z32 x ≤ 2 ^ 250) : Fin32 x := by
  rcases Flt.not_nan single h with h | h
  · exact h
  · exfalso
    unfold Z32 Flt.Z Flt.sg at h1 h2
    rw [h, Flt.single_inf] at h1 h2
    have : 2 ^ 250 < 2 ^ Flt.eS := Nat.pow_lt_pow_right (by omega) (by have := Flt.eS_eq; omega)
    have h3 : ((2 ^ 250 : Nat) : Int) < ((2 ^ Flt.eS : Nat) : Int) := by exact_mod_cast this
    have h4 : ((2 ^ 250 : Nat) : Int) = (2 : Int) ^ 250 := by simp
    rw [h4] at h3
    split at h1
    · rename_i hn; rw [if_pos hn] at h2; omega
    · rename_i hn; rw [if_neg hn] at h2; omega

theorem G_word_num (n : Bool) (a d : Nat) : ¬ Flt.NaN single (single.word n (Flt.G single a d)) := Flt.word_nan single n (by unfold Flt.G; omega)

/-! ### sums -/
section
variable {x y : Nat} (hx : Fin32 x) (hy : Fin32 y)
include hx hy
theorem add_some : floatBits .add .f32 x y = some (fadd x y) := by
  show single.add x y = _
  unfold fadd
  rw [Flt.add_fin single hx hy]; rfl
theorem Z_fadd : Z32 (fadd x y) = Flt.RZ single (Z32 x + Z32 y) 0 := by
  unfold fadd Z32
  rw [Flt.add_fin single hx hy]
  simp only [Option.getD_some]
  rw [Flt.Z_word single _ (Flt.G_lt single _ _)]
  exact sg_RZ single _ _ _ (fun h => by unfold Flt.sumNeg; rw [if_neg h])
theorem num_fadd : ¬ Flt.NaN single (fadd x y) := by
  unfold fadd
  rw [Flt.add_fin single hx hy]
  exact G_word_num _ _ _
theorem fadd_le {c : Nat} (hc : Fin32 c) (h : Z32 x + Z32 y ≤ Z32 c) : Z32 (fadd x y) ≤ Z32 c := by
  rw [Z_fadd hx hy]; exact RZ_le single hc (by simpa using h)
theorem fadd_ge {c : Nat} (hc : Fin32 c) (h : Z32 c ≤ Z32 x + Z32 y) : Z32 c ≤ Z32 (fadd x y) := by
  rw [Z_fadd hx hy]; exact RZ_ge single hc (by simpa using h)
theorem sub_some : floatBits .sub .f32 x y = some (fsub x y) := by
  show single.sub x y = _
  unfold fsub
  rw [Flt.sub_fin single hx hy]; rfl
theorem Z_fsub : Z32 (fsub x y) = Flt.RZ single (Z32 x - Z32 y) 0 := by
  unfold fsub Z32
  rw [Flt.sub_fin single hx hy]
  simp only [Option.getD_some]
  rw [Flt.Z_word single _ (Flt.G_lt single _ _)]
  exact sg_RZ single _ _ _ (fun h => by unfold Flt.difNeg; rw [if_neg h])
theorem num_fsub : ¬ Flt.NaN single (fsub x y) := by
  unfold fsub
  rw [Flt.sub_fin single hx hy]
  exact G_word_num _ _ _
theorem fsub_le {c : Nat} (hc : Fin32 c) (h : Z32 x - Z32 y ≤ Z32 c) : Z32 (fsub x y) ≤ Z32 c := by
  rw [Z_fsub hx hy]; exact RZ_le single hc (by simpa using h)
theorem fsub_ge {c : Nat} (hc : Fin32 c) (h : Z32 c ≤ Z32 x - Z32 y) : Z32 c ≤ Z32 (fsub x y) := by
  rw [Z_fsub hx hy]; exact RZ_ge single hc (by simpa using h)
theorem mul_some : floatBits .mul .f32 x y = some (fmul x y) := by
  show single.mul x y = _
  unfold fmul
  rw [Flt.mul_fin single (D := 149) (by decide) hx hy]; rfl
theorem Z_fmul : Z32 (fmul x y) = Flt.RZ single (Z32 x * Z32 y) 149 := by
  unfold fmul
  rw [Flt.mul_fin single (D := 149) (by decide) hx hy]
  simp only [Option.getD_some]
  unfold Z32
  rw [Flt.Z_word single _ (Flt.G_lt single _ _)]
  refine sg_RZ single _ _ _ (fun h => ?_)
  unfold Flt.Z Flt.sg at h ⊢
  generalize Flt.U single (Flt.rung single x) = a at *
  generalize Flt.U single (Flt.rung single y) = b at *
  have := Int.mul_nonneg (Int.natCast_nonneg a) (Int.natCast_nonneg b)
  cases hnx : Flt.neg single x <;> cases hny : Flt.neg single y <;> rw [hnx, hny] at h <;> simp only [Bool.false_eq_true, if_true, if_false, Int.mul_neg, Int.neg_mul, Int.neg_neg] at h ⊢ <;> simp <;> omega
theorem num_fmul : ¬ Flt.NaN single (fmul x y) := by
  unfold fmul
  rw [Flt.mul_fin single (D := 149) (by decide) hx hy]
  exact G_word_num _ _ _
theorem fmul_le {c : Nat} (hc : Fin32 c) (h : Z32 x * Z32 y ≤ Z32 c * 2 ^ 149) : Z32 (fmul x y) ≤ Z32 c := by
  rw [Z_fmul hx hy]; exact RZ_le single hc h
theorem fmul_ge {c : Nat} (hc : Fin32 c) (h : Z32 c * 2 ^ 149 ≤ Z32 x * Z32 y) : Z32 c ≤ Z32 (fmul x y) := by
  rw [Z_fmul hx hy]; exact RZ_ge single hc h
theorem div_some (h0 : Z32 y ≠ 0) : floatBits .quo .f32 x y = some (fdiv x y) := by
  show single.div x y = _
  unfold fdiv
  obtain ⟨g, e, _⟩ := Flt.div_fin single (D := 149) (by decide) hx hy h0
  rw [e]; rfl
theorem num_fdiv (h0 : Z32 y ≠ 0) : ¬ Flt.NaN single (fdiv x y) := by
  unfold fdiv
  obtain ⟨g, e, hg, _⟩ := Flt.div_fin single (D := 149) (by decide) hx hy h0
  rw [e]
  exact Flt.word_nan single _ hg
end

section
variable {P : Program} (w : World) (t : TypeId) {x y : Nat} (hx : Fin32 x) (hy : Fin32 y)
include hx hy
theorem run_fadd : (binOp .add t (.float .f32 x) (.float .f32 y)).run P w = .ok (.float .f32 (fadd x y)) w := run_float_arith w .add t .f32 x y _ (add_some hx hy)
theorem run_fsub : (binOp .sub t (.float .f32 x) (.float .f32 y)).run P w = .ok (.float .f32 (fsub x y)) w := run_float_arith w .sub t .f32 x y _ (sub_some hx hy)
theorem run_fmul : (binOp .mul t (.float .f32 x) (.float .f32 y)).run P w = .ok (.float .f32 (fmul x y)) w := run_float_arith w .mul t .f32 x y _ (mul_some hx hy)
theorem run_fdiv (h0 : Z32 y ≠ 0) : (binOp .quo t (.float .f32 x) (.float .f32 y)).run P w = .ok (.float .f32 (fdiv x y)) w := run_float_arith w .quo t .f32 x y _ (div_some hx hy h0)
end

/-! ### ranges -/
def rangeB (lo hi a : Nat) : Bool := (FloatKind.f32.format.order a lo == some .gt || FloatKind.f32.format.order a lo == some .eq) && (FloatKind.f32.format.order a hi == some .lt || FloatKind.f32.format.order a hi == some .eq)

theorem ord_ge {a c : Nat} (hc : ¬ Flt.NaN single c) : (FloatKind.f32.format.order a c == some .gt || FloatKind.f32.format.order a c == some .eq) = decide (¬ Flt.NaN single a ∧ Z32 c ≤ Z32 a) := by
  rw [show FloatKind.f32.format.order a c = single.order a c from rfl]
  by_cases ha : Flt.NaN single a
  · rw [Flt.order_nan single (by decide) (Or.inl ha)]; simp [ha]
  · rw [Flt.order_num single (by decide) ha hc]
    unfold Z32
    rcases Int.lt_trichotomy (Flt.Z single a) (Flt.Z single c) with h | h | h
    · rw [Int.compare_eq_lt.2 h]; simp [ha]; omega
    · rw [Int.compare_eq_eq.2 h]; simp [ha]; omega
    · rw [Int.compare_eq_gt.2 h]; simp [ha]; omega
theorem ord_le {a c : Nat} (hc : ¬ Flt.NaN single c) : (FloatKind.f32.format.order a c == some .lt || FloatKind.f32.format.order a c == some .eq) = decide (¬ Flt.NaN single a ∧ Z32 a ≤ Z32 c) := by
  rw [show FloatKind.f32.format.order a c = single.order a c from rfl]
  by_cases ha : Flt.NaN single a
  · rw [Flt.order_nan single (by decide) (Or.inl ha)]; simp [ha]
  · rw [Flt.order_num single (by decide) ha hc]
    unfold Z32
    rcases Int.lt_trichotomy (Flt.Z single a) (Flt.Z single c) with h | h | h
    · rw [Int.compare_eq_lt.2 h]; simp [ha]; omega
    · rw [Int.compare_eq_eq.2 h]; simp [ha]; omega
    · rw [Int.compare_eq_gt.2 h]; simp [ha]; omega
theorem rangeB_eq {lo hi a : Nat} (h1 : ¬ Flt.NaN single lo) (h2 : ¬ Flt.NaN single hi) : rangeB lo hi a = decide (¬ Flt.NaN single a ∧ Z32 lo ≤ Z32 a ∧ Z32 a ≤ Z32 hi) := by
  unfold rangeB
  rw [ord_ge h1, ord_le h2, Bool.eq_iff_iff]
  simp only [Bool.and_eq_true, decide_eq_true_eq]
  exact ⟨fun ⟨⟨a, b⟩, _, c⟩ => ⟨a, b, c⟩, fun ⟨a, b, c⟩ => ⟨⟨a, b⟩, a, c⟩⟩

def one : Nat := 1065353216
abbrev partB (a : Nat) : Bool := rangeB 0 1065353216 a
abbrev filmB (a : Nat) : Bool := rangeB 0 1233125376 a
theorem Z_zero : Z32 0 = 0 := by decide +kernel
theorem Z_one : Z32 1065353216 = 2 ^ 149 := by decide +kernel
theorem Z_film : Z32 1233125376 = 2 ^ 169 := by decide +kernel
theorem part_iff (a : Nat) : partB a = true ↔ ¬ Flt.NaN single a ∧ 0 ≤ Z32 a ∧ Z32 a ≤ 2 ^ 149 := by
  rw [partB, rangeB_eq (by decide) (by decide), Z_zero, Z_one]; simp
theorem film_iff (a : Nat) : filmB a = true ↔ ¬ Flt.NaN single a ∧ 0 ≤ Z32 a ∧ Z32 a ≤ 2 ^ 169 := by
  rw [filmB, rangeB_eq (by decide) (by decide), Z_zero, Z_film]; simp
theorem part_fin {a : Nat} (h : partB a = true) : Fin32 a := by
  obtain ⟨h1, h2, h3⟩ := (part_iff a).1 h
  exact fin_of h1 (by omega) (by omega)
theorem film_fin {a : Nat} (h : filmB a = true) : Fin32 a := by
  obtain ⟨h1, h2, h3⟩ := (film_iff a).1 h
  exact fin_of h1 (by omega) (by omega)
end Go.Proofs.YtekfmjddlemboaaGreatDoor

/-! sameFloat answers true at one number and itself, and at two that are no numbers; the conversions to the wide format that stand before it. No condition. -/
namespace Go.Proofs.YtekfmjddlemboaaGreatDoor
open Go.RowKit

theorem wide_conv {b : Nat} (h : ¬ Flt.NaN Ieee.single b) : floatToFloatBits .f32 b .f64 = some (Flt.widen b) := by
  unfold floatToFloatBits
  rw [if_neg (by decide)]
  have hd : FloatKind.f32.decode b = Ieee.single.read b := rfl
  rw [hd]
  rcases Flt.not_nan Ieee.single h with h1 | h1
  · obtain ⟨m, k, e1, u1⟩ := Flt.read_fin Ieee.single h1
    have hw : Flt.widen b = FloatKind.encode .f64 (.number (Flt.neg Ieee.single b) m (Ieee.single.leastPlace + (k : Nat))) := by
      show Ieee.double.write (Ieee.single.read b) = _
      rw [e1]; rfl
    rw [e1]
    simp only
    rw [← hw]
    have hf := Flt.widen_fin' h1
    obtain ⟨m', k', e2, _⟩ := Flt.read_fin Ieee.double hf
    have : (FloatKind.f64.decode (Flt.widen b)).isInfinity = false := by
      show (Ieee.double.read (Flt.widen b)).isInfinity = false
      rw [e2]; rfl
    rw [this]; rfl
  · have := Flt.read_inf Ieee.single (by decide) h1
    have hw : Flt.widen b = FloatKind.encode .f64 (.infinity (Flt.neg Ieee.single b)) := by
      show Ieee.double.write (Ieee.single.read b) = _
      rw [this]; rfl
    rw [this, hw]

section
variable {P : Program}
theorem run_conv_same (src dst : TypeId) (k : FloatKind) (b : Nat) (w : World) (hs : (P.underlying src).isSome = true) (hd : P.underlying dst = some (.float k)) :
    (convert src dst (.float k b)).run P w = .ok (.float k b) w := run_convert_float_float w src dst k k b b hs hd (by simp [floatToFloatBits])
theorem run_wide (src dst : TypeId) (b : Nat) (w : World) (hs : (P.underlying src).isSome = true) (hd : P.underlying dst = some (.float .f64)) (h : ¬ Flt.NaN Ieee.single b) :
    (convert src dst (.float .f32 b)).run P w = .ok (.float .f64 (Flt.widen b)) w := run_convert_float_float w src dst .f32 .f64 b _ hs hd (wide_conv h)
end

def wideW (b : Nat) (w : World) : World := if Flt.NaN Ieee.single b then w.drew else w
theorem below_wideW {B : Nat} {w w0 : World} (b : Nat) (h : Below B w w0) : Below B w (wideW b w0) := by
  unfold wideW
  split
  · exact h.drew
  · exact h
end Go.Proofs.YtekfmjddlemboaaGreatDoor

/-! Signbit, and whether two numbers are the same, as the program and the reference ask it; the bits fit 32 bits. -/
namespace Go.Proofs.YtekfmjddlemboaaGreatDoor
open Go.RowKit

theorem signbit_bool {x : Nat} (hx : x < 2 ^ 64) : decide (wrap64 (x : Int) < 0) = Flt.neg Ieee.double x := by
  have hs : Ieee.double.signWeight = 2 ^ 63 := by decide
  unfold Flt.neg wrap64
  rw [hs]
  by_cases h : x < 2 ^ 63
  · have h1 : x / 2 ^ 63 = 0 := Nat.div_eq_of_lt h
    rw [h1]; simp; omega
  · have h1 : x / 2 ^ 63 = 1 := by omega
    rw [h1]; simp; omega
theorem signbit_any (x : Nat) (w : World) (hx : x < 2 ^ 64) : Calls Tryz.prog 77 #[.float .f64 x] w fun e w' => e = .returned (.bool (Flt.neg Ieee.double x)) ∧ w = w' := by
  have hb : ∀ x w, (callFunc 99 #[.float .f64 x]).run Tryz.prog w = .ok (.value (.int .u64 x)) w := fun x w => by kernel_rfl
  have hs := Lib.hid (signbit_bool hx)
  clear hx
  go_enter Tryz.func77, Tryz.ntmps77
  go_wp2
  go_ret
  exact ⟨by rw [hs.out]; rfl, rfl⟩

theorem widen_lt (b : Nat) : Flt.widen b < 2 ^ 64 := Ieee.double.write_lt (Ieee.single.read b)

/-- Are two numbers the same? -/
def sameN (a b : Nat) : Bool := if Flt.NaN Ieee.single a ∨ Flt.NaN Ieee.single b then decide (Flt.NaN Ieee.single a ∧ Flt.NaN Ieee.single b) else decide (a = b)

theorem eq_of_same {a b : Nat} (ha : a < 2 ^ 32) (hb : b < 2 ^ 32) (na : ¬ Flt.NaN Ieee.single a) (nb : ¬ Flt.NaN Ieee.single b) :
    decide (a = b) = (FloatKind.f32.format.order a b == some .eq && (Flt.neg Ieee.single a == Flt.neg Ieee.single b)) := by
  rw [show FloatKind.f32.format.order a b = Ieee.single.order a b from rfl, Flt.order_num Ieee.single (by decide) na nb]
  have hs : 2 * Ieee.single.signWeight = 2 ^ 32 := by decide
  by_cases h : a = b
  · subst h; simp
  · simp only [h, decide_false]
    symm
    rw [Bool.and_eq_false_iff]
    by_cases hz : Flt.Z Ieee.single a = Flt.Z Ieee.single b
    · right
      by_cases hn : Flt.neg Ieee.single a = Flt.neg Ieee.single b
      · exact absurd (Flt.word_inj Ieee.single (by omega) (by omega) hn hz) h
      · simpa using hn
    · left
      simpa [Int.compare_eq_eq] using hz

section
variable (a b : Nat) (w : World)
theorem specSame_any : Calls Tryz.prog 55 #[.float .f32 a, .float .f32 b] w fun e w' => e = .returned (.bool (sameN a b)) ∧ w = w' := by
  have hbits : ∀ x w, (callFunc 82 #[.float .f32 x]).run Tryz.prog w = .ok (.value (.int .u32 x)) w := fun x w => by kernel_rfl
  by_cases na : Flt.NaN Ieee.single a
  · have h1 : FloatKind.f32.format.order a a = none := order_nan .f32 (Or.inl na)
    by_cases nb : Flt.NaN Ieee.single b
    · have h2 : FloatKind.f32.format.order b b = none := order_nan .f32 (Or.inl nb)
      have hS : sameN a b = true := by simp [sameN, na, nb]
      rw [hS]
      clear na nb hS
      go_enter Tryz.func55, Tryz.ntmps55
      go_wp2
      go_ret
      exact ⟨rfl, rfl⟩
    · have h2 : FloatKind.f32.format.order b b = some .eq := order_self .f32 nb
      have hS : sameN a b = false := by simp [sameN, na, nb]
      rw [hS]
      clear na nb hS
      go_enter Tryz.func55, Tryz.ntmps55
      go_wp2
      go_ret
      exact ⟨rfl, rfl⟩
  · have h1 : FloatKind.f32.format.order a a = some .eq := order_self .f32 na
    by_cases nb : Flt.NaN Ieee.single b
    · have h2 : FloatKind.f32.format.order b b = none := order_nan .f32 (Or.inl nb)
      have hS : sameN a b = false := by simp [sameN, na, nb]
      rw [hS]
      clear na nb hS
      go_enter Tryz.func55, Tryz.ntmps55
      go_wp2
      go_ret
      exact ⟨rfl, rfl⟩
    · have h2 : FloatKind.f32.format.order b b = some .eq := order_self .f32 nb
      have hS : sameN a b = ((a : Int) == (b : Int)) := by
        simp only [sameN, na, nb, or_self, if_false]
        rw [Bool.eq_iff_iff]; simp; omega
      rw [hS]
      clear na nb hS
      go_enter Tryz.func55, Tryz.ntmps55
      go_wp2
      all_goals (go_ret; exact ⟨rfl, rfl⟩)
theorem implSame_any (ha : a < 2 ^ 32) (hb : b < 2 ^ 32) : Calls Tryz.prog 80 #[.float .f32 a, .float .f32 b] w fun e w' => e = .returned (.bool (sameN a b)) ∧ w = w' := by
  by_cases na : Flt.NaN Ieee.single a
  · have h1 : FloatKind.f32.format.order a a = none := order_nan .f32 (Or.inl na)
    clear ha hb
    by_cases nb : Flt.NaN Ieee.single b
    · have h2 : FloatKind.f32.format.order b b = none := order_nan .f32 (Or.inl nb)
      have hS : sameN a b = true := by simp [sameN, na, nb]
      rw [hS]
      clear na nb hS
      go_enter Tryz.func80, Tryz.ntmps80
      go_wp2
      go_ret
      exact ⟨rfl, rfl⟩
    · have h2 : FloatKind.f32.format.order b b = some .eq := order_self .f32 nb
      have hS : sameN a b = false := by simp [sameN, na, nb]
      rw [hS]
      clear na nb hS
      go_enter Tryz.func80, Tryz.ntmps80
      go_wp2
      go_ret
      exact ⟨rfl, rfl⟩
  · have h1 : FloatKind.f32.format.order a a = some .eq := order_self .f32 na
    by_cases nb : Flt.NaN Ieee.single b
    · have h2 : FloatKind.f32.format.order b b = none := order_nan .f32 (Or.inl nb)
      have hS : sameN a b = false := by simp [sameN, na, nb]
      rw [hS]
      clear na nb hS ha hb
      go_enter Tryz.func80, Tryz.ntmps80
      go_wp2
      go_ret
      exact ⟨rfl, rfl⟩
    · have h2 : FloatKind.f32.format.order b b = some .eq := order_self .f32 nb
      have hS : sameN a b = (FloatKind.f32.format.order a b == some .eq && (Flt.neg Ieee.single a == Flt.neg Ieee.single b)) := by
        simp only [sameN, na, nb, or_self, if_false]
        exact eq_of_same ha hb na nb
      have ca := fun w => run_wide (P := Tryz.prog) 25 105 a w (by kernel_rfl) (by kernel_rfl) na
      have cb := fun w => run_wide (P := Tryz.prog) 25 105 b w (by kernel_rfl) (by kernel_rfl) nb
      have sa := signbit_any (Flt.widen a) w (widen_lt a)
      have sb := signbit_any (Flt.widen b) w (widen_lt b)
      rw [Flt.widen_neg na] at sa
      rw [Flt.widen_neg nb] at sb
      have SA := Lib.hid sa
      have SB := Lib.hid sb
      clear sa sb
      rw [hS]
      clear na nb hS ha hb
      by_cases ho : FloatKind.f32.format.order a b = some .eq
      · go_enter Tryz.func80, Tryz.ntmps80
        go_wp2_with fail
        refine SA.out.mono ?_
        rintro e w' ⟨rfl, rfl⟩
        go_wp2_with fail
        refine SB.out.mono ?_
        rintro e w' ⟨rfl, rfl⟩
        go_wp2
        go_ret
        exact ⟨by simp [ho], rfl⟩
      · go_enter Tryz.func80, Tryz.ntmps80
        go_wp2
        go_ret
        exact ⟨by simp [ho], rfl⟩
end
end Go.Proofs.YtekfmjddlemboaaGreatDoor

/-! The contracts of the functions that take numbers alone: ranges, light, dots for light, gain. -/
set_option linter.unusedVariables false
set_option linter.unusedSimpArgs false
namespace Go.Proofs.YtekfmjddlemboaaGreatDoor
open Go.RowKit

section
variable (a : Nat) (w : World)
theorem specPart_any : Calls Tryz.prog 79 #[.float .f32 a] w fun e w' => e = .returned (.bool (partB a)) ∧ w = w' := by
  go_enter Tryz.func79, Tryz.ntmps79
  go_wp2
  · rename_i h; go_ret; exact ⟨by simp [partB, rangeB, h], rfl⟩
  · rename_i h; go_ret; exact ⟨by simp [partB, rangeB, not_or.1 h], rfl⟩
theorem implPart_any : Calls Tryz.prog 53 #[.float .f32 a] w fun e w' => e = .returned (.bool (partB a)) ∧ w = w' := by
  go_enter Tryz.func53, Tryz.ntmps53
  go_wp2
  · rename_i h; go_ret; exact ⟨by simp [partB, rangeB, h], rfl⟩
  · rename_i h; go_ret; exact ⟨by simp [partB, rangeB, not_or.1 h], rfl⟩
end

theorem part_one_sub {s : Nat} (h : partB s = true) : partB (fsub 1065353216 s) = true := by
  obtain ⟨h1, h2, h3⟩ := (part_iff s).1 h
  have f1 : Fin32 1065353216 := by decide
  have f2 := part_fin h
  refine (part_iff _).2 ⟨num_fsub f1 f2, ?_, ?_⟩
  · have := fsub_ge f1 f2 (c := 0) (by decide) (by rw [Z_zero, Z_one]; omega)
    rwa [Z_zero] at this
  · have := fsub_le f1 f2 (c := 1065353216) f1 (by rw [Z_one]; omega)
    rwa [Z_one] at this
theorem part_mul {a b : Nat} (ha : partB a = true) (hb : partB b = true) : partB (fmul a b) = true := by
  obtain ⟨_, a2, a3⟩ := (part_iff a).1 ha
  obtain ⟨_, b2, b3⟩ := (part_iff b).1 hb
  have f1 := part_fin ha
  have f2 := part_fin hb
  have hp := Int.mul_nonneg a2 b2
  have hq := Int.mul_le_mul a3 b3 b2 (by omega)
  refine (part_iff _).2 ⟨num_fmul f1 f2, ?_, ?_⟩
  · have := fmul_ge f1 f2 (c := 0) (by decide) (by rw [Z_zero, Int.zero_mul]; exact hp)
    rwa [Z_zero] at this
  · have := fmul_le f1 f2 (c := 1065353216) (by decide) (by rw [Z_one]; exact hq)
    rwa [Z_one] at this
end Go.Proofs.YtekfmjddlemboaaGreatDoor

/-! The contracts of the functions that take numbers alone: dots for light, gain, and what has gained taken back. -/
set_option linter.unusedVariables false
set_option linter.unusedSimpArgs false
namespace Go.Proofs.YtekfmjddlemboaaGreatDoor
open Go.RowKit Ieee

/-! ### quotients of numbers that are not negative -/
theorem Z_fdiv_pos {x y : Nat} (hx : Fin32 x) (hy : Fin32 y) (h0 : 0 ≤ Z32 x) (h1 : 0 < Z32 y) :
    ∃ g, Z32 (fdiv x y) = (Flt.U single g : Nat) ∧ g ≤ single.infRung ∧ ∀ r, r ≤ single.infRung → (Z32 x * 2 ^ 149 ≤ (Flt.U single r : Nat) * Z32 y → g ≤ r) ∧ ((Flt.U single r : Nat) * Z32 y ≤ Z32 x * 2 ^ 149 → r ≤ g) := by
  obtain ⟨g, e, hg, hr⟩ := Flt.div_fin single (D := 149) (by decide) hx hy (by unfold Z32 at h1; omega)
  have hxa : ((Flt.Z single x).natAbs : Int) = Z32 x := by unfold Z32 at *; omega
  have hya : ((Flt.Z single y).natAbs : Int) = Z32 y := by unfold Z32 at *; omega
  have hp : ((2 ^ 149 : Nat) : Int) = 2 ^ 149 := by simp
  have conv : ∀ r, r ≤ single.infRung → (Z32 x * 2 ^ 149 ≤ (Flt.U single r : Nat) * Z32 y → g ≤ r) ∧ ((Flt.U single r : Nat) * Z32 y ≤ Z32 x * 2 ^ 149 → r ≤ g) := by
    intro r hrr
    obtain ⟨c1, c2⟩ := hr r hrr
    rw [← hxa, ← hya, ← hp, ← Int.natCast_mul, ← Int.natCast_mul]
    exact ⟨fun h => c1 (by exact_mod_cast h), fun h => c2 (by exact_mod_cast h)⟩
  refine ⟨g, ?_, hg, conv⟩
  have hny : Flt.neg single y = false := by
    unfold Z32 Flt.Z Flt.sg at h1
    cases hn : Flt.neg single y
    · rfl
    · rw [hn] at h1; simp at h1; omega
  unfold fdiv Z32
  rw [e]
  simp only [Option.getD_some]
  rw [Flt.Z_word single _ (by have := Flt.infRung_lt' single; omega), hny]
  by_cases hz : Z32 x = 0
  · have : g ≤ 0 := (conv 0 (by omega)).1 (by rw [hz]; simp [Flt.U_zero])
    have : g = 0 := by omega
    subst this
    rw [Flt.U_zero]
    unfold Flt.sg; split <;> simp
  · have hnx : Flt.neg single x = false := by
      unfold Z32 Flt.Z Flt.sg at h0 hz
      cases hn : Flt.neg single x
      · rfl
      · rw [hn] at h0 hz; simp at h0 hz; omega
    rw [hnx]; rfl
theorem U_of_pos {c : Nat} (h : 0 ≤ Z32 c) : ((Flt.U single (Flt.rung single c) : Nat) : Int) = Z32 c := by
  unfold Z32 Flt.Z Flt.sg at *
  split at h
  · rename_i hn; rw [if_pos hn]; omega
  · rename_i hn; rw [if_neg hn]
theorem fdiv_le {x y c : Nat} (hx : Fin32 x) (hy : Fin32 y) (h0 : 0 ≤ Z32 x) (h1 : 0 < Z32 y) (hc : Fin32 c) (hc0 : 0 ≤ Z32 c) (h : Z32 x * 2 ^ 149 ≤ Z32 c * Z32 y) : Z32 (fdiv x y) ≤ Z32 c := by
  obtain ⟨g, e, hg, hr⟩ := Z_fdiv_pos hx hy h0 h1
  have hrc : Flt.rung single c ≤ single.infRung := Nat.le_of_lt hc
  have := (hr _ hrc).1 (by rw [U_of_pos hc0]; exact h)
  rw [e, ← U_of_pos hc0]
  exact_mod_cast Flt.U_le single this
theorem fdiv_ge {x y c : Nat} (hx : Fin32 x) (hy : Fin32 y) (h0 : 0 ≤ Z32 x) (h1 : 0 < Z32 y) (hc : Fin32 c) (hc0 : 0 ≤ Z32 c) (h : Z32 c * Z32 y ≤ Z32 x * 2 ^ 149) : Z32 c ≤ Z32 (fdiv x y) := by
  obtain ⟨g, e, hg, hr⟩ := Z_fdiv_pos hx hy h0 h1
  have hrc : Flt.rung single c ≤ single.infRung := Nat.le_of_lt hc
  have := (hr _ hrc).2 (by rw [U_of_pos hc0]; exact h)
  rw [e, ← U_of_pos hc0]
  exact_mod_cast Flt.U_le single this

/-! ### dots for light -/
def clipR (x : Nat) : Nat := if FloatKind.f32.format.order x 1065353216 == some .gt then 1065353216 else if FloatKind.f32.format.order x 0 == some .lt then 0 else x
def gained (d g : Nat) : Nat := clipR (fadd d (fmul g (fmul (fmul 1082130432 d) (fsub 1065353216 d))))
theorem part_clip {x : Nat} (h : ¬ Flt.NaN single x) : partB (clipR x) = true := by
  unfold clipR
  rw [show FloatKind.f32.format.order x 1065353216 = single.order x 1065353216 from rfl, show FloatKind.f32.format.order x 0 = single.order x 0 from rfl, Flt.order_num single (by decide) h (by decide), Flt.order_num single (by decide) h (by decide)]
  rw [show Flt.Z single 1065353216 = 2 ^ 149 from Z_one, show Flt.Z single 0 = 0 from Z_zero, show Flt.Z single x = Z32 x from rfl]
  split
  · decide +kernel
  · split
    · decide +kernel
    · rename_i h1 h2
      refine (part_iff x).2 ⟨h, ?_, ?_⟩
      · rcases Int.lt_trichotomy (Z32 x) 0 with hz | hz | hz
        · rw [Int.compare_eq_lt.2 hz] at h2; simp at h2
        · omega
        · omega
      · rcases Int.lt_trichotomy (Z32 x) (2 ^ 149) with hz | hz | hz
        · omega
        · omega
        · rw [Int.compare_eq_gt.2 hz] at h1; simp at h1
end Go.Proofs.YtekfmjddlemboaaGreatDoor

/-! Rows of cells: some cells ahead, then a row of narrow numbers; and loads and stores of a part of a block. -/
set_option linter.unusedVariables false
set_option linter.unusedSimpArgs false
namespace Go.Proofs.YtekfmjddlemboaaGreatDoor
open Go.RowKit

def row (pre : List Value) (n : Nat) (F : Nat → Nat) : Array Value := (pre ++ (List.range n).map (fun i => Value.float .f32 (F i))).toArray
def upd (F : Nat → Nat) (i v : Nat) : Nat → Nat := fun j => if j = i then v else F j

section
variable (pre : List Value) (n : Nat) (F : Nat → Nat)
theorem row_size : (row pre n F).size = pre.length + n := by simp [row]
theorem row_pre {i : Nat} (h : i < pre.length) : (row pre n F)[i]? = pre[i]? := by
  simp [row, List.getElem?_append, h]
theorem row_get {i : Nat} (h : i < n) : (row pre n F)[pre.length + i]? = some (.float .f32 (F i)) := by
  simp [row, List.getElem?_append, h]
@[go_sem] theorem row_g0 (a : Value) (l : List Value) : (row (a :: l) n F)[0]? = some a := row_pre _ _ _ (by simp)
@[go_sem] theorem row_g1 (a b : Value) (l : List Value) : (row (a :: b :: l) n F)[1]? = some b := row_pre _ _ _ (by simp)
@[go_sem] theorem row_g2 (a b c : Value) (l : List Value) : (row (a :: b :: c :: l) n F)[2]? = some c := row_pre _ _ _ (by simp)
@[go_sem] theorem row_k0 {k : Nat} (h : k < n) : (row [] n F)[k]? = some (.float .f32 (F k)) := by simpa using row_get [] n F h
@[go_sem] theorem row_k2 (a b : Value) {k : Nat} (h : k < n) : (row [a, b] n F)[2 + k]? = some (.float .f32 (F k)) := row_get [a, b] n F h
@[go_sem] theorem row_k3 (a b c : Value) {k : Nat} (h : k < n) : (row [a, b, c] n F)[3 + k]? = some (.float .f32 (F k)) := row_get [a, b, c] n F h
theorem row_congr {G : Nat → Nat} (h : ∀ i, i < n → F i = G i) : row pre n F = row pre n G := by
  unfold row
  congr 2
  apply List.map_congr_left
  intro i hi
  rw [h i (by simpa using hi)]
theorem row_set {i v : Nat} (h : i < n) : (row pre n F).setIfInBounds (pre.length + i) (.float .f32 v) = row pre n (upd F i v) := by
  apply Array.ext_getElem?
  intro j
  rw [Array.getElem?_setIfInBounds]
  by_cases hj : pre.length + i = j
  · subst hj
    rw [if_pos rfl, row_get pre n _ h, if_pos (by rw [row_size]; omega)]
    simp [upd]
  · rw [if_neg hj]
    by_cases hp : j < pre.length
    · rw [row_pre _ _ _ hp, row_pre _ _ _ hp]
    · obtain ⟨k, rfl⟩ : ∃ k, j = pre.length + k := ⟨j - pre.length, by omega⟩
      by_cases hk : k < n
      · rw [row_get _ _ _ hk, row_get _ _ _ hk]
        have : k ≠ i := by omega
        simp [upd, this]
      · rw [Array.getElem?_eq_none (by rw [row_size]; omega), Array.getElem?_eq_none (by rw [row_size]; omega)]
theorem row_setpre {i : Nat} (v : Value) (h : i < pre.length) : (row pre n F).setIfInBounds i v = row (pre.set i v) n F := by
  unfold row
  simp [List.set_append, h]
@[go_sem] theorem row_s0 (a v : Value) (l : List Value) : (row (a :: l) n F).setIfInBounds 0 v = row (v :: l) n F := row_setpre _ _ _ v (by simp)
@[go_sem] theorem row_s1 (a b v : Value) (l : List Value) : (row (a :: b :: l) n F).setIfInBounds 1 v = row (a :: v :: l) n F := row_setpre _ _ _ v (by simp)
@[go_sem] theorem row_s2 (a b c v : Value) (l : List Value) : (row (a :: b :: c :: l) n F).setIfInBounds 2 v = row (a :: b :: v :: l) n F := row_setpre _ _ _ v (by simp)
theorem row_tail : (row pre n F).extract pre.length (pre.length + n) = row [] n F := by
  unfold row
  apply Array.ext_getElem?
  intro j
  simp only [List.extract_toArray, List.getElem?_toArray, List.extract_eq_take_drop, List.nil_append]
  rw [List.drop_left, Nat.add_sub_cancel_left, List.take_of_length_le (by simp)]
theorem row_all : (row pre n F).extract 0 (pre.length + n) = row pre n F := by
  have := row_size pre n F
  rw [← this]; simp
theorem row_cells (h : pre.all (·.oneCell') = true) : (row pre n F).all (·.oneCell') = true := by
  unfold row
  simp only [List.all_toArray, List.all_append, h, Bool.true_and]
  rw [List.all_eq_true]
  intro x hx
  simp only [List.mem_map] at hx
  obtain ⟨i, _, rfl⟩ := hx
  rfl
end

section
variable {P : Program}
/-- A part of a block, read. -/
theorem run_loadVar_part (w : World) (g o n : Nat) (t ty : TypeId) (cs : Array Value) (fr : Nat × Nat) (d : TypeDesc) (hg : w.heap[g]? = some (.cells cs t fr))
    (hu : P.underlying ty = some d) (hd : (match d with | .struct _ | .array _ _ => true | _ => false) = true) (hi : (P.info? ty).map (·.size) = some n) (hle : o + n ≤ cs.size) :
    (loadVar ty ⟨g, o, none⟩).run P w = .ok (.agg (cs.extract o (o + n))) w := by
  have hlen : (cs.extract o (o + n)).toList.length = n := by simp; omega
  have hl : (loadCells ⟨g, o, none⟩ (cs.extract o (o + n)).toList.length).run P w = .ok (cs.extract o (o + n)).toList.toArray w :=
    run_loadCells_list (P := P) w ⟨g, o, none⟩ (cs.extract o (o + n)).toList (fun j v hv => by
      have hadd : (⟨g, o, none⟩ : Addr).add j = ⟨g, o + j, none⟩ := by unfold Addr.add; split <;> simp_all
      rw [hadd, cell_of_row w g (o + j) cs t fr hg]
      have hj : j < n := by
        have := (List.getElem?_eq_some_iff.1 hv).1
        rw [hlen] at this; exact this
      rw [Array.getElem?_toList, Array.getElem?_extract] at hv
      rw [if_pos (by omega)] at hv
      exact hv)
  rw [hlen] at hl
  cases hq : P.info? ty with
  | none => simp [hq] at hi
  | some i =>
    have hs : i.size = n := by simpa [hq] using hi
    have hagg : (isAgg ty).run P w = .ok true w := by
      unfold isAgg
      rw [Sem.run_bind, run_underlying hu w]
      cases d <;> simp_all
    simp only [Array.toArray_toList] at hl
    simp [loadVar, Sem.run_bind, hagg, sizeOf, typeInfo, hq, hs, hl]
theorem wpList_load_part {ops : Array Oper} {rest : List Oper} {o : Oper} {a : Act} {w : World} {Q : Exit → Act → World → Prop} (hgd : o.guard = none) (ty : TypeId) (x : Operand) (ho : o.op = .load ty x)
    (g off n : Nat) (hx : a.eval x = .pointer (some ⟨g, off, none⟩)) (t : TypeId) (cs : Array Value) (fr : Nat × Nat) (d : TypeDesc) (hg : w.heap[g]? = some (.cells cs t fr))
    (hu : P.underlying ty = some d) (hd : (match d with | .struct _ | .array _ _ => true | _ => false) = true) (hi : (P.info? ty).map (·.size) = some n) (hle : off + n ≤ cs.size)
    (out : Array Value) (hout : cs.extract off (off + n) = out)
    (h : wpList P ops Q rest (a.put o.dst (.agg out)) w) : wpList P ops Q (o :: rest) a w := by
  subst hout
  refine wpList_plain hgd fun K hK => ?_
  unfold Oper.wp execOp
  simp only [ho, hx, Instr.loadAt, Instr.sureAddr, Sem.run_bind, Sem.run_pure, Result.andThen_ok, run_loadVar_part w g off n t ty cs fr d hg hu hd hi hle]
  exact hK _ _ h
/-- The same at an operation with a guard that wants it. -/
theorem wpList_load_partg {ops : Array Oper} {rest : List Oper} {o : Oper} {a : Act} {w : World} {Q : Exit → Act → World → Prop} (hw : Region.wanted o (yielded ops a.tmps) = true) (ty : TypeId) (x : Operand) (ho : o.op = .load ty x)
    (g off n : Nat) (hx : a.eval x = .pointer (some ⟨g, off, none⟩)) (t : TypeId) (cs : Array Value) (fr : Nat × Nat) (d : TypeDesc) (hg : w.heap[g]? = some (.cells cs t fr))
    (hu : P.underlying ty = some d) (hd : (match d with | .struct _ | .array _ _ => true | _ => false) = true) (hi : (P.info? ty).map (·.size) = some n) (hle : off + n ≤ cs.size)
    (out : Array Value) (hout : cs.extract off (off + n) = out)
    (h : wpList P ops Q rest (a.put o.dst (.agg out)) w) : wpList P ops Q (o :: rest) a w := by
  subst hout
  unfold wpList
  rw [if_pos hw]
  refine .inl ?_
  unfold Oper.wp execOp
  simp only [ho, hx, Instr.loadAt, Instr.sureAddr, Sem.run_bind, Sem.run_pure, Result.andThen_ok, run_loadVar_part w g off n t ty cs fr d hg hu hd hi hle]
  exact h
theorem at_load (ty : TypeId) {x : Operand} {d t p af gd} {ops : Array Oper} {rest : List Oper} {a : Act} {w : World} {Q : Exit → Act → World → Prop}
    (h : wpList P ops Q (⟨d, .load ty x, t, p, af, gd⟩ :: rest) a w) : wpList P ops Q (⟨d, .load ty x, t, p, af, gd⟩ :: rest) a w := h
theorem at_store (ty : TypeId) {x y : Operand} {d t p af gd} {ops : Array Oper} {rest : List Oper} {a : Act} {w : World} {Q : Exit → Act → World → Prop}
    (h : wpList P ops Q (⟨d, .store ty x y, t, p, af, gd⟩ :: rest) a w) : wpList P ops Q (⟨d, .store ty x y, t, p, af, gd⟩ :: rest) a w := h
/-- A part of a block, written. -/
theorem wpList_store_part {ops : Array Oper} {rest : List Oper} {o : Oper} {a : Act} {w : World} {Q : Exit → Act → World → Prop} (hgd : o.guard = none) (ty : TypeId) (x y : Operand) (ho : o.op = .store ty x y)
    (g off : Nat) (vs : Array Value) (hx : a.eval x = .pointer (some ⟨g, off, none⟩)) (hy : a.eval y = .agg vs)
    (t : TypeId) (old : Array Value) (hg : w.heap[g]? = some (.cells old t (0, 0))) (hi : (P.info? ty).map (·.size) = some vs.size)
    (hle : off + vs.size ≤ old.size) (h1 : vs.all (·.oneCell') = true)
    (new : Array Value) (hnew : (old.toList.take off ++ vs.toList ++ old.toList.drop (off + vs.toList.length)).toArray = new)
    (h : wpList P ops Q rest (a.put o.dst undef) (w.setRow g new)) : wpList P ops Q (o :: rest) a w := by
  subst hnew
  refine wpList_plain hgd fun K hK => ?_
  have hst := run_storeCells_at P g off t vs.toList 0 old w hg (by simpa using hle) (fun v hv => (Array.all_eq_true_iff_forall_mem.1 h1) v (by simpa using hv))
  unfold Oper.wp execOp
  cases hq : P.info? ty with
  | none => simp [hq] at hi
  | some i =>
    have hs : vs.size = i.size := by simp [hq] at hi; omega
    simp only [Nat.add_zero] at hst
    have hsv : (storeVar ty ⟨g, off, none⟩ (.agg vs)).run P w = .ok () (w.setRow g (old.toList.take off ++ vs.toList ++ old.toList.drop (off + vs.toList.length)).toArray) := by
      simp [storeVar, sizeOf, typeInfo, hq, Value.cells, hs, hst]
    simp only [ho, hx, hy, Instr.storeAt, Instr.sureAddr, Sem.run_bind, Sem.run_pure, Result.andThen_ok, hsv]
    exact hK _ _ h
end
@[go_sem] theorem run_store_float {P : Program} (w : World) (a : Addr) (m : Mode) (k : FloatKind) (n : Nat) : (store a (.float k n) m).run P w = stored P w a (.float k n) m := run_store P w a _ m rfl
theorem blk_new (w : World) (o : Obj) (i : Nat) (h : i = w.heap.size) : (w.alloc o).heap[i]? = some o := by
  subst h; exact heap_alloc_new w o
theorem blk_old {r : Option Obj} (w : World) (o : Obj) (i : Nat) (h : i < w.heap.size) (hr : w.heap[i]? = r) : (w.alloc o).heap[i]? = r := (Below.heap_alloc w o i h).trans hr
theorem blk_set (w : World) (g i : Nat) (cs cur : Array Value) (t : TypeId) (fr : Nat × Nat) (h : i = g) (hg : w.heap[g]? = some (.cells cur t fr)) : (w.setRow g cs).heap[i]? = some (.cells cs t fr) := by
  subst h; exact setRow_heap w i cur cs t fr hg
theorem blk_off {r : Option Obj} (w : World) (g i : Nat) (cs : Array Value) (h : i ≠ g) (hr : w.heap[i]? = r) : (w.setRow g cs).heap[i]? = r := (setRow_other w g i cs h).trans hr
theorem blk_offc {r : Option Obj} (w : World) (p : Addr) (v : Value) (i : Nat) (h : i ≠ p.block) (hr : w.heap[i]? = r) : (w.setCell p v).heap[i]? = r := (heap_setCell_other w p i v h).trans hr
theorem blk_below {B : Nat} {w w' : World} {r : Option Obj} {i : Nat} (hb : Below B w w') (h : i < B) (hr : w.heap[i]? = r) : w'.heap[i]? = r := (hb.block i h).trans hr
theorem blk_drew {r : Option Obj} (w : World) (i : Nat) (hr : w.heap[i]? = r) : w.drew.heap[i]? = r := hr
theorem below_setRow {B : Nat} {a w : World} (h : Below B a w) {g : Nat} (hg : B ≤ g) (cs : Array Value) : Below B a (w.setRow g cs) :=
  ⟨h.os, h.tape, h.output, by rw [size_setRow]; exact h.size, fun k hk => (setRow_other w g k cs (by omega)).trans (h.block k hk)⟩
theorem bel_alloc {B : Nat} {a w : World} (o : Obj) (hB : B ≤ w.heap.size) (h : Below B a w) : Below B a (w.alloc o) := h.alloc hB o
theorem bel_row {B : Nat} {a w : World} {g : Nat} (cs : Array Value) (hg : B ≤ g) (h : Below B a w) : Below B a (w.setRow g cs) := below_setRow h hg cs
theorem bel_cell {B : Nat} {a w : World} {p : Addr} (u : Value) (hp : B ≤ p.block) (h : Below B a w) : Below B a (w.setCell p u) := h.setCell hp u
/-- Behind a contract that lays new blocks. -/
theorem bel_next {B : Nat} {a w w' : World} (hb : Below w.heap.size w w') (hB : B ≤ w.heap.size) (h : Below B a w) : Below B a w' := h.trans (hb.mono hB)
theorem row_over (pre pre' : List Value) (n : Nat) (F G : Nat → Nat) (h : pre.length = pre'.length) : ((row pre n F).toList.take 0 ++ (row pre' n G).toList ++ (row pre n F).toList.drop (0 + (row pre' n G).toList.length)).toArray = row pre' n G := by
  unfold row
  simp [h]
theorem bcell {B : Nat} {W w1 : World} (hb : Below B W w1) : (∀ b o, b < B → w1.cell? ⟨b, o, none⟩ = W.cell? ⟨b, o, none⟩) ∧ (∀ b o, b < B → w1.frozen? ⟨b, o, none⟩ = W.frozen? ⟨b, o, none⟩) :=
  ⟨fun b o h => hb.cell (p := ⟨b, o, none⟩) h, fun b o h => hb.frozen (p := ⟨b, o, none⟩) h⟩
theorem setRow_alloc_new (w : World) (a b : Array Value) (t : TypeId) : (w.alloc (.cells a t)).setRow w.heap.size b = w.alloc (.cells b t) := by
  unfold World.setRow World.alloc
  simp only
  congr 1
  apply Array.ext_getElem?
  intro i
  simp only [Array.getElem?_modify, Array.getElem?_push]
  by_cases h : w.heap.size = i
  · subst h; simp
  · rw [if_neg h, if_neg (fun e => h e.symm), if_neg (fun e => h e.symm)]
section
variable {P : Program} (w : World) (t e : TypeId) (n b o : Nat) (ht : P.underlying t = some (.array n e)) (hs : (P.info? e).map (·.size) = some 1)
include ht hs
theorem run_sliceAt_all : (Instr.sliceAt t (.pointer (some ⟨b, o, none⟩)) none none none).run P w = .ok (.slice (some ⟨b, o, none⟩) n n) w := by
  cases hq : P.info? e with
  | none => simp [hq] at hs
  | some i =>
    have hi : i.size = 1 := by simpa [hq] using hs
    by_cases hn : n = 0 <;> simp [Instr.sliceAt, run_underlying ht, sizeOf, typeInfo, hq, hi, Instr.sliceBounds, Instr.sureAddr, hn, Addr.add]
theorem run_sliceAt_l (kl : IntKind) (l : Nat) (hl : l < n) : (Instr.sliceAt t (.pointer (some ⟨b, o, none⟩)) (some (.int kl l)) none none).run P w = .ok (.slice (some ⟨b, o + l, none⟩) (n - l) (n - l)) w := by
  cases hq : P.info? e with
  | none => simp [hq] at hs
  | some i =>
    have hi : i.size = 1 := by simpa [hq] using hs
    have h1 : (0 : Int) ≤ l ∧ (l : Int) ≤ n := ⟨by omega, by omega⟩
    have hne : n ≠ l := by omega
    simp [Instr.sliceAt, run_underlying ht, sizeOf, typeInfo, hq, hi, Instr.sliceBounds, Instr.sureAddr, hne, run_sliceBound w kl l n _ h1.1 h1.2, Addr.add]
theorem run_sliceAt_lh (kl kh : IntKind) (l h : Nat) (hl : l ≤ h) (hh : h ≤ n) (hne : l < n) : (Instr.sliceAt t (.pointer (some ⟨b, o, none⟩)) (some (.int kl l)) (some (.int kh h)) none).run P w = .ok (.slice (some ⟨b, o + l, none⟩) (h - l) (n - l)) w := by
  cases hq : P.info? e with
  | none => simp [hq] at hs
  | some i =>
    have hi : i.size = 1 := by simpa [hq] using hs
    have h1 : (0 : Int) ≤ l ∧ (l : Int) ≤ h := ⟨by omega, by omega⟩
    have h2 : (0 : Int) ≤ h ∧ (h : Int) ≤ n := ⟨by omega, by omega⟩
    have hne : n ≠ l := by omega
    simp [Instr.sliceAt, run_underlying ht, sizeOf, typeInfo, hq, hi, Instr.sliceBounds, Instr.sureAddr, hne, run_sliceBound w kl l h _ h1.1 h1.2, run_sliceBound w kh h n _ h2.1 h2.2, Addr.add]
end
/-- Results of which the first lies in memory. -/
theorem results_row_tmp {P : Program} {fn : Func} {p u : Tmp} {ty : TypeId} (h : fn.results = #[.cell p ty, .tmp u]) (tmps : Array Value) (w : World) (g : Nat) (t : TypeId) (cs : Array Value) (fr : Nat × Nat) (d : TypeDesc) (v : Value)
    (hp : tmps.getD p undef = .pointer (some ⟨g, 0, none⟩)) (hv : tmps.getD u undef = v) (hg : w.heap[g]? = some (.cells cs t fr))
    (hu : P.underlying ty = some d) (hd : (match d with | .struct _ | .array _ _ => true | _ => false) = true) (hi : (P.info? ty).map (·.size) = some cs.size) :
    (results fn tmps).run P w = .ok (.tuple #[.agg cs, v]) w := by
  subst hv
  have hp' : tmps[p]?.getD undef = .pointer (some ⟨g, 0, none⟩) := by simpa using hp
  simp [results, h, hp', asAddr, run_loadVar_row w g t ty cs fr d hg hu hd hi]
/-- An element of an array that is a value. -/
theorem run_index_row {P : Program} (w : World) (t e : TypeId) (n : Nat) (F : Nat → Nat) (j : Nat) (hj : j < n) (ht : P.underlying t = some (.array n e)) (he : P.underlying e = some (.float .f32)) (hs : (P.info? e).map (·.size) = some 1) :
    (Instr.index t (.agg (row [] n F)) (.int .i64 j)).run P w = .ok (.float .f32 (F j)) w := by
  have hg := row_k0 n F hj
  have h1 : (0 : Int) ≤ j ∧ (j : Int) < n := ⟨by omega, by omega⟩
  cases hq : P.info? e with
  | none => simp [hq] at hs
  | some i =>
    have hi : i.size = 1 := by simpa [hq] using hs
    simp [Instr.index, asIntOf, run_underlying ht, hj, sizeOf, typeInfo, hq, hi, part, isAgg, run_underlying he, hg]
end Go.Proofs.YtekfmjddlemboaaGreatDoor

/-! toFloat32A12, toTrain: the copies that the laws make of their arguments. -/
set_option linter.unusedVariables false
set_option linter.unusedSimpArgs false
namespace Go.Proofs.YtekfmjddlemboaaGreatDoor
open Go.RowKit
def mix (F G : Nat → Nat) (k : Nat) : Nat → Nat := fun j => if j < k then F j else G j
theorem mix_step (n : Nat) (F G : Nat → Nat) (k : Nat) (pre : List Value) : row pre n (upd (mix F G k) k (F k)) = row pre n (mix F G (k + 1)) := by
  apply row_congr
  intro i _
  unfold upd mix
  by_cases h : i = k
  · subst h; simp
  · rw [if_neg h]
    by_cases h2 : i < k
    · rw [if_pos h2, if_pos (by omega)]
    · rw [if_neg h2, if_neg (by omega)]
/-- A train's cells. -/
abbrev tpre (r : Int) (s t : Nat) : List Value := [.int .i8 r, .float .f32 s, .float .f32 t]
abbrev train (r : Int) (s t : Nat) (F : Nat → Nat) : Array Value := row (tpre r s t) 12 F
end Go.Proofs.YtekfmjddlemboaaGreatDoor

/-! Valid trains, as the reference and the program ask it. -/
set_option linter.unusedVariables false
set_option linter.unusedSimpArgs false
namespace Go.Proofs.YtekfmjddlemboaaGreatDoor
open Go.RowKit

def zeroB (x : Nat) : Bool := FloatKind.f32.format.order x 0 == some .eq
theorem zero_yes {x : Nat} (h : zeroB x = true) : FloatKind.f32.format.order x 0 = some .eq := by simpa [zeroB] using h
theorem zero_no {x : Nat} (h : zeroB x = false) : (FloatKind.f32.format.order x 0 == some .eq) = false ∧ (FloatKind.f32.format.order x 0 != some .eq) = true := by
  unfold zeroB at h
  exact ⟨h, by rw [bne, h]; rfl⟩
end Go.Proofs.YtekfmjddlemboaaGreatDoor

/-! Trains that are equal are found equal: eqFloat32A12, eqTrain. -/
set_option linter.unusedVariables false
set_option linter.unusedSimpArgs false
namespace Go.Proofs.YtekfmjddlemboaaGreatDoor
open Go.RowKit Ieee

theorem quiet_same {P : Program} {f : FuncId} {args : Array Value} {w : World} {n : Nat} {v : Value}
    (h : Calls P f args (w.drewN n) fun e w' => e = .returned v ∧ w.drewN n = w') : Calls P f args (w.drewN n) fun e w'' => e = .returned v ∧ ∃ m, w'' = w.drewN m :=
  Calls.quiet_of_same (h.mono fun _ _ x => ⟨x.1, x.2.symm⟩)
theorem bel_drewN {B : Nat} {a w : World} (n : Nat) (h : Below B a w) : Below B a (w.drewN n) := ⟨h.os, h.tape, h.output, h.size, h.block⟩

end Go.Proofs.YtekfmjddlemboaaGreatDoor
