/- Rounding to a binary format is proved to be monotone, exact at the numbers of the format, and near; no condition. -/
import Ieee.Arith
set_option linter.unusedVariables false
set_option linter.unusedSimpArgs false
namespace Flt
open Ieee

/-- n / 2^k, to the nearest, ties to even. -/
def rne (n k : Nat) : Nat := n / 2 ^ k + (if 2 ^ k < 2 * (n % 2 ^ k) ∨ (2 ^ k = 2 * (n % 2 ^ k) ∧ n / 2 ^ k % 2 = 1) then 1 else 0)

theorem rne_zero (k : Nat) : rne 0 k = 0 := by
  simp [rne]

theorem rne_bounds (n k : Nat) : 2 * (rne n k * 2 ^ k) ≤ 2 * n + 2 ^ k ∧ 2 * n ≤ 2 * (rne n k * 2 ^ k) + 2 ^ k := by
  have h : 0 < 2 ^ k := Nat.two_pow_pos k
  have e := Nat.div_add_mod n (2 ^ k)
  have l := Nat.mod_lt n h
  unfold rne
  generalize 2 ^ k = g at *
  generalize n / g = q at *
  generalize n % g = r at *
  rw [Nat.mul_comm] at e
  split
  · rw [Nat.add_mul, Nat.one_mul]; omega
  · rw [Nat.add_mul, Nat.zero_mul]; omega

theorem rne_mono {n m : Nat} (k : Nat) (h : n ≤ m) : rne n k ≤ rne m k := by
  have hg : 0 < 2 ^ k := Nat.two_pow_pos k
  have e1 := Nat.div_add_mod n (2 ^ k)
  have e2 := Nat.div_add_mod m (2 ^ k)
  have l1 := Nat.mod_lt n hg
  have l2 := Nat.mod_lt m hg
  have hq := Nat.div_le_div_right (c := 2 ^ k) h
  unfold rne
  generalize 2 ^ k = g at *
  by_cases hlt : n / g < m / g
  · split <;> split <;> omega
  · have he : n / g = m / g := by omega
    rw [he] at e1 ⊢
    generalize g * (m / g) = x at *
    split <;> split <;> omega

theorem rne_scale (n k j : Nat) : rne (n * 2 ^ j) (k + j) = rne n k := by
  have hj : 0 < 2 ^ j := Nat.two_pow_pos j
  unfold rne
  rw [Nat.pow_add, Nat.mul_div_mul_right _ _ hj, Nat.mul_mod_mul_right]
  have a : (2 ^ k * 2 ^ j < 2 * (n % 2 ^ k * 2 ^ j)) ↔ (2 ^ k < 2 * (n % 2 ^ k)) := by
    rw [← Nat.mul_assoc]; exact Nat.mul_lt_mul_right hj
  have b : (2 ^ k * 2 ^ j = 2 * (n % 2 ^ k * 2 ^ j)) ↔ (2 ^ k = 2 * (n % 2 ^ k)) := by
    rw [← Nat.mul_assoc]; exact ⟨fun h => Nat.eq_of_mul_eq_mul_right hj h, fun h => congrArg (· * 2 ^ j) h⟩
  simp only [a, b]

theorem rne_exact (q k : Nat) : rne (q * 2 ^ k) k = q := by
  have h : 0 < 2 ^ k := Nat.two_pow_pos k
  unfold rne
  rw [Nat.mul_div_cancel _ h, Nat.mul_mod_left]
  simp

/-- A great divisor leaves nothing. -/
theorem rne_small (n k : Nat) (h : 2 * n < 2 ^ k) : rne n k = 0 := by
  unfold rne
  rw [Nat.div_eq_of_lt (by omega), Nat.mod_eq_of_lt (by omega)]
  simp; omega

theorem cut_even (neg : Bool) (n k : Nat) : Toward.even.cut neg n k = rne n k := by
  unfold Toward.cut
  have key : ∀ g j, g = 2 ^ j → (n / g + (decide (g < 2 * (n % g)) || (g == 2 * (n % g) && n / g % 2 == 1)).toNat) = rne n j := by
    rintro g j rfl
    unfold rne
    congr 1
    generalize 2 ^ j = g
    generalize n / g = q
    generalize n % g = r
    by_cases h1 : g < 2 * r
    · simp [h1]
    · by_cases h2 : g = 2 * r
      · by_cases h3 : q % 2 = 1
        · rw [if_pos (Or.inr ⟨h2, h3⟩)]; simp [← h2, h3]
        · rw [if_neg (by simp [h1, h3])]; simp [← h2, h3]
      · rw [if_neg (by simp [h1, h2])]; simp [h1, h2]
  have hs : 1 <<< min k (n.log2 + 2) = 2 ^ min k (n.log2 + 2) := by simp [Nat.shiftLeft_eq]
  have := key _ _ hs
  by_cases hk : k ≤ n.log2 + 2
  · rw [Nat.min_eq_left hk] at this ⊢
    exact this
  · rw [Nat.min_eq_right (by omega)] at this ⊢
    refine Eq.trans this ?_
    have hn : n < 2 ^ (n.log2 + 1) := Nat.lt_log2_self
    have h2 : 2 * n < 2 ^ (n.log2 + 2) := by rw [Nat.pow_succ]; omega
    have h3 : 2 ^ (n.log2 + 2) ≤ 2 ^ k := Nat.pow_le_pow_right (by omega) (by omega)
    rw [rne_small _ _ h2, rne_small _ _ (by omega)]

section
variable (f : Format)

/-- The units (multiples of the least number) of a rung. -/
def U (r : Nat) : Nat := if r < f.binade then r else (f.binade + r % f.binade) * 2 ^ (r / f.binade - 1)

theorem binade_pos : 0 < f.binade := Nat.two_pow_pos _

theorem U_small {r : Nat} (h : r ≤ 2 * f.binade) : U f r = r := by
  have hb := binade_pos f
  unfold U
  split
  · rfl
  · rename_i h1
    by_cases h2 : r = 2 * f.binade
    · subst h2
      have : 2 * f.binade / f.binade = 2 := Nat.mul_div_cancel _ hb
      rw [this, Nat.mul_mod_left]; omega
    · have h3 : r / f.binade = 1 := by
        have : r / f.binade < 2 := (Nat.div_lt_iff_lt_mul hb).2 (by omega)
        have : 1 ≤ r / f.binade := (Nat.le_div_iff_mul_le hb).2 (by omega)
        omega
      have h4 := Nat.div_add_mod r f.binade
      rw [h3] at h4 ⊢
      simp; omega

theorem U_split {e q : Nat} (h : (e = 0 ∨ f.binade ≤ q)) (hq : q ≤ 2 * f.binade) : U f (e * f.binade + q) = q * 2 ^ e := by
  have hb := binade_pos f
  rcases Nat.eq_zero_or_pos e with rfl | he
  · simp [U_small f hq]
  · have hq0 : f.binade ≤ q := by omega
    unfold U
    have h1 : ¬ (e * f.binade + q < f.binade) := by
      have := Nat.mul_le_mul_right f.binade he
      omega
    rw [if_neg h1]
    by_cases h2 : q = 2 * f.binade
    · subst h2
      rw [← Nat.add_mul, Nat.mul_div_cancel _ hb, Nat.mul_mod_left]
      have : e + 2 - 1 = e + 1 := by omega
      rw [this, Nat.pow_succ, Nat.add_zero, ← Nat.mul_assoc, Nat.mul_comm 2, Nat.mul_assoc, Nat.mul_assoc, Nat.mul_comm 2]
    · have h3 : q / f.binade = 1 := by
        have : q / f.binade < 2 := (Nat.div_lt_iff_lt_mul hb).2 (by omega)
        have : 1 ≤ q / f.binade := (Nat.le_div_iff_mul_le hb).2 (by omega)
        omega
      have h4 := Nat.div_add_mod q f.binade
      rw [h3] at h4
      rw [Nat.add_comm (e * f.binade) q, Nat.add_mul_mod_self_right, Nat.add_mul_div_right _ _ hb, h3]
      have : 1 + e - 1 = e := by omega
      rw [this]
      congr 1; omega

/-- Every rung is a binade's number and a significand. -/
theorem rung_split (r : Nat) : ∃ e q, r = e * f.binade + q ∧ (e = 0 ∨ f.binade ≤ q) ∧ q < 2 * f.binade := by
  have hb := binade_pos f
  by_cases h : r < f.binade
  · exact ⟨0, r, by omega, Or.inl rfl, by omega⟩
  · have h4 := Nat.div_add_mod r f.binade
    have h5 := Nat.mod_lt r hb
    have h6 : 1 ≤ r / f.binade := (Nat.le_div_iff_mul_le hb).2 (by omega)
    refine ⟨r / f.binade - 1, f.binade + r % f.binade, ?_, Or.inr (by omega), by omega⟩
    have : (r / f.binade - 1) * f.binade + f.binade = r / f.binade * f.binade := by
      have : r / f.binade = r / f.binade - 1 + 1 := by omega
      rw [this, Nat.add_mul, Nat.one_mul, Nat.add_sub_cancel]
    rw [Nat.mul_comm] at h4
    omega

theorem binade_eq : f.binade = 2 ^ f.fractionBits := rfl

/-- The word that a rounded number gets: the number is n / 2^d units. -/
def ex (n d : Nat) : Nat := n.log2 - (d + f.fractionBits)
def G0 (n d : Nat) : Nat := ex f n d * f.binade + rne n (d + ex f n d)
def G (n d : Nat) : Nat := min (G0 f n d) f.infRung

theorem ex_lt {n d : Nat} : n < 2 ^ (d + f.fractionBits + ex f n d + 1) := by
  have h : n < 2 ^ (n.log2 + 1) := Nat.lt_log2_self
  refine Nat.lt_of_lt_of_le h (Nat.pow_le_pow_right (by omega) ?_)
  unfold ex; omega

theorem ex_ge {n d : Nat} (h : ex f n d ≠ 0) : 2 ^ (d + f.fractionBits + ex f n d) ≤ n := by
  have hn : n ≠ 0 := by
    rintro rfl
    exact h (by simp [ex])
  have h2 := Nat.log2_self_le hn
  refine Nat.le_trans (Nat.pow_le_pow_right (by omega) ?_) h2
  unfold ex at *; omega

theorem rne_le_two (n d : Nat) : rne n (d + ex f n d) ≤ 2 * f.binade := by
  have h := (rne_mono (d + ex f n d) (Nat.le_of_lt (ex_lt f (n := n) (d := d))))
  refine Nat.le_trans h (Nat.le_of_eq ?_)
  have : d + f.fractionBits + ex f n d + 1 = (f.fractionBits + 1) + (d + ex f n d) := by omega
  rw [this, Nat.pow_add, rne_exact, Nat.pow_succ, binade_eq]; omega

theorem rne_ge_one (n d : Nat) (h : ex f n d ≠ 0) : f.binade ≤ rne n (d + ex f n d) := by
  have h := (rne_mono (d + ex f n d) (ex_ge f h))
  refine Nat.le_trans (Nat.le_of_eq ?_) h
  have : d + f.fractionBits + ex f n d = f.fractionBits + (d + ex f n d) := by omega
  rw [this, Nat.pow_add, rne_exact, binade_eq]

/-- What a rounded number is, in units. -/
theorem U_G0 (n d : Nat) : U f (G0 f n d) = rne n (d + ex f n d) * 2 ^ ex f n d := by
  refine U_split f ?_ (rne_le_two f n d)
  by_cases h : ex f n d = 0
  · exact Or.inl h
  · exact Or.inr (rne_ge_one f n d h)

theorem log2_mono {n m : Nat} (h : n ≤ m) : n.log2 ≤ m.log2 := by
  rcases Nat.eq_zero_or_pos n with rfl | hn
  · simp
  · exact (Nat.le_log2 (by omega)).2 (Nat.le_trans (Nat.log2_self_le (by omega)) h)

theorem ex_mono {n m : Nat} (d : Nat) (h : n ≤ m) : ex f n d ≤ ex f m d := by
  have := log2_mono h
  unfold ex; omega

theorem G0_mono {n m : Nat} (d : Nat) (h : n ≤ m) : G0 f n d ≤ G0 f m d := by
  have he := ex_mono f d h
  by_cases heq : ex f n d = ex f m d
  · unfold G0; rw [heq]
    exact Nat.add_le_add_left (rne_mono _ h) _
  · have h1 := rne_le_two f n d
    have h2 := rne_ge_one f m d (by omega)
    have h3 : (ex f n d + 1) * f.binade ≤ ex f m d * f.binade := Nat.mul_le_mul_right _ (by omega)
    rw [Nat.add_mul] at h3
    unfold G0; omega

theorem log2_scale (n j : Nat) (h : n ≠ 0) : (n * 2 ^ j).log2 = n.log2 + j := by
  have hj : 0 < 2 ^ j := Nat.two_pow_pos j
  refine (Nat.log2_eq_iff (Nat.mul_ne_zero h (by omega))).2 ⟨?_, ?_⟩
  · rw [Nat.pow_add]; exact Nat.mul_le_mul_right _ (Nat.log2_self_le h)
  · have : n.log2 + j + 1 = (n.log2 + 1) + j := by omega
    rw [this, Nat.pow_add]; exact Nat.mul_lt_mul_of_pos_right Nat.lt_log2_self hj

theorem ex_scale (n d j : Nat) : ex f (n * 2 ^ j) (d + j) = ex f n d := by
  by_cases h : n = 0
  · subst h; simp [ex]
  · unfold ex; rw [log2_scale n j h]; omega

theorem G0_scale (n d j : Nat) : G0 f (n * 2 ^ j) (d + j) = G0 f n d := by
  unfold G0
  rw [ex_scale]
  have : d + j + ex f n d = (d + ex f n d) + j := by omega
  rw [this, rne_scale]

theorem G_scale (n d j : Nat) : G f (n * 2 ^ j) (d + j) = G f n d := by unfold G; rw [G0_scale]

theorem G0_le {n m d c : Nat} (h : n * 2 ^ c ≤ m * 2 ^ d) : G0 f n d ≤ G0 f m c := by
  rw [← G0_scale f n d c, ← G0_scale f m c d, Nat.add_comm c d]
  exact G0_mono f _ h

theorem G_le {n m d c : Nat} (h : n * 2 ^ c ≤ m * 2 ^ d) : G f n d ≤ G f m c := by
  have := G0_le f h
  unfold G; omega

theorem G0_exact (r : Nat) : G0 f (U f r) 0 = r := by
  obtain ⟨e, q, rfl, h1, h2⟩ := rung_split f r
  have hb := binade_pos f
  rw [U_split f h1 (by omega)]
  have hx : ex f (q * 2 ^ e) 0 = e := by
    by_cases hq : q = 0
    · subst hq
      have : e = 0 := by omega
      subst this; simp [ex]
    · unfold ex
      rw [log2_scale q e hq]
      have hl : q.log2 < f.fractionBits + 1 := (Nat.log2_lt hq).2 (by rw [Nat.pow_succ, ← binade_eq]; omega)
      rcases h1 with rfl | h1
      · omega
      · have : f.fractionBits ≤ q.log2 := (Nat.le_log2 hq).2 (by rw [← binade_eq]; exact h1)
        omega
  unfold G0
  rw [hx, Nat.zero_add, rne_exact]

theorem G_exact (r : Nat) (h : r ≤ f.infRung) : G f (U f r) 0 = r := by
  unfold G; rw [G0_exact]; omega

theorem G_exact' (r d : Nat) (h : r ≤ f.infRung) : G f (U f r * 2 ^ d) d = r := by
  have := G_scale f (U f r) 0 d
  rw [Nat.zero_add] at this
  rw [this, G_exact f r h]

theorem U_mono {r s : Nat} (h : U f r ≤ U f s) : r ≤ s := by
  rw [← G0_exact f r, ← G0_exact f s]
  exact G0_mono f 0 h

theorem U_lt {r s : Nat} (h : r < s) : U f r < U f s := by
  apply Nat.lt_of_not_le
  intro h'
  have := U_mono f h'
  omega

theorem U_le {r s : Nat} (h : r ≤ s) : U f r ≤ U f s := by
  rcases Nat.lt_or_eq_of_le h with h | rfl
  · exact Nat.le_of_lt (U_lt f h)
  · exact Nat.le_refl _

theorem U_zero : U f 0 = 0 := by simp [U, binade_pos f]

/-- Rounding up is never past a rung that is above. -/
theorem G_le_rung {n d r : Nat} (h : n ≤ U f r * 2 ^ d) (hr : r ≤ f.infRung) : G f n d ≤ r := by
  have := G_le f (n := n) (m := U f r) (d := d) (c := 0) (by simpa using h)
  rwa [G_exact f r hr] at this

theorem rung_le_G {n d r : Nat} (h : U f r * 2 ^ d ≤ n) (hr : r ≤ f.infRung) : r ≤ G f n d := by
  have := G_le f (n := U f r) (m := n) (d := 0) (c := d) (by simpa using h)
  rwa [G_exact f r hr] at this

/-- The error of a rounding, where nothing overflows. -/
theorem U_G0_err (n d : Nat) : 2 * (U f (G0 f n d) * 2 ^ d) ≤ 2 * n + 2 ^ (d + ex f n d) ∧ 2 * n ≤ 2 * (U f (G0 f n d) * 2 ^ d) + 2 ^ (d + ex f n d) := by
  have h := rne_bounds n (d + ex f n d)
  rw [U_G0]
  have : rne n (d + ex f n d) * 2 ^ ex f n d * 2 ^ d = rne n (d + ex f n d) * 2 ^ (d + ex f n d) := by
    rw [Nat.mul_assoc, Nat.pow_add, Nat.mul_comm (2 ^ d)]
  rw [this]; exact h

theorem ex_le {n d t : Nat} (h : n < 2 ^ (d + f.fractionBits + t + 1)) : ex f n d ≤ t := by
  by_cases hn : n = 0
  · subst hn; simp [ex]
  · have := (Nat.log2_lt hn).2 h
    unfold ex; omega

theorem pos_infRung (he : 1 ≤ f.exponentBits) : 0 < f.infRung := by
  unfold Format.infRung
  have : 2 ≤ 2 ^ f.exponentBits := by
    calc 2 = 2 ^ 1 := rfl
      _ ≤ 2 ^ f.exponentBits := Nat.pow_le_pow_right (by omega) he
  exact Nat.mul_pos (by omega) (binade_pos f)

theorem nearest_eq (neg : Bool) (mag : Nat) (place : Int) (k d : Nat) (h : place = f.leastPlace + k - d) :
    f.nearest neg mag place = f.word neg (G f (mag * 2 ^ k) d) := by
  unfold Format.nearest
  split
  · rename_i h0
    subst h0
    have : G f (0 * 2 ^ k) d = 0 := by
      have : G0 f 0 d = 0 := by simp [G0, ex, rne_zero]
      simp [G, this]
    rw [this]
  · rename_i h0
    dsimp only
    rw [cut_even]
    congr 1
    unfold G
    congr 1
    -- bring both to one denominator
    have hl := log2_scale mag k h0
    -- the exponent
    have hex : (max (place + mag.log2 - f.fractionBits) f.leastPlace - f.leastPlace).toNat = ex f (mag * 2 ^ k) d := by
      unfold ex; rw [hl]; omega
    unfold G0
    rw [hex]
    congr 1
    have hlast : max (place + mag.log2 - f.fractionBits) f.leastPlace = f.leastPlace + ex f (mag * 2 ^ k) d := by
      unfold ex; rw [hl]; omega
    rw [hlast]
    generalize hE : ex f (mag * 2 ^ k) d = E
    rw [Nat.shiftLeft_eq]
    -- place - last = k - d - E
    have e1 : (place - (f.leastPlace + (E : Int))).toNat = k - (d + E) := by omega
    have e2 : ((f.leastPlace + (E : Int)) - place).toNat = (d + E) - k := by omega
    rw [e1, e2]
    rcases Nat.le_total k (d + E) with hk | hk
    · have : k - (d + E) = 0 := by omega
      rw [this, Nat.pow_zero, Nat.mul_one]
      have := rne_scale mag (d + E - k) k
      rw [Nat.sub_add_cancel hk] at this
      exact this.symm
    · have : d + E - k = 0 := by omega
      rw [this]
      have := rne_scale (mag * 2 ^ (k - (d + E))) 0 (d + E)
      rw [Nat.mul_assoc, ← Nat.pow_add, Nat.sub_add_cancel hk, Nat.zero_add] at this
      exact this.symm
end
end Flt
