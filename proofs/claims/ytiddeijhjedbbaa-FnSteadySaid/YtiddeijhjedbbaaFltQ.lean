/- A quotient of finite numbers is proved to lie between the numbers of the format about the true quotient; the second number is not 0. -/
import Derived.Test.YtiddeijhjedbbaaFltW
set_option linter.unusedVariables false
set_option linter.unusedSimpArgs false
namespace Flt
open Ieee

theorem two_pow_dvd_or {a b : Nat} : 2 ^ a ∣ 2 ^ b ∨ 2 * 2 ^ b ≤ 2 ^ a := by
  rcases Nat.lt_or_ge b a with h | h
  · right
    have : 2 * 2 ^ b = 2 ^ (b + 1) := by rw [Nat.pow_succ]; omega
    rw [this]; exact Nat.pow_le_pow_right (by omega) h
  · left; exact Nat.pow_dvd_pow 2 h

section
variable (f : Format)

theorem div_bracket {m n k l D r : Nat} (hn : n ≠ 0) :
    let more := f.fractionBits + 2 + n.log2 - m.log2
    let dividend := m <<< more
    let mag := 2 * (dividend / n) + (dividend % n != 0).toNat
    (m * 2 ^ k * 2 ^ D ≤ U f r * (n * 2 ^ l) → mag * 2 ^ (k + D) ≤ U f r * 2 ^ (l + more + 1)) ∧
    (U f r * (n * 2 ^ l) ≤ m * 2 ^ k * 2 ^ D → U f r * 2 ^ (l + more + 1) ≤ mag * 2 ^ (k + D)) := by
  intro more dividend mag
  have hnp : 0 < n := by omega
  obtain ⟨e, q, hr, hq1, hq2⟩ := rung_split f r
  have hU : U f r = q * 2 ^ e := by rw [hr]; exact U_split f hq1 (by omega)
  have hdv : dividend = m * 2 ^ more := Nat.shiftLeft_eq _ _
  have hF := Nat.div_add_mod dividend n
  have hml := Nat.mod_lt dividend hnp
  -- S and T
  have hS0 : 0 < 2 ^ (k + D) := Nat.two_pow_pos _
  have hT0 : 0 < 2 ^ (l + more) := Nat.two_pow_pos _
  have hmp : 0 < 2 ^ more := Nat.two_pow_pos _
  have eA : m * 2 ^ k * 2 ^ D * 2 ^ more = dividend * 2 ^ (k + D) := by rw [hdv, Nat.pow_add]; ac_rfl
  have eB : U f r * (n * 2 ^ l) * 2 ^ more = U f r * 2 ^ (l + more) * n := by rw [Nat.pow_add]; ac_rfl
  have eT : 2 ^ (l + more + 1) = 2 ^ (l + more) * 2 := Nat.pow_succ _ _
  -- the quotient is great, unless m is 0
  have hbig : m ≠ 0 → 2 ^ (f.fractionBits + 1) ≤ dividend / n := by
    intro hm
    have h1 : 2 ^ (f.fractionBits + 2 + n.log2) ≤ dividend := by
      rw [hdv]
      have h2 := Nat.log2_self_le hm
      calc 2 ^ (f.fractionBits + 2 + n.log2) ≤ 2 ^ (m.log2 + more) := Nat.pow_le_pow_right (by omega) (by omega)
        _ = 2 ^ m.log2 * 2 ^ more := Nat.pow_add _ _ _
        _ ≤ m * 2 ^ more := Nat.mul_le_mul_right _ h2
    refine (Nat.le_div_iff_mul_le hnp).2 (Nat.le_trans ?_ h1)
    have h3 : n ≤ 2 ^ (n.log2 + 1) := Nat.le_of_lt Nat.lt_log2_self
    calc 2 ^ (f.fractionBits + 1) * n ≤ 2 ^ (f.fractionBits + 1) * 2 ^ (n.log2 + 1) := Nat.mul_le_mul_left _ h3
      _ = 2 ^ (f.fractionBits + 2 + n.log2) := by rw [← Nat.pow_add]; congr 1; omega
  have hmag : mag = 2 * (dividend / n) + (dividend % n != 0).toNat := rfl
  -- a rung's multiple
  have hdiv : 2 ^ (k + D) ∣ U f r * 2 ^ (l + more) ∨ (2 * (2 ^ e * 2 ^ (l + more)) ≤ 2 ^ (k + D)) := by
    rcases two_pow_dvd_or (a := k + D) (b := e + (l + more)) with h | h
    · left
      rw [hU, Nat.mul_assoc, ← Nat.pow_add]
      exact Nat.dvd_trans h (Nat.dvd_mul_left _ _)
    · right; rw [← Nat.pow_add]; exact h
  have hqb : q < 2 * 2 ^ f.fractionBits := hq2
  have hp1 : 2 ^ (f.fractionBits + 1) = 2 * 2 ^ f.fractionBits := by rw [Nat.pow_succ]; omega
  generalize dividend / n = F at *
  generalize dividend % n = R at *
  generalize hSd : 2 ^ (k + D) = S at *
  generalize hTd : 2 ^ (l + more) = T at *
  rw [eT]
  constructor
  · intro h
    have h1 : dividend * S ≤ U f r * T * n := by
      rw [← eA, ← eB]; exact Nat.mul_le_mul_right _ h
    by_cases hR : R = 0
    · subst hR
      have : mag = 2 * F := by rw [hmag]; simp
      rw [this]
      have h2 : F * S ≤ U f r * T := by
        have : F * S * n ≤ U f r * T * n := by
          calc F * S * n = dividend * S := by rw [← hF]; simp; ac_rfl
            _ ≤ _ := h1
        exact Nat.le_of_mul_le_mul_right this hnp
      calc 2 * F * S = 2 * (F * S) := Nat.mul_assoc _ _ _
        _ ≤ 2 * (U f r * T) := Nat.mul_le_mul_left _ h2
        _ = U f r * (T * 2) := by ac_rfl
    · have hm1 : mag = 2 * F + 1 := by
        rw [hmag]
        have : (R != 0) = true := by simp [hR]
        rw [this]; rfl
      have hm0 : m ≠ 0 := by
        rintro rfl
        have : dividend = 0 := by rw [hdv]; simp
        have h2 : n * F ≥ 0 := Nat.zero_le _
        omega
      have h2 : F * S < U f r * T := by
        have : F * S * n < U f r * T * n := by
          calc F * S * n < dividend * S := by
                rw [← hF, Nat.add_mul]
                have : F * S * n = n * F * S := by ac_rfl
                rw [this]
                have : 0 < R * S := Nat.mul_pos (by omega) hS0
                omega
            _ ≤ _ := h1
        exact Nat.lt_of_mul_lt_mul_right this
      have h3 : (2 * F + 1) * S ≤ 2 * (U f r * T) := by
        rcases hdiv with ⟨c, hc⟩ | hc
        · rw [hc] at h2 ⊢
          rw [Nat.mul_comm F S] at h2
          have : F + 1 ≤ c := Nat.lt_of_mul_lt_mul_left h2
          have := Nat.mul_le_mul_left S this
          rw [Nat.mul_add, Nat.mul_one] at this
          rw [Nat.add_mul, Nat.mul_assoc, Nat.mul_comm F S]
          omega
        · exfalso
          have hb := hbig hm0
          rw [hU] at h2
          have g1 : 2 * 2 ^ f.fractionBits * S ≤ F * S := Nat.mul_le_mul_right _ (by omega)
          have g2 : q * 2 ^ e * T = q * (2 ^ e * T) := Nat.mul_assoc _ _ _
          have g3 : 2 * 2 ^ f.fractionBits * (2 * (2 ^ e * T)) ≤ 2 * 2 ^ f.fractionBits * S := Nat.mul_le_mul_left _ hc
          have g4 : q * (2 ^ e * T) ≤ 2 * 2 ^ f.fractionBits * (2 ^ e * T) := Nat.mul_le_mul_right _ (by omega)
          have g5 : 2 * 2 ^ f.fractionBits * (2 * (2 ^ e * T)) = 2 * (2 * 2 ^ f.fractionBits * (2 ^ e * T)) := by ac_rfl
          omega
      rw [hm1]
      calc _ ≤ 2 * (U f r * T) := h3
        _ = U f r * (T * 2) := by ac_rfl
  · intro h
    have h1 : U f r * T * n ≤ dividend * S := by
      rw [← eA, ← eB]; exact Nat.mul_le_mul_right _ h
    have h3 : U f r * T ≤ F * S := by
      by_cases hR : R = 0
      · subst hR
        have : U f r * T * n ≤ F * S * n := by
          calc _ ≤ dividend * S := h1
            _ = F * S * n := by rw [← hF]; simp; ac_rfl
        exact Nat.le_of_mul_le_mul_right this hnp
      · have hm0 : m ≠ 0 := by
          rintro rfl
          have : dividend = 0 := by rw [hdv]; simp
          have h2 : n * F ≥ 0 := Nat.zero_le _
          omega
        have h2 : U f r * T < (F + 1) * S := by
          have : U f r * T * n < (F + 1) * S * n := by
            calc _ ≤ dividend * S := h1
              _ < (F + 1) * S * n := by
                have : (F + 1) * S * n = (n * F + n) * S := by rw [Nat.add_mul, Nat.add_mul, Nat.add_mul]; ac_rfl
                rw [this]
                exact Nat.mul_lt_mul_of_pos_right (by omega) hS0
          exact Nat.lt_of_mul_lt_mul_right this
        rcases hdiv with ⟨c, hc⟩ | hc
        · rw [hc] at h2 ⊢
          rw [Nat.mul_comm (F + 1) S] at h2
          have : c < F + 1 := Nat.lt_of_mul_lt_mul_left h2
          rw [Nat.mul_comm F S]
          exact Nat.mul_le_mul_left _ (by omega)
        · have hb := hbig hm0
          rw [hU]
          have g2 : q * 2 ^ e * T = q * (2 ^ e * T) := Nat.mul_assoc _ _ _
          have g4 : q * (2 ^ e * T) ≤ 2 * 2 ^ f.fractionBits * (2 ^ e * T) := Nat.mul_le_mul_right _ (by omega)
          have g5 : 2 * 2 ^ f.fractionBits * (2 ^ e * T) = 2 ^ f.fractionBits * (2 * (2 ^ e * T)) := by ac_rfl
          have g6 : 2 ^ f.fractionBits * (2 * (2 ^ e * T)) ≤ 2 ^ f.fractionBits * S := Nat.mul_le_mul_left _ hc
          have g7 : 2 ^ f.fractionBits * S ≤ F * S := Nat.mul_le_mul_right _ (by omega)
          omega
    have h4 : 2 * F ≤ mag := by rw [hmag]; omega
    calc U f r * (T * 2) = 2 * (U f r * T) := by ac_rfl
      _ ≤ 2 * (F * S) := Nat.mul_le_mul_left _ h3
      _ = 2 * F * S := by ac_rfl
      _ ≤ mag * S := Nat.mul_le_mul_right _ h4

/-- A quotient of two finite numbers, the second not 0: some word between the rungs that lie about the true quotient. -/
theorem div_fin {x y D : Nat} (hD : f.leastPlace = -(D : Int)) (hx : Fin f x) (hy : Fin f y) (h0 : Z f y ≠ 0) :
    ∃ g, f.div x y = some (f.word (neg f x ^^ neg f y) g) ∧ g ≤ f.infRung ∧
      ∀ r, r ≤ f.infRung → ((Z f x).natAbs * 2 ^ D ≤ U f r * (Z f y).natAbs → g ≤ r) ∧ (U f r * (Z f y).natAbs ≤ (Z f x).natAbs * 2 ^ D → r ≤ g) := by
  obtain ⟨m, k, e1, u1⟩ := read_fin f hx
  obtain ⟨n, l, e2, u2⟩ := read_fin f hy
  have a : (Z f x).natAbs = m * 2 ^ k := by rw [u1]; unfold Z sg; split <;> simp
  have b : (Z f y).natAbs = n * 2 ^ l := by rw [u2]; unfold Z sg; split <;> simp
  have hn : n ≠ 0 := by
    rintro rfl
    apply h0
    simp at b
    exact b
  refine ⟨G f ((2 * ((m <<< (f.fractionBits + 2 + n.log2 - m.log2)) / n) + ((m <<< (f.fractionBits + 2 + n.log2 - m.log2)) % n != 0).toNat) * 2 ^ (k + D)) (l + (f.fractionBits + 2 + n.log2 - m.log2) + 1), ?_, ?_, ?_⟩
  · unfold Format.div
    rw [e1, e2]
    simp only [Datum.quotient, if_neg hn, Option.map_some, Format.write]
    rw [nearest_eq f _ _ _ (k + D) (l + (f.fractionBits + 2 + n.log2 - m.log2) + 1) (by omega)]
  · unfold G; omega
  · intro r hr
    have h := div_bracket f (m := m) (n := n) (k := k) (l := l) (D := D) (r := r) hn
    rw [a, b]
    exact ⟨fun h1 => G_le_rung f (h.1 h1) hr, fun h1 => rung_le_G f (h.2 h1) hr⟩
end
end Flt
