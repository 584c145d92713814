/- A number of the narrow format is proved to be the same number in the wide one, and to come back; words that are equal numbers of one sign are one word. No NaN. -/
import Derived.Test.YtiddeijhjedbbaaFltQ
set_option linter.unusedVariables false
set_option linter.unusedSimpArgs false
namespace Flt
open Ieee
section
variable (f : Format)
/-- a number of few digits is met exactly -/
theorem U_G0_short {q e : Nat} (hq : q < 2 * f.binade) : U f (G0 f (q * 2 ^ e) 0) = q * 2 ^ e := by
  rw [U_G0, Nat.zero_add]
  by_cases h0 : q = 0
  · subst h0; simp [rne_zero]
  · have hx : ex f (q * 2 ^ e) 0 ≤ e := by
      unfold ex
      rw [log2_scale q e h0]
      have : q.log2 < f.fractionBits + 1 := (Nat.log2_lt h0).2 (by rw [Nat.pow_succ, ← binade_eq]; omega)
      omega
    have hs : q * 2 ^ e = q * 2 ^ (e - ex f (q * 2 ^ e) 0) * 2 ^ ex f (q * 2 ^ e) 0 := by
      rw [Nat.mul_assoc, ← Nat.pow_add, Nat.sub_add_cancel hx]
    generalize ex f (q * 2 ^ e) 0 = x at *
    rw [hs, rne_exact]

theorem G_short {q e : Nat} (hq : q < 2 * f.binade) (hU : q * 2 ^ e ≤ U f f.infRung) : U f (G f (q * 2 ^ e) 0) = q * 2 ^ e := by
  have h := U_G0_short f (q := q) (e := e) hq
  have : G0 f (q * 2 ^ e) 0 ≤ f.infRung := U_mono f (by rw [h]; exact hU)
  unfold G
  rw [Nat.min_eq_left this, h]

theorem U_two {r : Nat} : ∃ q e, q < 2 * f.binade ∧ U f r = q * 2 ^ e := by
  obtain ⟨e, q, rfl, h1, h2⟩ := rung_split f r
  exact ⟨q, e, h2, U_split f h1 (by omega)⟩

theorem word_inj {x y : Nat} (hx : x < 2 * f.signWeight) (hy : y < 2 * f.signWeight) (hn : neg f x = neg f y) (hz : Z f x = Z f y) : x = y := by
  rw [← word_rung f x hx, ← word_rung f y hy, hn]
  congr 1
  unfold Z sg at hz
  rw [hn] at hz
  have : U f (rung f x) = U f (rung f y) := by
    split at hz <;> omega
  have h1 := U_mono f (Nat.le_of_eq this)
  have h2 := U_mono f (Nat.le_of_eq this.symm)
  omega
theorem word_nan (n : Bool) {r : Nat} (h : r ≤ f.infRung) : ¬ NaN f (f.word n r) := by
  have := infRung_lt' f
  unfold NaN
  rw [rung_word f n (by omega)]
  omega
end

/-- The wide word of a narrow one that is no NaN. -/
def widen (w : Nat) : Nat := double.write (single.read w)

def eS : Nat := 277
def eD : Nat := 2098
def eK : Nat := 925
theorem eS_eq : eS = 277 := rfl
theorem eD_eq : eD = 2098 := rfl
theorem eK_eq : eK = 925 := rfl
theorem single_inf : U single single.infRung = 2 ^ eS := by decide +kernel
theorem double_inf : U double double.infRung = 2 ^ eD := by decide +kernel

theorem widen_inf {w : Nat} (h : rung single w = single.infRung) : widen w = double.word (neg single w) double.infRung := by
  unfold widen
  rw [read_inf single (by decide) h]; rfl

theorem widen_fin {w : Nat} (h : Fin single w) : ∃ g, widen w = double.word (neg single w) g ∧ g < double.infRung ∧ U double g = U single (rung single w) * 2 ^ eK := by
  obtain ⟨m, k, e1, u1⟩ := read_fin single h
  have hlt := U_lt single h
  rw [single_inf] at hlt
  obtain ⟨q, e, hq, hU⟩ := U_two single (r := rung single w)
  have hw : widen w = double.word (neg single w) (G double (m * 2 ^ (k + eK)) 0) := by
    unfold widen
    rw [e1]
    simp only [Format.write]
    rw [nearest_eq double _ _ _ (k + eK) 0 (by show (2 - 2 ^ (8 - 1) - 23 : Int) + k = 2 - 2 ^ (11 - 1) - 52 + ((k + eK : Nat) : Int) - (0 : Nat); rw [eK_eq]; omega)]
  have hm : m * 2 ^ (k + eK) = q * 2 ^ (e + eK) := by
    rw [Nat.pow_add, Nat.pow_add, ← Nat.mul_assoc, ← Nat.mul_assoc, u1, hU]
  have hle : q * 2 ^ (e + eK) < 2 ^ eD := by
    rw [Nat.pow_add, ← Nat.mul_assoc, ← hU]
    calc U single (rung single w) * 2 ^ eK < 2 ^ eS * 2 ^ eK := Nat.mul_lt_mul_of_pos_right hlt (Nat.two_pow_pos _)
      _ ≤ 2 ^ eD := by rw [← Nat.pow_add]; exact Nat.pow_le_pow_right (by omega) (by rw [eS_eq, eK_eq, eD_eq]; omega)
  have hq2 : q < 2 * double.binade := by
    have h1 : 2 * single.binade = 2 ^ 24 := by decide
    have h2 : 2 * double.binade = 2 ^ 53 := by decide
    omega
  rw [hm] at hw
  have hG := G_short double hq2 (Nat.le_of_lt (by rw [double_inf]; exact hle))
  refine ⟨_, hw, ?_, ?_⟩
  · apply Nat.lt_of_not_le
    intro h'
    have := U_le double h'
    rw [hG, double_inf] at this
    omega
  · rw [hG, hU, Nat.mul_assoc, ← Nat.pow_add]

theorem widen_neg {w : Nat} (h : ¬ NaN single w) : neg double (widen w) = neg single w := by
  rcases not_nan single h with h | h
  · obtain ⟨g, e, hg, _⟩ := widen_fin h
    rw [e, neg_word double _ (by have := infRung_lt' double; omega)]
  · rw [widen_inf h, neg_word double _ (infRung_lt' double)]
theorem widen_nan {w : Nat} (h : ¬ NaN single w) : ¬ NaN double (widen w) := by
  rcases not_nan single h with h | h
  · obtain ⟨g, e, hg, _⟩ := widen_fin h
    rw [e]; exact word_nan double _ (by omega)
  · rw [widen_inf h]; exact word_nan double _ (Nat.le_refl _)
theorem widen_Z {w : Nat} (h : Fin single w) : Z double (widen w) = Z single w * 2 ^ eK := by
  obtain ⟨g, e, hg, hu⟩ := widen_fin h
  rw [e, Z_word double _ (by have := infRung_lt' double; omega), hu]
  unfold Z sg
  split
  · rw [Int.neg_mul, Int.natCast_mul, Int.natCast_pow]; rfl
  · rw [Int.natCast_mul, Int.natCast_pow]; rfl
theorem widen_fin' {w : Nat} (h : Fin single w) : Fin double (widen w) := by
  obtain ⟨g, e, hg, hu⟩ := widen_fin h
  unfold Fin
  rw [e, rung_word double _ (by have := infRung_lt' double; omega)]
  exact hg

/-- ... and back. -/
theorem narrow {w : Nat} (hw : w < 2 ^ 32) (h : ¬ NaN single w) : single.write (double.read (widen w)) = w := by
  have hs : 2 * single.signWeight = 2 ^ 32 := by decide
  rcases not_nan single h with h | h
  · have hfd := widen_fin' h
    obtain ⟨g, e, hg, hu⟩ := widen_fin h
    obtain ⟨m, k, e1, u1⟩ := read_fin double hfd
    rw [e1]
    have hn := widen_neg (w := w) (by unfold NaN; unfold Fin at h; omega)
    rw [hn]
    simp only [Format.write]
    have hrg : rung double (widen w) = g := by rw [e, rung_word double _ (by have := infRung_lt' double; omega)]
    rw [hrg, hu] at u1
    rw [nearest_eq single _ _ _ k eK (by show (2 - 2 ^ (11 - 1) - 52 : Int) + k = 2 - 2 ^ (8 - 1) - 23 + (k : Int) - (eK : Nat); rw [eK_eq]; omega)]
    rw [u1]
    rw [G_exact' single _ _ (by unfold Fin at h; omega)]
    exact word_rung single w (by omega)
  · have hr : rung double (widen w) = double.infRung := by rw [widen_inf h, rung_word double _ (infRung_lt' double)]
    rw [read_inf double (by decide) hr]
    have hn := widen_neg (w := w) (by unfold NaN; omega)
    rw [hn]
    simp only [Format.write]
    rw [← h]
    exact word_rung single w (by omega)
end Flt
