/- How far a sum of narrow numbers is from the true one, and sums of many; the numbers are finite and bounded. -/
import Derived.Test.YtiddeijhjedbbaaFOps
set_option linter.unusedVariables false
set_option linter.unusedSimpArgs false
namespace Go.Proofs.Ytiddeijhjedbbaa
open Go.RowKit Ieee

theorem RZ_err {z : Int} {d t : Nat} (ht : t ≤ 240) (hz : z.natAbs < 2 ^ (d + 24 + t)) : 2 * (Flt.RZ single z d * 2 ^ d - z) ≤ 2 ^ (d + t) ∧ 2 * (z - Flt.RZ single z d * 2 ^ d) ≤ 2 ^ (d + t) := by
  have hex : Flt.ex single z.natAbs d ≤ t := Flt.ex_le single (by
    have : d + single.fractionBits + t + 1 = d + 24 + t := by show d + 23 + t + 1 = _; omega
    rw [this]; exact hz)
  obtain ⟨h1, h2⟩ := Flt.U_G0_err single z.natAbs d
  have hpow : (2 : Nat) ^ (d + Flt.ex single z.natAbs d) ≤ 2 ^ (d + t) := Nat.pow_le_pow_right (by omega) (by omega)
  -- nothing is cut off
  have hclip : Flt.G single z.natAbs d = Flt.G0 single z.natAbs d := by
    unfold Flt.G
    apply Nat.min_eq_left
    apply Flt.U_mono single
    rw [Flt.single_inf]
    have hd : 0 < 2 ^ d := Nat.two_pow_pos d
    have h3 : Flt.U single (Flt.G0 single z.natAbs d) * 2 ^ d ≤ 2 ^ Flt.eS * 2 ^ d := by
      have h4 : 2 ^ (d + 24 + t) ≤ 2 ^ Flt.eS * 2 ^ d / 4 := by
        have e : 2 ^ Flt.eS * 2 ^ d = 4 * 2 ^ (275 + d) := by
          rw [← Nat.pow_add, show Flt.eS + d = 2 + (275 + d) from by have := Flt.eS_eq; omega, Nat.pow_add]
        rw [e, Nat.mul_div_cancel_left _ (by omega)]
        exact Nat.pow_le_pow_right (by omega) (by omega)
      have h5 : 2 ^ (d + t) ≤ 2 ^ (d + 24 + t) := Nat.pow_le_pow_right (by omega) (by omega)
      omega
    exact Nat.le_of_mul_le_mul_right h3 hd
  unfold Flt.RZ
  rw [hclip]
  generalize Flt.U single (Flt.G0 single z.natAbs d) = u at *
  have c1 : 2 * ((u : Int) * 2 ^ d) ≤ 2 * z.natAbs + 2 ^ (d + t) := by
    have : 2 * (u * 2 ^ d) ≤ 2 * z.natAbs + 2 ^ (d + t) := by omega
    exact_mod_cast this
  have c2 : 2 * (z.natAbs : Int) ≤ 2 * ((u : Int) * 2 ^ d) + 2 ^ (d + t) := by
    have : 2 * z.natAbs ≤ 2 * (u * 2 ^ d) + 2 ^ (d + t) := by omega
    exact_mod_cast this
  unfold Flt.sg
  by_cases hn : z < 0
  · simp only [hn, decide_true, if_true]
    rw [Int.neg_mul]
    generalize (u : Int) * 2 ^ d = v at *
    generalize (2 : Int) ^ (d + t) = q at *
    omega
  · simp only [hn, decide_false, Bool.false_eq_true, if_false]
    generalize (u : Int) * 2 ^ d = v at *
    generalize (2 : Int) ^ (d + t) = q at *
    omega

theorem fadd_err {x y : Nat} {t : Nat} (ht : t ≤ 240) (hx : Fin32 x) (hy : Fin32 y) (hz : (Z32 x + Z32 y).natAbs < 2 ^ (24 + t)) :
    2 * (Z32 (fadd x y) - (Z32 x + Z32 y)) ≤ 2 ^ t ∧ 2 * ((Z32 x + Z32 y) - Z32 (fadd x y)) ≤ 2 ^ t := by
  rw [Z_fadd hx hy]
  have := RZ_err (z := Z32 x + Z32 y) (d := 0) (t := t) ht (by simpa using hz)
  simpa using this
theorem fsub_err {x y : Nat} {t : Nat} (ht : t ≤ 240) (hx : Fin32 x) (hy : Fin32 y) (hz : (Z32 x - Z32 y).natAbs < 2 ^ (24 + t)) :
    2 * (Z32 (fsub x y) - (Z32 x - Z32 y)) ≤ 2 ^ t ∧ 2 * ((Z32 x - Z32 y) - Z32 (fsub x y)) ≤ 2 ^ t := by
  rw [Z_fsub hx hy]
  have := RZ_err (z := Z32 x - Z32 y) (d := 0) (t := t) ht (by simpa using hz)
  simpa using this

/-- The sum of n numbers, from the first one on. -/
def sumTo (G : Nat → Nat) : Nat → Nat
  | 0 => 0
  | 1 => G 0
  | k + 2 => fadd (sumTo G (k + 1)) (G (k + 1))
theorem sumTo_step (G : Nat → Nat) {k : Nat} (h : 1 ≤ k) : sumTo G (k + 1) = fadd (sumTo G k) (G k) := by
  obtain ⟨j, rfl⟩ : ∃ j, k = j + 1 := ⟨k - 1, by omega⟩
  rfl
theorem sumTo_facts {G : Nat → Nat} {n : Nat} (hn : n ≤ 4000) (hG : ∀ i, i < n → filmB (G i) = true) : ∀ k, k ≤ n → Fin32 (sumTo G k) ∧ 0 ≤ Z32 (sumTo G k) ∧ Z32 (sumTo G k) ≤ k * 2 ^ 170
  | 0, _ => ⟨(by decide : Fin32 0), Int.le_of_eq Z_zero.symm, by rw [show Z32 (sumTo G 0) = 0 from Z_zero]; omega⟩
  | 1, h => by
    have hg := hG 0 (by omega)
    obtain ⟨_, a, b⟩ := (film_iff _).1 hg
    refine ⟨film_fin hg, a, ?_⟩
    show Z32 (G 0) ≤ _
    have : (2 : Int) ^ 169 ≤ 2 ^ 170 := by decide
    omega
  | k + 2, h => by
    obtain ⟨f, a, b⟩ := sumTo_facts hn hG (k + 1) (by omega)
    have hg := hG (k + 1) (by omega)
    obtain ⟨_, c, d⟩ := (film_iff _).1 hg
    have fg := film_fin hg
    have e : sumTo G (k + 2) = fadd (sumTo G (k + 1)) (G (k + 1)) := rfl
    rw [e]
    have hk : ((k + 1 : Nat) : Int) ≤ 4000 := by omega
    have hb : Z32 (sumTo G (k + 1)) ≤ 4000 * 2 ^ 170 := Int.le_trans b (Int.mul_le_mul_of_nonneg_right hk (by decide))
    have herr := fadd_err (t := 160) (by omega) f fg (by
      have : Z32 (sumTo G (k + 1)) + Z32 (G (k + 1)) < 2 ^ 184 := by
        have : (4000 : Int) * 2 ^ 170 + 2 ^ 169 < 2 ^ 184 := by decide
        omega
      omega)
    have h0 := fadd_ge f fg (c := 0) (by decide) (by rw [Z_zero]; omega)
    rw [Z_zero] at h0
    have hup : Z32 (fadd (sumTo G (k + 1)) (G (k + 1))) ≤ ((k + 2 : Nat) : Int) * 2 ^ 170 := by
      have e2 : ((k + 2 : Nat) : Int) * 2 ^ 170 = ((k + 1 : Nat) : Int) * 2 ^ 170 + 2 ^ 170 := by
        rw [show ((k + 2 : Nat) : Int) = ((k + 1 : Nat) : Int) + 1 from by omega, Int.add_mul, Int.one_mul]
      have : (2 : Int) ^ 169 + 2 ^ 160 ≤ 2 ^ 170 := by decide
      omega
    refine ⟨fin_of (num_fadd f fg) (by omega) ?_, h0, hup⟩
    have : ((k + 2 : Nat) : Int) * 2 ^ 170 ≤ 4001 * 2 ^ 170 := Int.mul_le_mul_of_nonneg_right (by omega) (by decide)
    have : (4001 : Int) * 2 ^ 170 ≤ 2 ^ 250 := by decide
    omega
end Go.Proofs.Ytiddeijhjedbbaa
