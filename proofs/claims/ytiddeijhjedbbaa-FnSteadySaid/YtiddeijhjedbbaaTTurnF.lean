/- What a turn of a train reckons, and its bounds: plain arithmetic, no program in sight. -/
import Derived.Test.YtiddeijhjedbbaaTMix
set_option linter.unusedVariables false
set_option linter.unusedSimpArgs false
namespace Go.Proofs.Ytiddeijhjedbbaa
open Go.RowKit Ieee

theorem Z_c2 : Z32 1241513984 = 2 ^ 170 := by decide +kernel
theorem Z_c3 : Z32 1245708288 = 3 * 2 ^ 169 := by decide +kernel
theorem Z_c6 : Z32 1254096896 = 6 * 2 ^ 169 := by decide +kernel
abbrev Up3 (a : Nat) : Prop := Up 1245708288 a
theorem up_le {c d a : Nat} (h : Z32 c ≤ Z32 d) (ha : Up c a) : Up d a := ⟨ha.1, ha.2.1, by have := ha.2.2; omega⟩
theorem up3_film {a : Nat} (h : filmB a = true) : Up3 a := up_le (by decide +kernel) (film_up h)
/-- A sum of two numbers without a sign. -/
theorem add_up {c d e a b : Nat} (he : Fin32 e) (hm : Z32 e ≤ 2 ^ 200) (h : Z32 c + Z32 d ≤ Z32 e) (ha : Up c a) (hb : Up d b) : Up e (fadd a b) := by
  obtain ⟨a1, a2, a3⟩ := ha
  obtain ⟨b1, b2, b3⟩ := hb
  have s1 : Z32 (fadd a b) ≤ Z32 e := fadd_le a1 b1 he (by omega)
  have s0 : 0 ≤ Z32 (fadd a b) := by
    have := fadd_ge a1 b1 (c := 0) (by decide) (by rw [Z_zero]; omega)
    rwa [Z_zero] at this
  exact ⟨fin_of (num_fadd a1 b1) (by omega) (by omega), s0, s1⟩
/-- A part of a number: at most the number. -/
theorem part_up {a p : Nat} (hp : partB p = true) (ha : Fin32 a) (h0 : 0 ≤ Z32 a) (hm : Z32 a ≤ 2 ^ 200) : Up a (fmul p a) ∧ Up a (fmul a p) := by
  obtain ⟨_, p2, p3⟩ := (part_iff p).1 hp
  have fp := part_fin hp
  have h1 := Int.mul_nonneg p2 h0
  have h2 : Z32 p * Z32 a ≤ Z32 a * 2 ^ 149 := by
    have := Int.mul_le_mul_of_nonneg_right p3 h0
    rw [Int.mul_comm (Z32 a)]; exact this
  refine ⟨?_, ?_⟩
  · have s1 := fmul_le fp ha (c := a) ha h2
    have s0 := fmul_ge fp ha (c := 0) (by decide) (by rw [Z_zero, Int.zero_mul]; exact h1)
    rw [Z_zero] at s0
    exact ⟨fin_of (num_fmul fp ha) (by omega) (by omega), s0, s1⟩
  · have s1 := fmul_le ha fp (c := a) ha (by rw [Int.mul_comm (Z32 a) (Z32 p)]; exact h2)
    have s0 := fmul_ge ha fp (c := 0) (by decide) (by rw [Z_zero, Int.zero_mul, Int.mul_comm]; exact h1)
    rw [Z_zero] at s0
    exact ⟨fin_of (num_fmul ha fp) (by omega) (by omega), s0, s1⟩
/-- What is left when at most all is taken. -/
theorem sub_up {a b : Nat} (ha : Fin32 a) (hm : Z32 a ≤ 2 ^ 200) (hb : Up a b) : Up a (fsub a b) := by
  obtain ⟨b1, b2, b3⟩ := hb
  have s1 := fsub_le ha b1 (c := a) ha (by omega)
  have s0 := fsub_ge ha b1 (c := 0) (by decide) (by rw [Z_zero]; omega)
  rw [Z_zero] at s0
  exact ⟨fin_of (num_fsub ha b1) (by omega) (by omega), s0, s1⟩

/-! ### A turn -/
def turnA (F : Nat → Nat) (fed : Nat) : Nat := fadd (F 0) fed
def turnO (s : Nat) (F : Nat → Nat) (fed : Nat) : Nat := fmul s (turnA F fed)
def turn0 (s : Nat) (F : Nat → Nat) (fed : Nat) : Nat → Nat := upd (upd F 0 (fsub (turnA F fed) (turnO s F fed))) 1 (fadd (F 1) (turnO s F fed))
def turnS (G : Nat → Nat) (k : Nat) : Nat → Nat := upd (upd G k (halfF (G k) (G (k + 1)))) (k + 1) (halfF (G k) (G (k + 1)))
/-- The films when the counter stands at k + 1. -/
def turnK (s : Nat) (F : Nat → Nat) (fed : Nat) : Nat → Nat → Nat
  | 0 => turn0 s F fed
  | k + 1 => turnS (turnK s F fed k) (k + 1)
structure TurnStart (s : Nat) (F : Nat → Nat) (fed : Nat) : Prop where
  fa : Fin32 (F 0)
  ff : Fin32 fed
  f1 : Fin32 (F 1)
  ha : Up 1241513984 (turnA F fed)
  ho : Up (turnA F fed) (turnO s F fed)
  hs : Fin32 s
  h0 : Up (turnA F fed) (fsub (turnA F fed) (turnO s F fed))
  h1 : Up3 (fadd (F 1) (turnO s F fed))
theorem turn_start {r : Int} {s t : Nat} {F : Nat → Nat} {fed : Nat} (ho : trainB r s t F = true) (hf : filmB fed = true) : TurnStart s F fed := by
  obtain ⟨h2, h12, hs, ht, hfl, hz⟩ := trainB_facts ho
  have u0 := film_up (hfl 0 (by omega) (by omega))
  have u1 := film_up (hfl 1 (by omega) (by omega))
  have ua : Up 1241513984 (turnA F fed) := add_up (by decide) (by decide +kernel) (by decide +kernel) u0 (film_up hf)
  have zc := Z_c2
  have uz : Z32 (turnA F fed) ≤ 2 ^ 200 := by have := ua.2.2; rw [zc] at this; omega
  have uo : Up (turnA F fed) (turnO s F fed) := (part_up hs ua.1 ua.2.1 uz).1
  have uo2 : Up 1241513984 (turnO s F fed) := up_le ua.2.2 uo
  exact ⟨u0.1, film_fin hf, u1.1, ua, uo, part_fin hs, sub_up ua.1 uz uo, add_up (by decide) (by decide +kernel) (by decide +kernel) u1 uo2⟩
theorem turnK_up {r : Int} {s t : Nat} {F : Nat → Nat} {fed : Nat} (ho : trainB r s t F = true) (hf : filmB fed = true) : ∀ k : Nat, (k : Int) + 2 ≤ r → ∀ i : Nat, i < 12 → (i : Int) < r → Up3 (turnK s F fed k i) := by
  obtain ⟨h2, h12, hs, ht, hfl, hz⟩ := trainB_facts ho
  have st := turn_start ho hf
  intro k
  induction k with
  | zero =>
    intro _ i hi hr
    unfold turnK turn0 upd
    by_cases h1 : i = 1
    · rw [if_pos h1]; exact st.h1
    · rw [if_neg h1]
      by_cases h0 : i = 0
      · rw [if_pos h0]
        exact up_le (by decide +kernel) (up_le st.ha.2.2 st.h0)
      · rw [if_neg h0]; exact up3_film (hfl i hi hr)
  | succ k ih =>
    intro hk i hi hr
    have ih := ih (by omega)
    unfold turnK turnS
    by_cases h1 : i = k + 1 + 1
    · subst h1
      rw [show upd (upd (turnK s F fed k) (k + 1) (halfF (turnK s F fed k (k + 1)) (turnK s F fed k (k + 1 + 1)))) (k + 1 + 1) (halfF (turnK s F fed k (k + 1)) (turnK s F fed k (k + 1 + 1))) (k + 1 + 1) = halfF (turnK s F fed k (k + 1)) (turnK s F fed k (k + 1 + 1)) from by simp [upd]]
      exact (half_up (c := 1245708288) (c2 := 1254096896) (by decide) (by decide) (by decide +kernel) (by decide +kernel) (ih (k + 1) (by omega) (by omega)) (ih (k + 1 + 1) hi hr)).2
    · by_cases h0 : i = k + 1
      · subst h0
        have hb : ((k + 1 + 1 : Nat) : Int) < r := by omega
        · rw [show upd (upd (turnK s F fed k) (k + 1) (halfF (turnK s F fed k (k + 1)) (turnK s F fed k (k + 1 + 1)))) (k + 1 + 1) (halfF (turnK s F fed k (k + 1)) (turnK s F fed k (k + 1 + 1))) (k + 1) = halfF (turnK s F fed k (k + 1)) (turnK s F fed k (k + 1 + 1)) from by simp [upd]]
          exact (half_up (c := 1245708288) (c2 := 1254096896) (by decide) (by decide) (by decide +kernel) (by decide +kernel) (ih (k + 1) hi hr) (ih (k + 1 + 1) (by omega) hb)).2
      · unfold upd
        rw [if_neg h1, if_neg h0]
        exact ih i hi hr

/-- The films before the print, what is printed, and the films behind it. -/
def turnE (r : Int) (s : Nat) (F : Nat → Nat) (fed : Nat) : Nat → Nat := turnK s F fed (r - 2).toNat
def turnP (r : Int) (s t : Nat) (F : Nat → Nat) (fed cover : Nat) : Nat := fmul (turnE r s F fed (r - 1).toNat) (fmul t cover)
def turnF (r : Int) (s t : Nat) (F : Nat → Nat) (fed cover : Nat) : Nat → Nat := upd (turnE r s F fed) (r - 1).toNat (fsub (turnE r s F fed (r - 1).toNat) (turnP r s t F fed cover))
structure TurnEnd (r : Int) (s t : Nat) (F : Nat → Nat) (fed cover : Nat) : Prop where
  ft : Fin32 t
  fc : Fin32 cover
  fk : Fin32 (fmul t cover)
  fe : Fin32 (turnE r s F fed (r - 1).toNat)
  fp : Fin32 (turnP r s t F fed cover)
theorem turn_end {r : Int} {s t : Nat} {F : Nat → Nat} {fed cover : Nat} (ho : trainB r s t F = true) (hf : filmB fed = true) (hc : partB cover = true) : TurnEnd r s t F fed cover := by
  obtain ⟨h2, h12, hs, ht, hfl, hz⟩ := trainB_facts ho
  have ue := turnK_up ho hf (r - 2).toNat (by omega) (r - 1).toNat (by omega) (by omega)
  have pk := part_mul ht hc
  have zc := Z_c3
  have uz : Z32 (turnE r s F fed (r - 1).toNat) ≤ 2 ^ 200 := by have := ue.2.2; rw [zc] at this; unfold turnE; omega
  exact ⟨part_fin ht, part_fin hc, part_fin pk, ue.1, (part_up pk ue.1 ue.2.1 uz).2.1⟩
end Go.Proofs.Ytiddeijhjedbbaa
