/- Plates: which numbers are cells', valid plates, what is done cell by cell; plain, no program in sight. -/
import Derived.Test.YtiddeijhjedbbaaTOk
import Derived.Test.YtiddeijhjedbbaaFErr
set_option linter.unusedVariables false
set_option linter.unusedSimpArgs false
namespace Go.Proofs.Ytiddeijhjedbbaa
open Go.RowKit Ieee

/-- A plate's cells. -/
abbrev ppre (x y : Int) : List Value := [.int .i8 x, .int .i8 y]
abbrev plate (x y : Int) (F : Nat → Nat) : Array Value := row (ppre x y) 64 F

/-- Is number i that of a cell, where a cells are wide and b are high? -/
def isC (a b i : Nat) : Bool := decide (i % 8 < a) && decide (i / 8 < b)
/-- How many cells lie before number i. -/
def cntC (a b : Nat) : Nat → Nat
  | 0 => 0
  | i + 1 => cntC a b i + (if isC a b i then 1 else 0)
/-- The number of the k-th cell. -/
def cellAt (a k : Nat) : Nat := k % a + 8 * (k / a)
/-- The number that lies where i lies in the mirror. -/
def mirr (a i : Nat) : Nat := i + a - 1 - 2 * (i % 8)

theorem cells_at : ∀ a, a < 9 → ∀ b, b < 9 → ∀ i, i < 64 → isC a b i = true → cellAt a (cntC a b i) = i ∧ cntC a b i < a * b := by decide +kernel
theorem cells_of : ∀ a, a < 9 → ∀ b, b < 9 → ∀ k, k < 64 → k < a * b → cellAt a k < 64 ∧ isC a b (cellAt a k) = true ∧ cntC a b (cellAt a k) = k := by decide +kernel
theorem cells_all : ∀ a, a < 9 → ∀ b, b < 9 → cntC a b 64 = a * b ∧ a * b ≤ 64 := by decide +kernel
theorem mirr_of1 : ∀ a, a < 9 → ∀ b, b < 9 → ∀ i, i < 64 → isC a b i = true → mirr a i < 64 ∧ isC a b (mirr a i) = true := by decide +kernel
theorem mirr_of2 : ∀ a, a < 9 → ∀ b, b < 9 → ∀ i, i < 64 → isC a b i = true → mirr a (mirr a i) = i := by decide +kernel
theorem mirr_of (a : Nat) (ha : a < 9) (b : Nat) (hb : b < 9) (i : Nat) (hi : i < 64) (h : isC a b i = true) : mirr a i < 64 ∧ isC a b (mirr a i) = true ∧ mirr a (mirr a i) = i :=
  ⟨(mirr_of1 a ha b hb i hi h).1, (mirr_of1 a ha b hb i hi h).2, mirr_of2 a ha b hb i hi h⟩
theorem cnt_step (a b i : Nat) (h : isC a b i = true) : cntC a b (i + 1) = cntC a b i + 1 := by simp [cntC, h]
theorem cnt_skip (a b i : Nat) (h : isC a b i = false) : cntC a b (i + 1) = cntC a b i := by simp [cntC, h]
theorem isC_iff {a b i : Nat} : isC a b i = true ↔ i % 8 < a ∧ i / 8 < b := by simp [isC]
theorem isC_no {a b i : Nat} : isC a b i = false ↔ ¬ (i % 8 < a ∧ i / 8 < b) := by
  rw [← isC_iff]; simp
theorem cell_xy {a b X Y : Nat} (ha : a ≤ 8) (h1 : X < a) (h2 : Y < b) : isC a b (X + 8 * Y) = true := by
  rw [isC_iff]; omega
theorem cellAt_xy {a X Y : Nat} (h1 : X < a) : cellAt a (a * Y + X) = X + 8 * Y := by
  unfold cellAt
  rw [Nat.mul_add_mod, Nat.mod_eq_of_lt h1, Nat.mul_add_div (by omega), Nat.div_eq_of_lt h1, Nat.add_zero]

/-- A plate in which the first k cells have turned. -/
def mapC (a b : Nat) (g G : Nat → Nat) (k : Nat) : Nat → Nat := fun j => if isC a b j && decide (cntC a b j < k) then g j else G j
theorem mapC_0 (a b : Nat) (g G : Nat → Nat) : mapC a b g G 0 = G := by funext j; simp [mapC]
/-- A plate in which all cells have turned. -/
def mapA (a b : Nat) (g G : Nat → Nat) : Nat → Nat := fun j => if isC a b j then g j else G j
section
variable {a b : Nat} (ha : a < 9) (hb : b < 9) (g G : Nat → Nat)
include ha hb
theorem mapC_step {k : Nat} (hk : k < a * b) (pre : List Value) : row pre 64 (upd (mapC a b g G k) (cellAt a k) (g (cellAt a k))) = row pre 64 (mapC a b g G (k + 1)) := by
  have h64 := (cells_all a ha b hb).2
  obtain ⟨c1, c2, c3⟩ := cells_of a ha b hb k (by omega) hk
  apply row_congr
  intro j hj
  unfold upd mapC
  by_cases h : j = cellAt a k
  · subst h
    simp [c2, c3]
  · rw [if_neg h]
    cases hc : isC a b j
    · simp
    · obtain ⟨d1, d2⟩ := cells_at a ha b hb j hj hc
      by_cases e : cntC a b j = k
      · rw [e] at d1; exact absurd d1.symm h
      · have : (cntC a b j < k + 1) ↔ (cntC a b j < k) := by omega
        simp [this]
theorem mapC_step' {i : Nat} (hi : i < 64) (hc : isC a b i = true) (pre : List Value) : row pre 64 (upd (mapC a b g G (cntC a b i)) i (g i)) = row pre 64 (mapC a b g G (cntC a b (i + 1))) := by
  obtain ⟨d1, d2⟩ := cells_at a ha b hb i hi hc
  have := mapC_step ha hb g G d2 pre
  rw [d1] at this
  rw [this, cnt_step a b i hc]
theorem mapC_end (pre : List Value) : row pre 64 (mapC a b g G (a * b)) = row pre 64 (mapA a b g G) := by
  apply row_congr
  intro j hj
  unfold mapC mapA
  cases hc : isC a b j
  · simp
  · have := (cells_at a ha b hb j hj hc).2
    simp [this]
omit ha hb in
theorem mapC_keep {k i : Nat} (hi : i < 64) (h : cntC a b i = k) : mapC a b g G k i = G i := by
  unfold mapC; simp [h]
theorem mapC_at {k : Nat} (hk : k < a * b) : mapC a b g G k (cellAt a k) = G (cellAt a k) := by
  have h64 := (cells_all a ha b hb).2
  obtain ⟨c1, c2, c3⟩ := cells_of a ha b hb k (by omega) hk
  exact mapC_keep g G c1 c3
end
/-- The mirror of which the cells below i are laid. -/
def mirC (a b : Nat) (F : Nat → Nat) (i : Nat) : Nat → Nat := fun j => if isC a b j && decide (mirr a j < i) then F (mirr a j) else 0
theorem mirC_0 (a b : Nat) (F : Nat → Nat) : mirC a b F 0 = fun _ => 0 := by funext j; simp [mirC]
section
variable {a b : Nat} (ha : a < 9) (hb : b < 9) (F : Nat → Nat)
include ha hb
theorem mirC_step {i : Nat} (hi : i < 64) (hc : isC a b i = true) (pre : List Value) : row pre 64 (upd (mirC a b F i) (mirr a i) (F i)) = row pre 64 (mirC a b F (i + 1)) := by
  obtain ⟨m1, m2, m3⟩ := mirr_of a ha b hb i hi hc
  apply row_congr
  intro j hj
  unfold upd mirC
  by_cases h : j = mirr a i
  · subst h
    rw [if_pos rfl, m2, m3]; simp
  · rw [if_neg h]
    cases hcj : isC a b j
    · simp
    · obtain ⟨n1, n2, n3⟩ := mirr_of a ha b hb j hj hcj
      have : mirr a j ≠ i := fun e => h (by rw [← e, n3])
      have : (mirr a j < i + 1) ↔ (mirr a j < i) := by omega
      simp [this]
theorem mirC_skip {i : Nat} (hi : i < 64) (hc : isC a b i = false) (pre : List Value) : row pre 64 (mirC a b F i) = row pre 64 (mirC a b F (i + 1)) := by
  apply row_congr
  intro j hj
  unfold mirC
  cases hcj : isC a b j
  · simp
  · obtain ⟨n1, n2, n3⟩ := mirr_of a ha b hb j hj hcj
    have : mirr a j ≠ i := fun e => by rw [e, hc] at n2; cases n2
    have : (mirr a j < i + 1) ↔ (mirr a j < i) := by omega
    simp [this]
theorem mirC_end (pre : List Value) : row pre 64 (mirC a b F 64) = row pre 64 (mapA a b (fun i => F (mirr a i)) (fun _ => 0)) := by
  apply row_congr
  intro j hj
  unfold mirC mapA
  cases hcj : isC a b j
  · simp
  · have := (mirr_of a ha b hb j hj hcj).1
    simp [this]
end

/-! ### valid plates -/
def dotB (a b : Nat) (F : Nat → Nat) (i : Nat) : Bool := if isC a b i then partB (F i) else zeroB (F i)
def dotsB (a b : Nat) (F : Nat → Nat) : Nat → Bool
  | 0 => true
  | k + 1 => dotsB a b F k && dotB a b F k
def sizeB (x y : Int) : Bool := (decide (1 ≤ x) && decide (x ≤ 8)) && (decide (1 ≤ y) && decide (y ≤ 8))
def plateB (x y : Int) (F : Nat → Nat) : Bool := sizeB x y && dotsB x.toNat y.toNat F 64
theorem dotsB_le {a b : Nat} {F : Nat → Nat} {n : Nat} (h : dotsB a b F n = true) : ∀ k, k < n → dotB a b F k = true := by
  induction n with
  | zero => intro k hk; omega
  | succ n ih =>
    simp only [dotsB, Bool.and_eq_true] at h
    intro k hk
    by_cases e : k = n
    · subst e; exact h.2
    · exact ih h.1 k (by omega)
theorem dotsB_no {a b : Nat} {F : Nat → Nat} {n k : Nat} (hk : k < n) (h : dotB a b F k = false) : dotsB a b F n = false := by
  cases e : dotsB a b F n
  · rfl
  · have := dotsB_le e k hk
    rw [h] at this; cases this
theorem sizeB_iff {x y : Int} : sizeB x y = true ↔ (1 ≤ x ∧ x ≤ 8) ∧ 1 ≤ y ∧ y ≤ 8 := by simp [sizeB]
theorem plateB_size {x y : Int} {F : Nat → Nat} (h : plateB x y F = true) : ∃ a b : Nat, x = a ∧ y = b ∧ 1 ≤ a ∧ a < 9 ∧ 1 ≤ b ∧ b < 9 ∧ (∀ i, i < 64 → isC a b i = true → partB (F i) = true) ∧ (∀ i, i < 64 → isC a b i = false → zeroB (F i) = true) := by
  unfold plateB at h
  simp only [Bool.and_eq_true] at h
  obtain ⟨⟨h1, h2⟩, h3, h4⟩ := (sizeB_iff.1 h.1)
  have hd := dotsB_le h.2
  refine ⟨x.toNat, y.toNat, by omega, by omega, by omega, by omega, by omega, by omega, fun i hi hc => ?_, fun i hi hc => ?_⟩
  · have := hd i hi
    unfold dotB at this
    rwa [if_pos hc] at this
  · have := hd i hi
    unfold dotB at this
    rwa [if_neg (by rw [hc]; simp)] at this
theorem zero_num {z : Nat} (h : zeroB z = true) : ¬ Flt.NaN single z := by
  intro hn
  unfold zeroB at h
  rw [order_nan .f32 (Or.inl hn)] at h
  cases h
theorem part_num' {a : Nat} (h : partB a = true) : ¬ Flt.NaN single a := ((part_iff a).1 h).1
theorem plateB_num {x y : Int} {F : Nat → Nat} (h : plateB x y F = true) : ∀ i, i < 64 → ¬ Flt.NaN single (F i) := by
  obtain ⟨a, b, _, _, _, _, _, _, h1, h2⟩ := plateB_size h
  intro i hi
  cases hc : isC a b i
  · exact zero_num (h2 i hi hc)
  · exact part_num' (h1 i hi hc)
end Go.Proofs.Ytiddeijhjedbbaa
