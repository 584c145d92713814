/- Numbers and their texts of eight hexadecimal digits; plain, no program in sight. -/
import Derived.Test.YtckcngmbbnilnaaDoorLawKit
set_option linter.unusedVariables false
set_option linter.unusedSimpArgs false
namespace Go.Proofs.YtckcngmbbnilnaaDoor

/-- The byte of a digit. -/
def hexDig (n : Nat) : UInt8 := UInt8.ofNat (if n < 10 then 48 + n else 87 + n)
/-- The lowest k digits of u. -/
def hexL : Nat → Nat → List UInt8
  | 0, _ => []
  | k + 1, u => hexL k (u / 16) ++ [hexDig (u % 16)]
/-- The digits of u without leading zeros, at most k. -/
def hexS : Nat → Nat → List UInt8
  | 0, _ => []
  | k + 1, u => if u < 16 then [hexDig u] else hexS k (u / 16) ++ [hexDig (u % 16)]
/-- The digit of a byte. -/
def digOf (c : Nat) : Option Nat := if 48 ≤ c ∧ c ≤ 57 then some (c - 48) else if 97 ≤ c ∧ c ≤ 102 then some (c - 87) else none

theorem hexL_length : ∀ k u, (hexL k u).length = k
  | 0, _ => rfl
  | k + 1, u => by simp [hexL, hexL_length k]
theorem hexL_zero : ∀ k, hexL k 0 = List.replicate k 48
  | 0 => rfl
  | k + 1 => by
    show hexL k 0 ++ [hexDig 0] = _
    rw [hexL_zero k, List.replicate_succ']
    rfl
theorem hexS_length_le : ∀ k u, (hexS k u).length ≤ k
  | 0, _ => Nat.le_refl _
  | k + 1, u => by
    unfold hexS
    split
    · simp
    · have := hexS_length_le k (u / 16); simp; omega
theorem hexS_pad : ∀ k u, 0 < k → u < 16 ^ k → List.replicate (k - (hexS k u).length) 48 ++ hexS k u = hexL k u
  | 0, _, h, _ => absurd h (by omega)
  | k + 1, u, _, h => by
    unfold hexS hexL
    split
    · rename_i hu
      have e0 : u / 16 = 0 := by omega
      have e1 : u % 16 = u := by omega
      rw [e0, e1, hexL_zero]
      simp
    · rename_i hu
      have hk : 0 < k := by
        cases k with
        | zero => simp at h; omega
        | succ k => omega
      have hd : u / 16 < 16 ^ k := by rw [Nat.pow_succ] at h; omega
      have ih := hexS_pad k (u / 16) hk hd
      have hl := hexS_length_le k (u / 16)
      rw [← ih, List.length_append, List.length_singleton, Nat.add_sub_add_right, List.append_assoc]
theorem hexS_fuel : ∀ k u, 0 < k → u < 16 ^ k → hexS (k + 1) u = hexS k u
  | 0, _, h, _ => absurd h (by omega)
  | k + 1, u, _, h => by
    rw [show hexS (k + 1 + 1) u = if u < 16 then [hexDig u] else hexS (k + 1) (u / 16) ++ [hexDig (u % 16)] from rfl,
        show hexS (k + 1) u = if u < 16 then [hexDig u] else hexS k (u / 16) ++ [hexDig (u % 16)] from rfl]
    split
    · rfl
    · rename_i hu
      have hk : 0 < k := by
        cases k with
        | zero => simp at h; omega
        | succ k => omega
      rw [hexS_fuel k (u / 16) hk (by rw [Nat.pow_succ] at h; omega)]

/-- The value of digits, the first ones the highest, behind a value already read; none if a byte is no digit. -/
def hexV : Nat → List UInt8 → Option Nat
  | a, [] => some a
  | a, c :: l => match digOf c.toNat with
    | some d => hexV (a * 16 + d) l
    | none => none

theorem digOf_hexDig : ∀ n, n < 16 → digOf (hexDig n).toNat = some n := by decide
theorem hexDig_digOf : ∀ c : Nat, c < 256 → ∀ d, digOf c = some d → d < 16 ∧ hexDig d = UInt8.ofNat c := by
  intro c hc d hd
  unfold digOf at hd
  split at hd
  · injection hd with hd
    subst hd
    refine ⟨by omega, ?_⟩
    unfold hexDig
    rw [if_pos (by omega)]
    congr 1
    omega
  · split at hd
    · injection hd with hd
      subst hd
      refine ⟨by omega, ?_⟩
      unfold hexDig
      rw [if_neg (by omega)]
      congr 1
      omega
    · exact absurd hd (by simp)
theorem hexV_cons (a : Nat) (c : UInt8) (l : List UInt8) : hexV a (c :: l) = (digOf c.toNat).bind fun d => hexV (a * 16 + d) l := by
  show (match digOf c.toNat with | some d => hexV (a * 16 + d) l | none => none) = _
  cases digOf c.toNat <;> rfl
theorem hexV_append : ∀ (l : List UInt8) (a : Nat) (m : List UInt8), hexV a (l ++ m) = (hexV a l).bind fun b => hexV b m
  | [], _, _ => rfl
  | c :: l, a, m => by
    rw [List.cons_append, hexV_cons, hexV_cons]
    cases digOf c.toNat with
    | none => rfl
    | some d => exact hexV_append l _ m
theorem hexV_hexL : ∀ k u a, u < 16 ^ k → hexV a (hexL k u) = some (a * 16 ^ k + u)
  | 0, u, a, h => by simp at h; simp [hexL, hexV, h]
  | k + 1, u, a, h => by
    have hd : u / 16 < 16 ^ k := by rw [Nat.pow_succ] at h; omega
    rw [show hexL (k + 1) u = hexL k (u / 16) ++ [hexDig (u % 16)] from rfl, hexV_append, hexV_hexL k _ a hd]
    show (match digOf (hexDig (u % 16)).toNat with | some d => hexV ((a * 16 ^ k + u / 16) * 16 + d) [] | none => none) = _
    rw [digOf_hexDig _ (by omega)]
    show some ((a * 16 ^ k + u / 16) * 16 + u % 16) = _
    congr 1
    rw [Nat.pow_succ, Nat.add_mul, Nat.mul_assoc]
    omega
theorem hexL_hexV : ∀ (l : List UInt8) (v : Nat), hexV 0 l = some v → v < 16 ^ l.length ∧ l = hexL l.length v := by
  intro l
  -- from the last byte on
  suffices h : ∀ (m : List UInt8) v, hexV 0 m.reverse = some v → v < 16 ^ m.length ∧ m.reverse = hexL m.length v by
    intro v hv
    have := h l.reverse v (by simpa using hv)
    simpa using this
  intro m
  induction m with
  | nil => intro v hv; simp [hexV] at hv; subst hv; simp [hexL]
  | cons c m ih =>
    intro v hv
    rw [List.reverse_cons, hexV_append] at hv
    cases h1 : hexV 0 m.reverse with
    | none => rw [h1] at hv; simp at hv
    | some b =>
      rw [h1] at hv
      obtain ⟨hb, eb⟩ := ih b h1
      simp only [Option.bind] at hv
      cases h2 : digOf c.toNat with
      | none => simp [hexV, h2] at hv
      | some d =>
        simp [hexV, h2] at hv
        obtain ⟨hd, ed⟩ := hexDig_digOf c.toNat c.toNat_lt d h2
        subst hv
        have e0 : (b * 16 + d) / 16 = b := by omega
        have e1 : (b * 16 + d) % 16 = d := by omega
        refine ⟨by rw [List.length_cons, Nat.pow_succ]; omega, ?_⟩
        rw [List.reverse_cons, List.length_cons, show hexL (m.length + 1) (b * 16 + d) = hexL m.length ((b * 16 + d) / 16) ++ [hexDig ((b * 16 + d) % 16)] from rfl, e0, e1, ← eb, ed]
        congr 1
        simp

/-- The bits of a number, one pattern for each NaN. -/
def canon (nan : Bool) (b : Nat) : Nat := if nan then 2143289344 else b

/-- The j-th digit of eight. -/
theorem hexL_at : ∀ k u j, j < k → (hexL k u).getD j 0 = hexDig (u / 16 ^ (k - 1 - j) % 16)
  | 0, _, _, h => absurd h (by omega)
  | k + 1, u, j, h => by
    rw [show hexL (k + 1) u = hexL k (u / 16) ++ [hexDig (u % 16)] from rfl]
    by_cases hj : j < k
    · have ih := hexL_at k (u / 16) j hj
      rw [List.getD_eq_getElem?_getD] at ih ⊢
      rw [List.getElem?_append_left (by rw [hexL_length]; exact hj), ih, Nat.div_div_eq_div_mul, ← Nat.pow_succ', show (k - 1 - j).succ = k + 1 - 1 - j by omega]
    · have : j = k := by omega
      subst this
      rw [List.getD_eq_getElem?_getD, List.getElem?_append_right (by rw [hexL_length]; omega), hexL_length]
      simp
end Go.Proofs.YtckcngmbbnilnaaDoor
