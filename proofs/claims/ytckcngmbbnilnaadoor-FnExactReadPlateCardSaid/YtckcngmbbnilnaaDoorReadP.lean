/- Numbers that are read from texts; plain, no program in sight. -/
import Derived.Test.YtckcngmbbnilnaaDoorHexN
import Derived.Test.YtckcngmbbnilnaaDoorHexU
set_option linter.unusedVariables false
set_option linter.unusedSimpArgs false
namespace Go.Proofs.YtckcngmbbnilnaaDoor
open Go.RowKit Go.Lib

/-- The bits of the number with a text. -/
def readOf (l : List UInt8) : Option Nat := if l.length = 8 then (hexV 0 l).bind fun v => if canonB v = v then some v else none else none
/-- The value of digits of 32 bits at most, one digit at least. -/
def hexUE (l : List UInt8) : Option Nat := if l = [] then none else hexU 0 l

theorem canonB_idem (a : Nat) : canonB (canonB a) = canonB a := by
  unfold canonB
  split
  · rw [if_pos]
    decide +kernel
  · rfl
theorem canonB_lt {a : Nat} (h : a < 2 ^ 32) : canonB a < 2 ^ 32 := by
  unfold canonB
  split
  · decide
  · exact h
theorem digU_of_digOf {c d : Nat} (h : digOf c = some d) : digU c = some d := by
  unfold digOf at h
  unfold digU
  split at h
  · rename_i h1
    rw [if_pos h1]; exact h
  · rename_i h1
    rw [if_neg h1]
    split at h
    · rename_i h2
      rw [if_pos h2]; exact h
    · exact absurd h (by simp)
theorem hexV_le : ∀ (l : List UInt8) (a v : Nat), hexV a l = some v → a ≤ v
  | [], a, v, h => by simp [hexV] at h; omega
  | c :: l, a, v, h => by
    rw [hexV_cons] at h
    cases hd : digOf c.toNat with
    | none => rw [hd] at h; simp at h
    | some d =>
      rw [hd] at h
      have := hexV_le l _ _ h
      omega
theorem hexU_of_hexV : ∀ (l : List UInt8) (a v : Nat), hexV a l = some v → v ≤ 4294967295 → hexU a l = some v
  | [], a, v, h, _ => h
  | c :: l, a, v, h, hv => by
    rw [hexV_cons] at h
    cases hd : digOf c.toNat with
    | none => rw [hd] at h; simp at h
    | some d =>
      rw [hd] at h
      have h' : hexV (a * 16 + d) l = some v := h
      have := hexV_le l _ _ h'
      show (match digU c.toNat with | some d => if a * 16 + d ≤ 4294967295 then hexU (a * 16 + d) l else none | none => none) = some v
      rw [digU_of_digOf hd]
      show (if a * 16 + d ≤ 4294967295 then hexU (a * 16 + d) l else none) = some v
      rw [if_pos (by omega)]
      exact hexU_of_hexV l _ _ h' hv
theorem hexU_le : ∀ (l : List UInt8) (a v : Nat), hexU a l = some v → a ≤ 4294967295 → v ≤ 4294967295
  | [], a, v, h, ha => by simp [hexU] at h; omega
  | c :: l, a, v, h, ha => by
    have h' : (match digU c.toNat with | some d => if a * 16 + d ≤ 4294967295 then hexU (a * 16 + d) l else none | none => none) = some v := h
    cases hd : digU c.toNat with
    | none => rw [hd] at h'; simp at h'
    | some d =>
      rw [hd] at h'
      have h2 : (if a * 16 + d ≤ 4294967295 then hexU (a * 16 + d) l else none) = some v := h'
      split at h2
      · exact hexU_le l _ _ h2 (by assumption)
      · exact absurd h2 (by simp)
theorem hexUE_lt {l : List UInt8} {v : Nat} (h : hexUE l = some v) : v < 2 ^ 32 := by
  unfold hexUE at h
  split at h
  · exact absurd h (by simp)
  · have := hexU_le _ _ _ h (by omega)
    omega
theorem hexUE_hexL {v : Nat} (h : v < 2 ^ 32) : hexUE (hexL 8 v) = some v := by
  have h0 : hexL 8 v ≠ [] := fun e => by have := hexL_length 8 v; rw [e] at this; simp at this
  unfold hexUE
  rw [if_neg h0]
  have hv := hexV_hexL 8 v 0 (by simpa using h)
  simp at hv
  exact hexU_of_hexV _ _ _ hv (by omega)
theorem readOf_some {l : List UInt8} {v : Nat} (h : readOf l = some v) : l = numText v ∧ v < 2 ^ 32 ∧ canonB v = v := by
  unfold readOf at h
  split at h
  · rename_i hl
    cases hx : hexV 0 l with
    | none => rw [hx] at h; simp at h
    | some b =>
      rw [hx] at h
      simp only [Option.bind] at h
      split at h
      · rename_i hc
        injection h with h
        subst h
        obtain ⟨h1, h2⟩ := hexL_hexV l b hx
        rw [hl] at h1 h2
        refine ⟨?_, by simpa using h1, hc⟩
        unfold numText
        rw [hc]
        exact h2
      · exact absurd h (by simp)
  · exact absurd h (by simp)
theorem readOf_numText {a : Nat} (h : a < 2 ^ 32) : readOf (numText a) = some (canonB a) := by
  have hv := hexV_hexL 8 (canonB a) 0 (by simpa using canonB_lt h)
  simp at hv
  unfold readOf
  rw [if_pos (numText_length a)]
  show (hexV 0 (hexL 8 (canonB a))).bind _ = _
  rw [hv]
  show (if canonB (canonB a) = canonB a then some (canonB a) else none) = _
  rw [if_pos (canonB_idem a)]
/-- What the program makes of it: the value of the digits, and the text of that number held against the text. -/
theorem readOf_by (l : List UInt8) : readOf l = match hexUE l with | some n => if numText n = l then some n else none | none => none := by
  cases hx : hexUE l with
  | none =>
    cases hr : readOf l with
    | none => rfl
    | some v =>
      obtain ⟨h1, h2, h3⟩ := readOf_some hr
      rw [h1] at hx
      unfold numText at hx
      rw [h3, hexUE_hexL h2] at hx
      exact absurd hx (by simp)
  | some n =>
    show _ = if numText n = l then some n else none
    have hn := hexUE_lt hx
    split
    · rename_i h
      subst h
      rw [readOf_numText hn]
      unfold numText at hx
      rw [hexUE_hexL (canonB_lt hn)] at hx
      exact hx
    · rename_i h
      cases hr : readOf l with
      | none => rfl
      | some v =>
        obtain ⟨h1, h2, h3⟩ := readOf_some hr
        exfalso
        apply h
        have : hexUE l = some v := by
          rw [h1]
          unfold numText
          rw [h3, hexUE_hexL h2]
        rw [this] at hx
        injection hx with hx
        rw [← hx, ← h1]
theorem readOf_len {l : List UInt8} (h : l.length ≠ 8) : readOf l = none := if_neg h
end Go.Proofs.YtckcngmbbnilnaaDoor
