/- Texts that are cut at a byte, small decimals, lists of numbers; plain. -/
import Derived.Test.YtckcngmbbnilnaaDoorReadS
import Derived.Test.YtckcngmbbnilnaaDoorTextP
import Derived.Lib.Split
import Derived.Lib.CountLaws
import Derived.Lib.CutLaws
import Derived.Lib.SplitLaws
import Derived.Lib.ParseIntB
set_option linter.unusedVariables false
set_option linter.unusedSimpArgs false
namespace Go.Proofs.YtckcngmbbnilnaaDoor
open Go.RowKit Go.Lib

/-- The pieces between the bytes c. -/
def splitL (c : UInt8) : List UInt8 → List (List UInt8)
  | [] => [[]]
  | b :: l => if b = c then [] :: splitL c l else match splitL c l with
    | h :: t => (b :: h) :: t
    | [] => [[b]]
theorem splitL_ne (c : UInt8) : ∀ l, splitL c l ≠ []
  | [] => by simp [splitL]
  | b :: l => by
    unfold splitL
    split
    · simp
    · cases h : splitL c l with
      | nil => simp
      | cons x y => simp
theorem splitL_miss {c : UInt8} : ∀ {l : List UInt8}, c ∉ l → splitL c l = [l]
  | [], _ => rfl
  | b :: l, h => by
    have hb : ¬ b = c := fun e => h (by simp [e])
    have hl : c ∉ l := fun e => h (by simp [e])
    unfold splitL
    rw [if_neg hb, splitL_miss hl]
theorem splitL_hit {c : UInt8} : ∀ {p : List UInt8} (r : List UInt8), c ∉ p → splitL c (p ++ c :: r) = p :: splitL c r
  | [], r, _ => by
    show (if c = c then [] :: splitL c r else match splitL c r with | h :: t => (c :: h) :: t | [] => [[c]]) = _
    rw [if_pos rfl]
  | b :: p, r, h => by
    have hb : ¬ b = c := fun e => h (by simp [e])
    have hl : c ∉ p := fun e => h (by simp [e])
    show splitL c (b :: (p ++ c :: r)) = _
    rw [show splitL c (b :: (p ++ c :: r)) = if b = c then [] :: splitL c (p ++ c :: r) else match splitL c (p ++ c :: r) with | h :: t => (b :: h) :: t | [] => [[b]] from rfl, if_neg hb, splitL_hit r hl]
theorem index_miss {c : UInt8} : ∀ {l : List UInt8}, Lib.index l [c] = -1 → c ∉ l
  | [], _ => by simp
  | b :: l, h => by
    unfold Lib.index at h
    have hp : [c].isPrefixOf (b :: l) = (c == b) := by simp [List.isPrefixOf]
    rw [hp] at h
    split at h
    · omega
    · rename_i hb
      split at h
      · rename_i hi
        have := index_miss (by simpa using hi : Lib.index l [c] = -1)
        simp only [List.mem_cons, not_or]
        exact ⟨fun e => hb (by simp [e]), this⟩
      · have := Lib.index_ge l [c]
        omega
theorem index_hit {c : UInt8} : ∀ {l : List UInt8} {i : Nat}, Lib.index l [c] = i → l = l.take i ++ c :: l.drop (i + 1) ∧ c ∉ l.take i
  | [], i, h => by
    unfold Lib.index at h
    simp at h
  | b :: l, i, h => by
    unfold Lib.index at h
    have hp : [c].isPrefixOf (b :: l) = (c == b) := by simp [List.isPrefixOf]
    rw [hp] at h
    split at h
    · rename_i hb
      have hb' : c = b := by simpa using hb
      obtain rfl : i = 0 := by omega
      subst hb'
      simp
    · rename_i hb
      split at h
      · omega
      · rename_i hi
        have hne : Lib.index l [c] ≠ -1 := by simpa using hi
        have hge := Lib.index_ge l [c]
        obtain ⟨j, rfl⟩ : ∃ j, i = j + 1 := ⟨i - 1, by omega⟩
        obtain ⟨h1, h2⟩ := index_hit (c := c) (l := l) (i := j) (by omega)
        refine ⟨by simp only [List.take_succ_cons, List.drop_succ_cons, List.cons_append]; rw [← h1], ?_⟩
        simp only [List.take_succ_cons, List.mem_cons, not_or]
        exact ⟨fun e => hb (by simp [e]), h2⟩
/-- The kit's pieces are these. -/
theorem splitB_eq (c : UInt8) : ∀ (k : Nat) (s : ByteArray), Lib.countB s ⟨#[c]⟩ = k → (Lib.splitB ⟨#[c]⟩ 0 k s).map (·.data.toList) = splitL c s.data.toList := by
  intro k
  induction k with
  | zero =>
    intro s h
    rcases Lib.indexB_cases s ⟨#[c]⟩ with hm | ⟨i, hi, _⟩
    · rw [Lib.splitB_zero, splitL_miss (index_miss hm)]
      rfl
    · have := Lib.countB_hit s ⟨#[c]⟩ i (Nat.le_refl 1) hi
      omega
  | succ k ih =>
    intro s h
    rcases Lib.indexB_cases s ⟨#[c]⟩ with hm | ⟨i, hi, hroom⟩
    · have := Lib.countB_miss s ⟨#[c]⟩ hm
      omega
    · have h1 := Lib.countB_hit s ⟨#[c]⟩ i (Nat.le_refl 1) hi
      rw [Lib.splitB_hit _ _ _ _ _ hi, List.map_cons, ih _ (by omega)]
      obtain ⟨e1, e2⟩ := index_hit (l := s.data.toList) (i := i) hi
      rw [Lib.extract_data, Lib.extract_data]
      conv => rhs; rw [e1]
      rw [splitL_hit _ e2]
      have e3 : (⟨#[c]⟩ : ByteArray).size = 1 := rfl
      rw [e3]
      have e4 : List.take (s.size - (i + 1)) (List.drop (i + 1) s.data.toList) = List.drop (i + 1) s.data.toList :=
        List.take_of_length_le (by rw [List.length_drop, ← Lib.size_eq]; exact Nat.le_refl _)
      rw [e4]
      simp
/-- The pieces as strings. -/
def splitW (c : UInt8) (l : List UInt8) : List ByteArray := (splitL c l).map fun x => ⟨x.toArray⟩
theorem splitB_all' (c : UInt8) (s : ByteArray) : Lib.splitB ⟨#[c]⟩ 0 (Lib.countB s ⟨#[c]⟩) s = splitW c s.data.toList := by
  unfold splitW
  rw [← splitB_eq c _ s rfl, List.map_map]
  conv => lhs; rw [← List.map_id (Lib.splitB ⟨#[c]⟩ 0 (Lib.countB s ⟨#[c]⟩) s)]
  apply List.map_congr_left
  intro x _
  apply ByteArray.ext
  simp
theorem splitL_lt (c : UInt8) : ∀ l : List UInt8, (splitL c l).length ≤ l.length + 1
  | [] => by simp [splitL]
  | b :: l => by
    have ih := splitL_lt c l
    unfold splitL
    split
    · simp; omega
    · cases h : splitL c l with
      | nil => simp
      | cons x y => rw [h] at ih; simp at ih ⊢; omega

/-- The numbers of texts. -/
def readAll : List (List UInt8) → Option (List Nat)
  | [] => some []
  | x :: l => (readOf x).bind fun a => (readAll l).bind fun r => some (a :: r)
theorem readAll_len : ∀ {l : List (List UInt8)} {r : List Nat}, readAll l = some r → r.length = l.length
  | [], r, h => by simp [readAll] at h; simp [← h]
  | x :: l, r, h => by
    unfold readAll at h
    cases h1 : readOf x with
    | none => rw [h1] at h; simp at h
    | some a =>
      rw [h1] at h
      cases h2 : readAll l with
      | none => rw [h2] at h; simp at h
      | some r' =>
        rw [h2] at h
        have := readAll_len h2
        simp at h
        rw [← h]; simp [this]
theorem readAll_snoc : ∀ (l : List (List UInt8)) (x : List UInt8), readAll (l ++ [x]) = (readAll l).bind fun r => (readOf x).bind fun a => some (r ++ [a])
  | [], x => by
    show ((readOf x).bind fun a => (readAll []).bind fun r => some (a :: r)) = _
    cases readOf x <;> rfl
  | y :: l, x => by
    show ((readOf y).bind fun a => (readAll (l ++ [x])).bind fun r => some (a :: r)) = ((readOf y).bind fun a => (readAll l).bind fun r => some (a :: r)).bind _
    rw [readAll_snoc l x]
    cases readOf y with
    | none => rfl
    | some a =>
      cases readAll l with
      | none => rfl
      | some r => cases readOf x <;> rfl
theorem first_split {c : UInt8} : ∀ {l : List UInt8}, c ∈ l → ∃ p r, l = p ++ c :: r ∧ c ∉ p
  | [], h => absurd h (by simp)
  | b :: l, h => by
    by_cases e : b = c
    · subst e; exact ⟨[], l, rfl, by simp⟩
    · have h' : c ∈ l := by
        rcases List.mem_cons.1 h with h | h
        · exact absurd h.symm e
        · exact h
      obtain ⟨p, r, h1, h2⟩ := first_split h'
      exact ⟨b :: p, r, by rw [h1]; rfl, by simp only [List.mem_cons, not_or]; exact ⟨fun e2 => e e2.symm, h2⟩⟩
/-- Texts of numbers are eight bytes long. -/
theorem readAll_sum : ∀ {l : List UInt8} {r : List Nat}, readAll (splitL 32 l) = some r → l.length + 1 = 9 * r.length := by
  suffices h : ∀ (n : Nat) (l : List UInt8) (r : List Nat), l.length ≤ n → readAll (splitL 32 l) = some r → l.length + 1 = 9 * r.length from fun {l r} => h l.length l r (Nat.le_refl _)
  intro n
  induction n with
  | zero =>
    intro l r hl h
    obtain rfl : l = [] := List.eq_nil_of_length_eq_zero (by omega)
    have : readOf [] = none := readOf_len (by simp)
    simp [splitL, readAll, this] at h
  | succ n ih =>
    intro l r hl h
    by_cases hc : (32 : UInt8) ∈ l
    · obtain ⟨p, q, e, hp⟩ := first_split hc
      rw [e, splitL_hit q hp] at h
      unfold readAll at h
      cases h1 : readOf p with
      | none => rw [h1] at h; simp at h
      | some a =>
        rw [h1] at h
        have hl8 : p.length = 8 := Classical.byContradiction fun e => by rw [readOf_len e] at h1; exact absurd h1 (by simp)
        cases h2 : readAll (splitL 32 q) with
        | none => rw [h2] at h; simp at h
        | some r' =>
          rw [h2] at h
          have hq : q.length ≤ n := by
            have := congrArg List.length e
            simp at this
            omega
          have := ih q r' hq h2
          simp at h
          rw [← h, e]
          simp
          omega
    · rw [splitL_miss hc] at h
      unfold readAll at h
      cases h1 : readOf l with
      | none => rw [h1] at h; simp at h
      | some a =>
        rw [h1] at h
        simp [readAll] at h
        have hl8 : l.length = 8 := Classical.byContradiction fun e => by rw [readOf_len e] at h1; exact absurd h1 (by simp)
        rw [← h]; simp; omega
end Go.Proofs.YtckcngmbbnilnaaDoor
