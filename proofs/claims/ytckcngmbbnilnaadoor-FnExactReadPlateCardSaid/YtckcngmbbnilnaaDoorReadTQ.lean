/- The train of a text; plain, for the program's side. -/
import Derived.Test.YtckcngmbbnilnaaDoorReadTP
import Derived.Test.YtckcngmbbnilnaaDoorHeld2
import Derived.Laws.CopyRow
set_option linter.unusedVariables false
set_option linter.unusedSimpArgs false
namespace Go.Proofs.YtckcngmbbnilnaaDoor
open Go.RowKit Go.Lib

/-- strings.Cut at one byte, and the pieces at that byte. -/
theorem cut_split {c : UInt8} (l : List UInt8) : (c ∈ l ∧ splitL c l = (Lib.cut l [c]).1 :: splitL c (Lib.cut l [c]).2.1) ∨ (c ∉ l ∧ (Lib.cut l [c]).1 = l ∧ (Lib.cut l [c]).2.1 = [] ∧ splitL c l = [l]) := by
  unfold Lib.cut
  by_cases h : 0 ≤ Lib.index l [c]
  · left
    rw [if_pos h]
    obtain ⟨i, hi⟩ : ∃ i : Nat, Lib.index l [c] = i := ⟨(Lib.index l [c]).toNat, by omega⟩
    obtain ⟨h1, h2⟩ := index_hit hi
    have e : (Lib.index l [c]).toNat = i := by rw [hi]; rfl
    show c ∈ l ∧ splitL c l = l.take (Lib.index l [c]).toNat :: splitL c (l.drop ((Lib.index l [c]).toNat + [c].length))
    rw [e]
    refine ⟨by rw [h1]; simp, ?_⟩
    conv => lhs; rw [h1]
    rw [splitL_hit _ h2]
    rfl
  · right
    rw [if_neg h]
    have h2 : c ∉ l := index_miss (by have := Lib.index_ge l [c]; omega)
    exact ⟨h2, rfl, rfl, splitL_miss h2⟩

/-- The train behind the first word. -/
theorem readTR_of {l : List UInt8} {n : Nat} (h2 : 2 ≤ n) (h12 : n ≤ 12) (hw : (Lib.cut l [32]).1 = Lib.decDigits n) : readTR l = (numsOf (Lib.cut l [32]).2.1 (n + 2)).bind fun G => if trainGB n G then some (n, G) else none := by
  have hnum : numOf (Lib.cut l [32]).1 = some n := by rw [hw]; exact numOf_dec n (by omega)
  rcases cut_split (c := 32) l with ⟨_, hs⟩ | ⟨_, hx, hr, hs⟩
  · rw [readTR_cons hs, hnum]
    show (if n < 13 ∧ (splitL 32 (Lib.cut l [32]).2.1).length = n + 2 then _ else none) = _
    unfold numsOf
    cases hra : readAll (splitL 32 (Lib.cut l [32]).2.1) with
    | none => split <;> rfl
    | some G =>
      have hl := readAll_len hra
      by_cases e : G.length = n + 2
      · rw [if_pos ⟨by omega, by omega⟩]
        show _ = (if G.length = n + 2 then some G else none).bind _
        rw [if_pos e]
      · rw [if_neg (by omega)]
        show _ = (if G.length = n + 2 then some G else none).bind _
        rw [if_neg e]
        rfl
  · have hs2 : splitL 32 l = (Lib.cut l [32]).1 :: [] := by rw [hx]; exact hs
    rw [readTR_cons hs2, hnum]
    show (if n < 13 ∧ ([] : List (List UInt8)).length = n + 2 then _ else none) = _
    rw [if_neg (by simp)]
    have e : numsOf (Lib.cut l [32]).2.1 (n + 2) = none := by
      cases hq : numsOf (Lib.cut l [32]).2.1 (n + 2) with
      | none => rfl
      | some G =>
        have := (numsOf_len hq).1
        rw [hr] at this
        simp at this
        omega
    rw [e]
    rfl
/-- Where the first word is no number of rollers there is no train. -/
theorem readTR_no {l : List UInt8} (h : ∀ m, 2 ≤ m → m ≤ 12 → (Lib.cut l [32]).1 ≠ Lib.decDigits m) : readTR l = none := by
  have hcons : ∃ ws, splitL 32 l = (Lib.cut l [32]).1 :: ws := by
    rcases cut_split (c := 32) l with ⟨_, hs⟩ | ⟨_, hx, hr, hs⟩
    · exact ⟨_, hs⟩
    · exact ⟨[], by rw [hx]; exact hs⟩
  obtain ⟨ws, hs⟩ := hcons
  rw [readTR_cons hs]
  cases hn : numOf (Lib.cut l [32]).1 with
  | none => rfl
  | some n =>
    show (if n < 13 ∧ ws.length = n + 2 then _ else none) = _
    split
    · rename_i hc
      cases hra : readAll ws with
      | none => rfl
      | some G =>
        show (if trainGB n G then some (n, G) else none) = none
        cases hb : trainGB n G
        · rfl
        · obtain ⟨h2, h12⟩ := trainGB_range hb
          exact absurd (numOf_small hn hc.1) (h n h2 h12)
    · rfl
theorem readTR_none {l : List UInt8} {n : Nat} (h2 : 2 ≤ n) (h12 : n ≤ 12) (hw : (Lib.cut l [32]).1 = Lib.decDigits n) (h : numsOf (Lib.cut l [32]).2.1 (n + 2) = none) : readTR l = none := by
  rw [readTR_of h2 h12 hw, h]; rfl
theorem readTR_some {l : List UInt8} {n : Nat} {G : List Nat} (h2 : 2 ≤ n) (h12 : n ≤ 12) (hw : (Lib.cut l [32]).1 = Lib.decDigits n) (h : numsOf (Lib.cut l [32]).2.1 (n + 2) = some G) : readTR l = if trainGB n G then some (n, G) else none := by
  rw [readTR_of h2 h12 hw, h]; rfl
/-- What a digit's contract says of a number of rollers. -/
theorem dig_roll {l : List UInt8} {n : Int} {ok : Bool} (h1 : ok = true → l = Lib.itoa n) (h2 : ∀ m, m < 13 → l = Lib.decDigits m → ok = true ∧ n = m) : (∃ m : Nat, 2 ≤ m ∧ m ≤ 12 ∧ n = m ∧ ok = true ∧ l = Lib.decDigits m) ∨ ((ok = false ∨ n < 2 ∨ 12 < n) ∧ ∀ m, 2 ≤ m → m ≤ 12 → l ≠ Lib.decDigits m) := by
  by_cases h : ok = true ∧ 2 ≤ n ∧ n ≤ 12
  · left
    obtain ⟨e, a, b⟩ := h
    obtain ⟨m, rfl⟩ : ∃ m : Nat, n = m := ⟨n.toNat, by omega⟩
    exact ⟨m, by omega, by omega, rfl, e, by rw [h1 e, itoa_nonneg]⟩
  · right
    refine ⟨?_, fun m a b e => h ?_⟩
    · cases ok
      · exact Or.inl rfl
      · right; have : ¬ (2 ≤ n ∧ n ≤ 12) := fun x => h ⟨rfl, x⟩; omega
    · obtain ⟨e1, e2⟩ := h2 m (by omega) e
      exact ⟨e1, by omega, by omega⟩

/-- A copy. -/
theorem oper_copy {P : Program} {o : Oper} {a : Act} {w : World} {K : Act → World → Prop} {Q : Exit → Act → World → Prop} (d s : Operand) (dT sT : TypeId)
    (ho : o.op = .call { callee := .builtin .copy, args := #[d, s], argTypes := #[dT, sT] }) (elem : TypeId) (hu : P.underlying dT = some (.slice elem)) (hsz : (P.info? elem).map (·.size) = some 1)
    (g off dLen dCap : Nat) (ad : Addr) (sLen sCap : Nat) (hd : a.eval d = .slice (some ⟨g, off, none⟩) dLen dCap) (hs : a.eval s = .slice (some ad) sLen sCap)
    (cur : Array Value) (t : TypeId) (hg : w.heap[g]? = some (.cells cur t (0, 0))) (cs : List Value) (hn : cs.length = Nat.min sLen dLen)
    (hsrc : ∀ j v, cs[j]? = some v → w.cell? (ad.add j) = some v) (hfit : off + cs.length ≤ cur.size) (h1 : ∀ v ∈ cs, v.oneCell' = true)
    (h : K (a.put o.dst (goInt cs.length)) (w.setRow g (cur.toList.take off ++ (cs ++ cur.toList.drop (off + cs.length))).toArray)) : o.wp P a w K Q := by
  have hrun := run_copy_row (P := P) w dT sT o.type elem g off dLen dCap ad sLen sCap cur t cs hu hsz hg hn hsrc hfit h1
  unfold Oper.wp
  simp [execOp, ho, resolve, invoke, builtin, hd, hs, hrun, Result.andThen]
  exact h
/-- A piece of a row is written over by a list of numbers. -/
theorem row_paste (pre : List Value) (n : Nat) (F : Nat → Nat) (k : Nat) (H : List Nat) (h : k + H.length ≤ n) : ((row pre n F).toList.take (pre.length + k) ++ (H.map (Value.float .f32) ++ (row pre n F).toList.drop (pre.length + k + (H.map (Value.float .f32)).length))).toArray = row pre n (fun i => if k ≤ i ∧ i < k + H.length then H.getD (i - k) 0 else F i) := by
  have e : ((List.range n).map (fun i => Value.float .f32 (F i))).take k ++ (H.map (Value.float .f32) ++ ((List.range n).map (fun i => Value.float .f32 (F i))).drop (k + H.length)) = (List.range n).map (fun i => Value.float .f32 (if k ≤ i ∧ i < k + H.length then H.getD (i - k) 0 else F i)) := by
    apply List.ext_getElem?
    intro j
    have hl : (((List.range n).map (fun i => Value.float .f32 (F i))).take k).length = k := by simp; omega
    by_cases h1 : j < k
    · rw [List.getElem?_append_left (by omega)]
      have hjn : j < n := by omega
      simp [h1, hjn, show ¬ k ≤ j by omega]
    · rw [List.getElem?_append_right (by omega), hl]
      by_cases h2 : j < k + H.length
      · have hjn : j < n := by omega
        have hjk : j - k < H.length := by omega
        rw [List.getElem?_append_left (by simp; omega)]
        simp [hjn, h2, show k ≤ j by omega, hjk]
      · rw [List.getElem?_append_right (by simp; omega)]
        rw [List.getElem?_drop, List.length_map, show k + H.length + (j - k - H.length) = j by omega]
        by_cases hjn : j < n
        · simp [hjn, h2]
        · simp [hjn]
  unfold row
  rw [← e]
  simp [List.take_append, List.drop_append]
  rw [List.take_of_length_le (by omega), List.drop_of_length_le (by omega), show pre.length + k + H.length - pre.length = k + H.length by omega]
  simp
end Go.Proofs.YtckcngmbbnilnaaDoor
