/- The plate of a text; plain. -/
import Derived.Test.YtckcngmbbnilnaaDoorReadTQ
import Derived.Test.YtckcngmbbnilnaaDoorPPlain
set_option linter.unusedVariables false
set_option linter.unusedSimpArgs false
namespace Go.Proofs.YtckcngmbbnilnaaDoor
open Go.RowKit Go.Lib

/-- Rows of numbers, each of so many. -/
def readRows (wd : Nat) : List (List UInt8) → Option (List (List Nat))
  | [] => some []
  | x :: l => (numsOf x wd).bind fun r => (readRows wd l).bind fun R => some (r :: R)
/-- The cells of rows of numbers. -/
def plF (G : List (List Nat)) : Nat → Nat := fun i => (G.getD (i / 8) []).getD (i % 8) 0
/-- The plate with a text. -/
def readPL (l : List UInt8) : Option (Nat × Nat × List (List Nat)) :=
  match splitL 10 l with
  | [] => none
  | l0 :: ls => match splitL 32 l0 with
    | [a, b] => (numOf a).bind fun wd => (numOf b).bind fun hg => if (1 ≤ wd ∧ wd < 9) ∧ (1 ≤ hg ∧ hg < 9) ∧ ls.length = hg + 1 ∧ ls.getD hg [] = [] then (readRows wd (ls.take hg)).bind fun G => if plateB wd hg (plF G) then some (wd, hg, G) else none else none
    | _ => none
def rpRow (o : Option (Nat × Nat × List (List Nat))) : Array Value := match o with | some (a, b, G) => plate a b (plF G) | none => plate 0 0 (fun _ => 0)
def rpCode (o : Option (Nat × Nat × List (List Nat))) : Int := if o.isSome then 0 else 5

theorem readRows_snoc (wd : Nat) : ∀ (l : List (List UInt8)) (x : List UInt8), readRows wd (l ++ [x]) = (readRows wd l).bind fun R => (numsOf x wd).bind fun r => some (R ++ [r])
  | [], x => by
    show (numsOf x wd).bind _ = _
    cases numsOf x wd <;> rfl
  | y :: l, x => by
    show (numsOf y wd).bind (fun r => (readRows wd (l ++ [x])).bind fun R => some (r :: R)) = _
    rw [readRows_snoc wd l x]
    show _ = ((numsOf y wd).bind fun r => (readRows wd l).bind fun R => some (r :: R)).bind _
    cases numsOf y wd with
    | none => rfl
    | some r =>
      cases readRows wd l with
      | none => rfl
      | some R => cases numsOf x wd <;> rfl
theorem readRows_take {wd : Nat} {l : List (List UInt8)} {k : Nat} {G : List (List Nat)} {x : List UInt8} (h : readRows wd (l.take k) = some G) (hx : l[k]? = some x) : readRows wd (l.take (k + 1)) = (numsOf x wd).bind fun r => some (G ++ [r]) := by
  rw [List.take_add_one, hx]
  show readRows wd (l.take k ++ [x]) = _
  rw [readRows_snoc, h]
  rfl
theorem readRows_no {wd : Nat} {l : List (List UInt8)} {k : Nat} {x : List UInt8} (hx : l[k]? = some x) (h : numsOf x wd = none) : readRows wd l = none := by
  induction l generalizing k with
  | nil => simp at hx
  | cons y l ih =>
    unfold readRows
    cases k with
    | zero =>
      simp at hx
      subst hx
      rw [h]; rfl
    | succ k =>
      rw [ih (by simpa using hx)]
      cases numsOf y wd <;> rfl
theorem readRows_at {wd : Nat} {l : List (List UInt8)} {G : List (List Nat)} (h : readRows wd l = some G) : G.length = l.length ∧ ∀ (k : Nat) x, l[k]? = some x → ∃ r, G[k]? = some r ∧ numsOf x wd = some r := by
  induction l generalizing G with
  | nil => simp [readRows] at h; subst h; simp
  | cons y l ih =>
    unfold readRows at h
    cases h1 : numsOf y wd with
    | none => rw [h1] at h; simp at h
    | some r =>
      rw [h1] at h
      cases h2 : readRows wd l with
      | none => rw [h2] at h; simp at h
      | some R =>
        rw [h2] at h
        simp at h
        subst h
        obtain ⟨e1, e2⟩ := ih h2
        refine ⟨by simp [e1], fun k x hx => ?_⟩
        cases k with
        | zero => simp at hx; subst hx; exact ⟨r, rfl, h1⟩
        | succ k => exact e2 k x (by simpa using hx)
theorem plF_zero : plF [] = fun _ => 0 := by
  funext i; unfold plF; simp
/-- A row more. -/
theorem plF_row (G : List (List Nat)) (H : List Nat) (hH : H.length ≤ 8) : plF (G ++ [H]) = fun i => if 8 * G.length ≤ i ∧ i < 8 * G.length + H.length then H.getD (i - 8 * G.length) 0 else plF G i := by
  funext i
  unfold plF
  by_cases h1 : i / 8 < G.length
  · rw [if_neg (by omega)]
    simp [List.getD, List.getElem?_append_left h1]
  · by_cases h2 : i / 8 = G.length
    · have e : (G ++ [H]).getD (i / 8) [] = H := by simp [List.getD, h2]
      have e2 : G.getD (i / 8) [] = [] := by simp [List.getD, List.getElem?_eq_none (show G.length ≤ i / 8 by omega)]
      rw [e, e2]
      by_cases h3 : i < 8 * G.length + H.length
      · rw [if_pos ⟨by omega, h3⟩, show i % 8 = i - 8 * G.length by omega]
      · rw [if_neg (by omega)]
        simp [List.getD, List.getElem?_eq_none (show H.length ≤ i % 8 by omega)]
    · rw [if_neg (by omega)]
      have e : (G ++ [H]).getD (i / 8) [] = [] := by simp [List.getD, List.getElem?_eq_none (show (G ++ [H]).length ≤ i / 8 by simp; omega)]
      have e2 : G.getD (i / 8) [] = [] := by simp [List.getD, List.getElem?_eq_none (show G.length ≤ i / 8 by omega)]
      rw [e, e2]
theorem plF_nil (G : List (List Nat)) : plF (G ++ [[]]) = plF G := by
  rw [plF_row G [] (by simp)]
  funext i
  rw [if_neg (by simp)]
theorem plF_snoc (G : List (List Nat)) (H : List Nat) (a : Nat) (hH : H.length < 8) : plF (G ++ [H ++ [a]]) = upd (plF (G ++ [H])) (H.length + 8 * G.length) a := by
  rw [plF_row G (H ++ [a]) (by simp; omega), plF_row G H (by omega)]
  funext i
  unfold upd
  simp only [List.length_append, List.length_cons, List.length_nil]
  by_cases e : i = H.length + 8 * G.length
  · rw [if_pos e, if_pos (by omega)]
    simp [List.getD, e]
  · rw [if_neg e]
    by_cases h : 8 * G.length ≤ i ∧ i < 8 * G.length + H.length
    · rw [if_pos h, if_pos (by omega)]
      simp [List.getD, List.getElem?_append_left (show i - 8 * G.length < H.length by omega)]
    · rw [if_neg h, if_neg (by omega)]
/-- A plate of rows of parts. -/
theorem plate_yes {wd hg : Nat} {G : List (List Nat)} (w1 : 1 ≤ wd) (w9 : wd < 9) (h1 : 1 ≤ hg) (h9 : hg < 9) (hG : G.length = hg) (hr : ∀ r ∈ G, r.length = wd ∧ ∀ v ∈ r, partB v = true) : plateB wd hg (plF G) = true := by
  unfold plateB
  have hs : sizeB wd hg = true := sizeB_iff.2 ⟨⟨by omega, by omega⟩, by omega, by omega⟩
  rw [hs, Bool.true_and]
  cases hd : dotsB (wd : Int).toNat (hg : Int).toNat (plF G) 64
  · exfalso
    have hno : ∀ n, dotsB wd hg (plF G) n = false → ∃ k, k < n ∧ dotB wd hg (plF G) k = false := by
      intro n
      induction n with
      | zero => intro h; simp [dotsB] at h
      | succ n ih =>
        intro h
        unfold dotsB at h
        cases e : dotB wd hg (plF G) n
        · exact ⟨n, by omega, e⟩
        · rw [e, Bool.and_true] at h
          obtain ⟨k, hk, hk2⟩ := ih h
          exact ⟨k, by omega, hk2⟩
    obtain ⟨k, hk, hk2⟩ := hno 64 (by simpa using hd)
    unfold dotB at hk2
    cases hc : isC wd hg k
    · rw [hc] at hk2
      simp only [Bool.false_eq_true, if_false] at hk2
      have hz : plF G k = 0 := by
        unfold plF
        rw [isC_no] at hc
        by_cases h : k / 8 < hg
        · have hm := List.getElem_mem (l := G) (n := k / 8) (by omega)
          have hl := (hr _ hm).1
          have e : G.getD (k / 8) [] = G[k / 8]'(by omega) := by simp [List.getD, show k / 8 < G.length by omega]
          rw [e]
          simp [List.getD, List.getElem?_eq_none (show (G[k / 8]'(by omega)).length ≤ k % 8 by omega)]
        · simp [List.getD, List.getElem?_eq_none (show G.length ≤ k / 8 by omega)]
      rw [hz] at hk2
      exact absurd hk2 (by decide)
    · rw [hc] at hk2
      simp only [if_true] at hk2
      rw [isC_iff] at hc
      have hm := List.getElem_mem (l := G) (n := k / 8) (by omega)
      obtain ⟨hl, hp⟩ := hr _ hm
      have e : G.getD (k / 8) [] = G[k / 8]'(by omega) := by simp [List.getD, show k / 8 < G.length by omega]
      have e2 : plF G k = (G[k / 8]'(by omega))[k % 8]'(by omega) := by
        unfold plF
        rw [e]
        simp [List.getD, show k % 8 < (G[k / 8]'(by omega)).length by omega]
      rw [e2, hp _ (List.getElem_mem _)] at hk2
      cases hk2
  · rfl
theorem plate_no {wd hg : Nat} {G : List (List Nat)} (w9 : wd < 9) (h9 : hg < 9) {y x a : Nat} {r : List Nat} (hy : y < hg) (hx : x < wd) (hr : G[y]? = some r) (ha : r[x]? = some a) (hp : partB a = false) : plateB wd hg (plF G) = false := by
  cases hb : plateB wd hg (plF G)
  · rfl
  · obtain ⟨a', b', ea, eb, _, _, _, _, h1, _⟩ := plateB_size hb
    have ea' : a' = wd := by omega
    have eb' : b' = hg := by omega
    subst ea' eb'
    have := h1 (x + 8 * y) (by omega) (cell_xy (by omega) hx hy)
    have e : plF G (x + 8 * y) = a := by
      unfold plF
      rw [show (x + 8 * y) / 8 = y by omega, show (x + 8 * y) % 8 = x by omega]
      simp [List.getD, hr, ha]
    rw [e, hp] at this
    cases this
theorem readPL_valid {l : List UInt8} {a b : Nat} {G : List (List Nat)} (h : readPL l = some (a, b, G)) : plateB a b (plF G) = true := by
  unfold readPL at h
  split at h
  · simp at h
  · split at h
    · rename_i x y _
      cases h1 : numOf x with
      | none => rw [h1] at h; simp at h
      | some wd =>
        cases h2 : numOf y with
        | none => rw [h1, h2] at h; simp at h
        | some hg =>
          rw [h1, h2] at h
          simp only [Option.bind] at h
          split at h
          · cases hr : readRows wd (List.take hg _) with
            | none => rw [hr] at h; simp at h
            | some G' =>
              rw [hr] at h
              simp only at h
              split at h
              · rename_i hb
                injection h with h
                injection h with e1 h
                injection h with e2 e3
                subst e1 e2 e3
                exact hb
              · simp at h
          · simp at h
    · simp at h
/-- The plate of a text whose first line is known. -/
theorem readPL_of {l l0 a b : List UInt8} {ls : List (List UInt8)} {wd hg : Nat} (hs : splitL 10 l = l0 :: ls) (hf : splitL 32 l0 = [a, b]) (ha : numOf a = some wd) (hb : numOf b = some hg) : readPL l = if (1 ≤ wd ∧ wd < 9) ∧ (1 ≤ hg ∧ hg < 9) ∧ ls.length = hg + 1 ∧ ls.getD hg [] = [] then (readRows wd (ls.take hg)).bind fun G => if plateB wd hg (plF G) then some (wd, hg, G) else none else none := by
  unfold readPL
  rw [hs]
  simp only
  rw [hf]
  simp only
  rw [ha, hb]
  rfl
theorem readPL_two {l l0 : List UInt8} {ls : List (List UInt8)} (hs : splitL 10 l = l0 :: ls) (hf : (splitL 32 l0).length ≠ 2) : readPL l = none := by
  unfold readPL
  rw [hs]
  simp only
  split
  · rename_i h
    rw [h] at hf
    simp at hf
  · rfl
theorem readPL_num {l l0 a b : List UInt8} {ls : List (List UInt8)} (hs : splitL 10 l = l0 :: ls) (hf : splitL 32 l0 = [a, b]) (h : numOf a = none ∨ numOf b = none) : readPL l = none := by
  unfold readPL
  rw [hs]
  simp only
  rw [hf]
  simp only
  rcases h with h | h
  · rw [h]; rfl
  · rw [h]
    cases numOf a <;> rfl
theorem readPL_bad {l l0 a b : List UInt8} {ls : List (List UInt8)} {wd hg : Nat} (hs : splitL 10 l = l0 :: ls) (hf : splitL 32 l0 = [a, b]) (ha : numOf a = some wd) (hb : numOf b = some hg) (h : ¬ ((1 ≤ wd ∧ wd < 9) ∧ (1 ≤ hg ∧ hg < 9) ∧ ls.length = hg + 1 ∧ ls.getD hg [] = [])) : readPL l = none := by
  rw [readPL_of hs hf ha hb, if_neg h]
theorem splitL_single {c : UInt8} {l x : List UInt8} (h : splitL c l = [x]) : l = x := by
  by_cases hc : c ∈ l
  · obtain ⟨p, r, rfl, hp⟩ := first_split hc
    rw [splitL_hit r hp] at h
    injection h with h1 h2
    exact absurd h2 (splitL_ne c r)
  · rw [splitL_miss hc] at h
    injection h
theorem dec_noblank : ∀ n, n < 13 → (32 : UInt8) ∉ Lib.decDigits n := by decide +kernel
theorem dec_short : ∀ n, n < 13 → (Lib.decDigits n).length ≤ 2 := by decide +kernel
theorem dec_nonempty : ∀ n, n < 13 → Lib.decDigits n ≠ [] := by decide +kernel
/-- The first line, cut once. -/
theorem head_yes {l0 : List UInt8} {m h : Nat} (hm : m < 13) (hh : h < 13) (hx : (Lib.cut l0 [32]).1 = Lib.decDigits m) (hy : (Lib.cut l0 [32]).2.1 = Lib.decDigits h) : splitL 32 l0 = [Lib.decDigits m, Lib.decDigits h] := by
  rcases cut_split (c := 32) l0 with ⟨_, hs⟩ | ⟨_, _, hr, _⟩
  · rw [hs, hx, hy, splitL_miss (dec_noblank h hh)]
  · rw [hr] at hy
    exact absurd hy.symm (dec_nonempty h hh)
theorem head_no {l l0 : List UInt8} {ls : List (List UInt8)} (hs : splitL 10 l = l0 :: ls) (h : ∀ m k, 1 ≤ m → m < 9 → 1 ≤ k → k < 9 → (Lib.cut l0 [32]).1 = Lib.decDigits m → (Lib.cut l0 [32]).2.1 = Lib.decDigits k → False) : readPL l = none := by
  by_cases h2 : (splitL 32 l0).length = 2
  · obtain ⟨a, b, hab⟩ : ∃ a b, splitL 32 l0 = [a, b] := by
      match hq : splitL 32 l0, h2 with
      | [a, b], _ => exact ⟨a, b, rfl⟩
    cases h3 : numOf a with
    | none => exact readPL_num hs hab (Or.inl h3)
    | some m =>
      cases h4 : numOf b with
      | none => exact readPL_num hs hab (Or.inr h4)
      | some k =>
        by_cases hc : (1 ≤ m ∧ m < 9) ∧ (1 ≤ k ∧ k < 9) ∧ ls.length = k + 1 ∧ ls.getD k [] = []
        · exfalso
          have ea := numOf_small h3 (by omega)
          have eb := numOf_small h4 (by omega)
          rcases cut_split (c := 32) l0 with ⟨_, hs2⟩ | ⟨_, _, _, hs2⟩
          · rw [hab] at hs2
            injection hs2 with e1 e2
            exact h m k hc.1.1 hc.1.2 hc.2.1.1 hc.2.1.2 (by rw [← e1, ea]) (by rw [splitL_single e2.symm, eb])
          · rw [hab] at hs2
            simp at hs2
        · exact readPL_bad hs hab h3 h4 hc
  · exact readPL_two hs h2
/-- A text that is too long has no plate. -/
theorem splitL_sum (c : UInt8) : ∀ l : List UInt8, l.length + 1 = ((splitL c l).map fun x => x.length + 1).sum
  | [] => rfl
  | b :: l => by
    have ih := splitL_sum c l
    unfold splitL
    split
    · simp; omega
    · cases hs : splitL c l with
      | nil => exact absurd hs (splitL_ne c l)
      | cons y r =>
        rw [hs] at ih
        simp at ih ⊢
        omega
theorem readPL_long {l : List UInt8} (h : 1000 < l.length) : readPL l = none := by
  cases hq : readPL l with
  | none => rfl
  | some p =>
    exfalso
    unfold readPL at hq
    split at hq
    · simp at hq
    · rename_i l0 ls hs
      split at hq
      · rename_i a b hf
        cases h1 : numOf a with
        | none => rw [h1] at hq; simp at hq
        | some wd =>
          cases h2 : numOf b with
          | none => rw [h1, h2] at hq; simp at hq
          | some hg =>
            rw [h1, h2] at hq
            simp only [Option.bind] at hq
            split at hq
            · rename_i hc
              cases hr : readRows wd (ls.take hg) with
              | none => rw [hr] at hq; simp at hq
              | some G =>
                obtain ⟨e1, e2⟩ := readRows_at hr
                have s0 := splitL_sum 10 l
                have s1 := splitL_sum 32 l0
                rw [hs] at s0
                rw [hf] at s1
                have la : a.length ≤ 2 := by rw [numOf_small h1 (by omega)]; exact dec_short wd (by omega)
                have lb : b.length ≤ 2 := by rw [numOf_small h2 (by omega)]; exact dec_short hg (by omega)
                have hls : ∀ x ∈ ls, x.length + 1 ≤ 72 := by
                  intro x hx
                  obtain ⟨j, hj⟩ := List.getElem?_of_mem hx
                  have hjl := (List.getElem?_eq_some_iff.1 hj).1
                  by_cases hjh : j < hg
                  · obtain ⟨r, _, hn⟩ := e2 j x (by rw [List.getElem?_take, if_pos hjh]; exact hj)
                    have := (numsOf_len hn).1
                    omega
                  · obtain rfl : j = hg := by omega
                    have : ls.getD j [] = x := by simp [List.getD, hj]
                    rw [hc.2.2.2] at this
                    rw [← this]
                    simp
                have hsum : ∀ L : List (List UInt8), (∀ x ∈ L, x.length + 1 ≤ 72) → (L.map fun x => x.length + 1).sum ≤ 72 * L.length := by
                  intro L
                  induction L with
                  | nil => intro _; simp
                  | cons y L ih =>
                    intro hL
                    have := ih fun x hx => hL x (by simp [hx])
                    have := hL y (by simp)
                    simp at *
                    omega
                have := hsum ls hls
                simp at s0 s1
                omega
            · simp at hq
      · simp at hq
end Go.Proofs.YtckcngmbbnilnaaDoor
