/- Parts of a proof, merged; each under its own premises. -/
import Derived.Test.YtkokekndiammpaaGreatDoorPI
import Derived.Lib.Split
import Derived.Lib.CountLaws
import Derived.Lib.CutLaws
import Derived.Lib.SplitLaws
import Derived.Lib.ParseIntB
import Derived.Lib.ParseIntBTie
import Derived.Lib.SmallJoins
import Derived.Test.YtkokekndiammpaaGreatDoorPB
import Derived.Test.YtkokekndiammpaaGreatDoorPE
import Derived.Laws.CopyRow
import Derived.Test.YtkokekndiammpaaGreatDoorPF
import Derived.Test.YtkokekndiammpaaGreatDoorPA
import Derived.OpenShut
import Derived.Deep.Strs
import Derived.HandedShaped
import Derived.Shelf.Vars

/-! Texts that are cut at a byte, small decimals, lists of numbers; plain. -/
set_option linter.unusedVariables false
set_option linter.unusedSimpArgs false
namespace Go.Proofs.YtkokekndiammpaaGreatDoor
open Go.RowKit Go.Lib

/-- The pieces between the bytes c. -/
def splitL (c : UInt8) : List UInt8 → List (List UInt8)
  | [] => [[]]
  | b :: l => if b = c then [] :: splitL c l else match splitL c l with
    | h :: t => (b :: h) :: t
    | [] => [[b]]
theorem splitL_ne (c : UInt8) : ∀ l, splitL c l ≠ []
  | [] => by simp [splitL]
  | b :: l => by
    unfold splitL
    split
    · simp
    · cases h : splitL c l with
      | nil => simp
      | cons x y => simp
theorem splitL_miss {c : UInt8} : ∀ {l : List UInt8}, c ∉ l → splitL c l = [l]
  | [], _ => rfl
  | b :: l, h => by
    have hb : ¬ b = c := fun e => h (by simp [e])
    have hl : c ∉ l := fun e => h (by simp [e])
    unfold splitL
    rw [if_neg hb, splitL_miss hl]
theorem splitL_hit {c : UInt8} : ∀ {p : List UInt8} (r : List UInt8), c ∉ p → splitL c (p ++ c :: r) = p :: splitL c r
  | [], r, _ => by
    show (if c = c then [] :: splitL c r else match splitL c r with | h :: t => (c :: h) :: t | [] => [[c]]) = _
    rw [if_pos rfl]
  | b :: p, r, h => by
    have hb : ¬ b = c := fun e => h (by simp [e])
    have hl : c ∉ p := fun e => h (by simp [e])
    show splitL c (b :: (p ++ c :: r)) = _
    rw [show splitL c (b :: (p ++ c :: r)) = if b = c then [] :: splitL c (p ++ c :: r) else match splitL c (p ++ c :: r) with | h :: t => (b :: h) :: t | [] => [[b]] from rfl, if_neg hb, splitL_hit r hl]
theorem index_miss {c : UInt8} : ∀ {l : List UInt8}, Lib.index l [c] = -1 → c ∉ l
  | [], _ => by simp
  | b :: l, h => by
    unfold Lib.index at h
    have hp : [c].isPrefixOf (b :: l) = (c == b) := by simp [List.isPrefixOf]
    rw [hp] at h
    split at h
    · omega
    · rename_i hb
      split at h
      · rename_i hi
        have := index_miss (by simpa using hi : Lib.index l [c] = -1)
        simp only [List.mem_cons, not_or]
        exact ⟨fun e => hb (by simp [e]), this⟩
      · have := Lib.index_ge l [c]
        omega
theorem index_hit {c : UInt8} : ∀ {l : List UInt8} {i : Nat}, Lib.index l [c] = i → l = l.take i ++ c :: l.drop (i + 1) ∧ c ∉ l.take i
  | [], i, h => by
    unfold Lib.index at h
    simp at h
  | b :: l, i, h => by
    unfold Lib.index at h
    have hp : [c].isPrefixOf (b :: l) = (c == b) := by simp [List.isPrefixOf]
    rw [hp] at h
    split at h
    · rename_i hb
      have hb' : c = b := by simpa using hb
      obtain rfl : i = 0 := by omega
      subst hb'
      simp
    · rename_i hb
      split at h
      · omega
      · rename_i hi
        have hne : Lib.index l [c] ≠ -1 := by simpa using hi
        have hge := Lib.index_ge l [c]
        obtain ⟨j, rfl⟩ : ∃ j, i = j + 1 := ⟨i - 1, by omega⟩
        obtain ⟨h1, h2⟩ := index_hit (c := c) (l := l) (i := j) (by omega)
        refine ⟨by simp only [List.take_succ_cons, List.drop_succ_cons, List.cons_append]; rw [← h1], ?_⟩
        simp only [List.take_succ_cons, List.mem_cons, not_or]
        exact ⟨fun e => hb (by simp [e]), h2⟩
/-- The kit's pieces are these. -/
theorem splitB_eq (c : UInt8) : ∀ (k : Nat) (s : ByteArray), Lib.countB s ⟨#[c]⟩ = k → (Lib.splitB ⟨#[c]⟩ 0 k s).map (·.data.toList) = splitL c s.data.toList := by
  intro k
  induction k with
  | zero =>
    intro s h
    rcases Lib.indexB_cases s ⟨#[c]⟩ with hm | ⟨i, hi, _⟩
    · rw [Lib.splitB_zero, splitL_miss (index_miss hm)]
      rfl
    · have := Lib.countB_hit s ⟨#[c]⟩ i (Nat.le_refl 1) hi
      omega
  | succ k ih =>
    intro s h
    rcases Lib.indexB_cases s ⟨#[c]⟩ with hm | ⟨i, hi, hroom⟩
    · have := Lib.countB_miss s ⟨#[c]⟩ hm
      omega
    · have h1 := Lib.countB_hit s ⟨#[c]⟩ i (Nat.le_refl 1) hi
      rw [Lib.splitB_hit _ _ _ _ _ hi, List.map_cons, ih _ (by omega)]
      obtain ⟨e1, e2⟩ := index_hit (l := s.data.toList) (i := i) hi
      rw [Lib.extract_data, Lib.extract_data]
      conv => rhs; rw [e1]
      rw [splitL_hit _ e2]
      have e3 : (⟨#[c]⟩ : ByteArray).size = 1 := rfl
      rw [e3]
      have e4 : List.take (s.size - (i + 1)) (List.drop (i + 1) s.data.toList) = List.drop (i + 1) s.data.toList :=
        List.take_of_length_le (by rw [List.length_drop, ← Lib.size_eq]; exact Nat.le_refl _)
      rw [e4]
      simp
/-- The pieces as strings. -/
def splitW (c : UInt8) (l : List UInt8) : List ByteArray := (splitL c l).map fun x => ⟨x.toArray⟩
theorem splitB_all' (c : UInt8) (s : ByteArray) : Lib.splitB ⟨#[c]⟩ 0 (Lib.countB s ⟨#[c]⟩) s = splitW c s.data.toList := by
  unfold splitW
  rw [← splitB_eq c _ s rfl, List.map_map]
  conv => lhs; rw [← List.map_id (Lib.splitB ⟨#[c]⟩ 0 (Lib.countB s ⟨#[c]⟩) s)]
  apply List.map_congr_left
  intro x _
  apply ByteArray.ext
  simp
theorem splitL_lt (c : UInt8) : ∀ l : List UInt8, (splitL c l).length ≤ l.length + 1
  | [] => by simp [splitL]
  | b :: l => by
    have ih := splitL_lt c l
    unfold splitL
    split
    · simp; omega
    · cases h : splitL c l with
      | nil => simp
      | cons x y => rw [h] at ih; simp at ih ⊢; omega

/-- The numbers of texts. -/
def readAll : List (List UInt8) → Option (List Nat)
  | [] => some []
  | x :: l => (readOf x).bind fun a => (readAll l).bind fun r => some (a :: r)
theorem readAll_len : ∀ {l : List (List UInt8)} {r : List Nat}, readAll l = some r → r.length = l.length
  | [], r, h => by simp [readAll] at h; simp [← h]
  | x :: l, r, h => by
    unfold readAll at h
    cases h1 : readOf x with
    | none => rw [h1] at h; simp at h
    | some a =>
      rw [h1] at h
      cases h2 : readAll l with
      | none => rw [h2] at h; simp at h
      | some r' =>
        rw [h2] at h
        have := readAll_len h2
        simp at h
        rw [← h]; simp [this]
theorem readAll_snoc : ∀ (l : List (List UInt8)) (x : List UInt8), readAll (l ++ [x]) = (readAll l).bind fun r => (readOf x).bind fun a => some (r ++ [a])
  | [], x => by
    show ((readOf x).bind fun a => (readAll []).bind fun r => some (a :: r)) = _
    cases readOf x <;> rfl
  | y :: l, x => by
    show ((readOf y).bind fun a => (readAll (l ++ [x])).bind fun r => some (a :: r)) = ((readOf y).bind fun a => (readAll l).bind fun r => some (a :: r)).bind _
    rw [readAll_snoc l x]
    cases readOf y with
    | none => rfl
    | some a =>
      cases readAll l with
      | none => rfl
      | some r => cases readOf x <;> rfl
theorem first_split {c : UInt8} : ∀ {l : List UInt8}, c ∈ l → ∃ p r, l = p ++ c :: r ∧ c ∉ p
  | [], h => absurd h (by simp)
  | b :: l, h => by
    by_cases e : b = c
    · subst e; exact ⟨[], l, rfl, by simp⟩
    · have h' : c ∈ l := by
        rcases List.mem_cons.1 h with h | h
        · exact absurd h.symm e
        · exact h
      obtain ⟨p, r, h1, h2⟩ := first_split h'
      exact ⟨b :: p, r, by rw [h1]; rfl, by simp only [List.mem_cons, not_or]; exact ⟨fun e2 => e e2.symm, h2⟩⟩
/-- Texts of numbers are eight bytes long. -/
theorem readAll_sum : ∀ {l : List UInt8} {r : List Nat}, readAll (splitL 32 l) = some r → l.length + 1 = 9 * r.length := by
  suffices h : ∀ (n : Nat) (l : List UInt8) (r : List Nat), l.length ≤ n → readAll (splitL 32 l) = some r → l.length + 1 = 9 * r.length from fun {l r} => h l.length l r (Nat.le_refl _)
  intro n
  induction n with
  | zero =>
    intro l r hl h
    obtain rfl : l = [] := List.eq_nil_of_length_eq_zero (by omega)
    have : readOf [] = none := readOf_len (by simp)
    simp [splitL, readAll, this] at h
  | succ n ih =>
    intro l r hl h
    by_cases hc : (32 : UInt8) ∈ l
    · obtain ⟨p, q, e, hp⟩ := first_split hc
      rw [e, splitL_hit q hp] at h
      unfold readAll at h
      cases h1 : readOf p with
      | none => rw [h1] at h; simp at h
      | some a =>
        rw [h1] at h
        have hl8 : p.length = 8 := Classical.byContradiction fun e => by rw [readOf_len e] at h1; exact absurd h1 (by simp)
        cases h2 : readAll (splitL 32 q) with
        | none => rw [h2] at h; simp at h
        | some r' =>
          rw [h2] at h
          have hq : q.length ≤ n := by
            have := congrArg List.length e
            simp at this
            omega
          have := ih q r' hq h2
          simp at h
          rw [← h, e]
          simp
          omega
    · rw [splitL_miss hc] at h
      unfold readAll at h
      cases h1 : readOf l with
      | none => rw [h1] at h; simp at h
      | some a =>
        rw [h1] at h
        simp [readAll] at h
        have hl8 : l.length = 8 := Classical.byContradiction fun e => by rw [readOf_len e] at h1; exact absurd h1 (by simp)
        rw [← h]; simp; omega
end Go.Proofs.YtkokekndiammpaaGreatDoor

/-! Texts that are cut at a byte: the program's and the reference's. -/
set_option linter.unusedVariables false
set_option linter.unusedSimpArgs false
namespace Go.Proofs.YtkokekndiammpaaGreatDoor
open Go.RowKit Go.Lib

/-- A slice of strings that a call has made. -/
def Words (w : World) (base : Nat) (v : Value) (W : List ByteArray) : Prop := ∃ g cap cs, v = .slice (some ⟨g, 0, none⟩) W.length cap ∧ base ≤ g ∧ w.heap[g]? = some (.cells cs 9 (0, 0)) ∧ ∀ (j : Nat) x, W[j]? = some x → cs[j]? = some (.string x)
theorem ownS_off {w : World} {base n g : Nat} {e t : TypeId} {v : Value} {xs : List Value} {cs : Array Value} {fr : Nat × Nat} (h : w.ownsRow base e 1 v n xs) (hg : w.heap[g]? = some (.cells cs t fr)) (hne : t ≠ e) : v.ownBlock ≠ some g := by
  intro hv
  rcases h.2 with ⟨rfl, _⟩ | ⟨g', cap, cur, rfl, hb, hh, _⟩
  · simp [Value.ownBlock] at hv
  · simp only [Value.ownBlock, Option.some.injEq] at hv
    subst hv
    rw [hg] at hh
    simp only [Option.some.injEq, Obj.cells.injEq] at hh
    exact hne hh.2.1
theorem ownS_keep {w w1 : World} {o : Obj} {v : Value} {g : Nat} {r : Obj} (hg : (w.alloc o).grownBy w1 v.ownBlock) (h : w.heap[g]? = some r) (hne : v.ownBlock ≠ some g) : w1.heap[g]? = some r := by
  have hlt : g < w.heap.size := by
    cases hlt : decide (g < w.heap.size)
    · simp only [decide_eq_false_iff_not] at hlt
      rw [Array.getElem?_eq_none (by omega)] at h; cases h
    · simpa using hlt
  rw [hg.block g (by simp; omega) (fun e => hne e.symm), Below.heap_alloc w o g hlt]
  exact h
/-- strings.Split at a byte. -/
theorem implSplit (t : ByteArray) (c : UInt8) (hmax : t.size ≤ 1048576) (w : World) (m : Int) (hm : w.cell? ⟨1, 0, none⟩ = some (.int .i64 m)) :
    Calls Tryz.prog 55 #[.string t, .string ⟨#[c]⟩] w fun e w' => (∃ v, e = .returned v ∧ Words w' w.heap.size v (splitW c t.data.toList)) ∧ Below w.heap.size w w' := by
  have h := Tryz.strings_Split t ⟨#[c]⟩ m w (by omega) hm (Nat.le_refl 1)
  refine h.mono fun e w' ⟨he, hw⟩ => ?_
  have hl : Lib.countB t ⟨#[c]⟩ + 1 = (splitW c t.data.toList).length := by
    rw [← splitB_all' c t, Lib.splitB_all ⟨#[c]⟩ (Nat.le_refl 1) 0 _ t rfl]
  rw [splitB_all' c t] at hw
  rw [hl] at he
  subst hw
  refine ⟨⟨_, he, w.heap.size, _, _, rfl, Nat.le_refl _, heap_alloc_new w _, fun j x hx => ?_⟩, Below.alloc (Below.refl _ _) (Nat.le_refl _) _⟩
  simp [hx]

end Go.Proofs.YtkokekndiammpaaGreatDoor

/-! Numbers of a few digits: the reference's and the program's readers. -/
set_option linter.unusedVariables false
set_option linter.unusedSimpArgs false
namespace Go.Proofs.YtkokekndiammpaaGreatDoor
open Go.RowKit Go.Lib

/-- The value of digits behind a value already read. -/
def valD : Nat → List UInt8 → Option Nat
  | a, [] => some a
  | a, c :: l => if 48 ≤ c.toNat ∧ c.toNat ≤ 57 then valD (a * 10 + (c.toNat - 48)) l else none
/-- The number of one to nine digits with a text. -/
def numOf (l : List UInt8) : Option Nat := if l.length < 1 ∨ 9 < l.length ∨ (l.getD 0 0 = 48 ∧ 1 < l.length) then none else valD 0 l
theorem valD_ge : ∀ (l : List UInt8) (a v : Nat), valD a l = some v → a * 10 ^ l.length ≤ v
  | [], a, v, h => by simp [valD] at h; simp [h]
  | c :: l, a, v, h => by
    unfold valD at h
    split at h
    · have := valD_ge l _ v h
      have h2 : a * 10 ^ (c :: l).length = a * 10 * 10 ^ l.length := by
        rw [List.length_cons, Nat.pow_succ, Nat.mul_assoc, Nat.mul_comm 10]
      rw [h2]
      exact Nat.le_trans (Nat.mul_le_mul_right _ (by omega)) this
    · exact absurd h (by simp)
theorem numOf_dec : ∀ n, n < 13 → numOf (Lib.decDigits n) = some n := by
  intro n hn
  by_cases h : n < 10
  · rw [dec_small h]
    have : ∀ n, n < 10 → numOf [UInt8.ofNat (48 + n)] = some n := by decide
    exact this n h
  · rw [dec_two (by omega) (by omega)]
    have : ∀ n, n < 13 → 10 ≤ n → numOf [UInt8.ofNat (48 + n / 10), UInt8.ofNat (48 + n % 10)] = some n := by decide
    exact this n hn (by omega)
theorem byte_of {c : UInt8} {k : Nat} (h : c.toNat = k) : c = UInt8.ofNat k := by rw [← h]; simp
theorem numOf_small {l : List UInt8} {n : Nat} (h : numOf l = some n) (hn : n < 13) : l = Lib.decDigits n := by
  unfold numOf at h
  split at h
  · exact absurd h (by simp)
  · rename_i hc
    simp only [not_or, not_and] at hc
    obtain ⟨h1, h2, h3⟩ := hc
    match l, h1, h2, h3, h with
    | [], h1, _, _, _ => exact absurd h1 (by simp)
    | [c], _, _, _, h =>
      unfold valD at h
      split at h
      · rename_i hd
        simp [valD] at h
        rw [dec_small (by omega)]
        congr 1
        exact byte_of (by omega)
      · exact absurd h (by simp)
    | [c, d], _, _, h3, h =>
      have hc48 : c.toNat ≠ 48 := fun e => h3 (by simpa using byte_of e) (by simp)
      unfold valD at h
      split at h
      · rename_i hd
        unfold valD at h
        split at h
        · rename_i he
          simp [valD] at h
          rw [dec_two (by omega) (by omega)]
          congr 1
          · exact byte_of (by omega)
          · congr 1
            exact byte_of (by omega)
        · exact absurd h (by simp)
      · exact absurd h (by simp)
    | c :: d :: e :: r, _, _, h3, h =>
      have hc48 : c.toNat ≠ 48 := fun e => h3 (by simpa using byte_of e) (by simp)
      unfold valD at h
      split at h
      · rename_i hd
        have hge := valD_ge _ _ _ h
        have : 1 * 10 ^ (d :: e :: r).length ≤ (0 * 10 + (c.toNat - 48)) * 10 ^ (d :: e :: r).length := Nat.mul_le_mul_right _ (by omega)
        have h100 : 10 ^ 2 ≤ 10 ^ (d :: e :: r).length := Nat.pow_le_pow_right (by omega) (by simp)
        omega
      · exact absurd h (by simp)
theorem parse_dec : ∀ n, n < 13 → Lib.parseIntB 8 (Lib.decDigits n) = .ok (n : Int) := by
  intro n hn
  by_cases h : n < 10
  · rw [dec_small h]
    have : ∀ n, n < 10 → Lib.parseIntB 8 [UInt8.ofNat (48 + n)] = .ok (n : Int) := by decide
    exact this n h
  · rw [dec_two (by omega) (by omega)]
    have : ∀ n, n < 13 → 10 ≤ n → Lib.parseIntB 8 [UInt8.ofNat (48 + n / 10), UInt8.ofNat (48 + n % 10)] = .ok (n : Int) := by decide
    exact this n hn (by omega)

end Go.Proofs.YtkokekndiammpaaGreatDoor

/-! Numbers of a few digits: the program's reader. -/
set_option linter.unusedVariables false
set_option linter.unusedSimpArgs false
namespace Go.Proofs.YtkokekndiammpaaGreatDoor
open Go.RowKit Go.Lib

theorem below_growS (w : World) (k : Nat) (os : Array Obj) : Below w.heap.size w (Go.Sort.grow (w.drewN k) os) := by
  refine ⟨rfl, rfl, rfl, ?_, fun i hi => ?_⟩
  · show w.heap.size ≤ (w.heap ++ os).size
    simp
  · show (w.heap ++ os)[i]? = _
    rw [Array.getElem?_append_left hi]
/-- strconv.FormatInt at base 10. -/
theorem fmtInt (v : Int) (h0 : -9223372036854775808 ≤ v) (h1 : v ≤ 9223372036854775807) (w : World) (htab : Lib.TabIs Tryz.prog w "internal/strconv.uint64pow10" .u64 Lib.pow10Tab) :
    Calls Tryz.prog 54 #[.int .i64 v, .int .i64 10] w fun e w' => e = .returned (.string ⟨(Lib.itoa v).toArray⟩) ∧ Below w.heap.size w w' :=
  (Tryz.strconv_FormatInt_10 v h0 h1 w htab).mono fun e w' ⟨h, k, os, hw⟩ => ⟨h, by rw [hw]; exact below_growS w k os⟩

/-- strconv.ParseInt at base 10 and 8 bits. -/
theorem parseInt8 (t : ByteArray) (hmax : t.size ≤ 1048576) (w : World) (hL : Libs w) :
    Calls Tryz.prog 53 #[.string t, .int .i64 10, .int .i64 8] w fun e w' => (∃ v, e = .returned v ∧ ((∃ n : Int, Lib.parseIntB 8 t.data.toList = .ok n ∧ v = .tuple #[.int .i64 n, .nilIface]) ∨ ((∀ n : Int, Lib.parseIntB 8 t.data.toList ≠ .ok n) ∧ ∃ (x : Int) (T : TypeId) (p : Value), v = .tuple #[.int .i64 x, .iface T p]))) ∧ Below w.heap.size w w' := by
  rcases h : Lib.parseIntB 8 t.data.toList with n | _ | _
  · refine (Tryz.strconv_ParseInt_10_at8_ok t (by omega) n h w).mono fun e w' ⟨he, hw⟩ => ⟨⟨_, he, Or.inl ⟨n, rfl, rfl⟩⟩, ?_⟩
    rcases hw with rfl | ⟨t', rfl⟩
    · exact Below.refl _ _
    · exact Lib.bytesWorld_below _ _ _
  · obtain ⟨tp, p, hev⟩ := hL.es
    refine (Any.strconv_ParseInt_10_at8_syntax Tryz.laysC174 t (by omega) h (.iface tp p) w hev (Or.inr ⟨tp, p, rfl⟩)).mono fun e w' ⟨N, he, _, _, hb⟩ => ⟨⟨_, he, Or.inr ⟨fun n hn => by simp at hn, _, _, _, rfl⟩⟩, hb⟩
  · obtain ⟨tp, p, hev⟩ := hL.er
    refine (Tryz.strconv_ParseInt_10_at8_range t (by omega) h (.iface tp p) w hev (Or.inr ⟨tp, p, rfl⟩)).mono fun e w' ⟨N, he, _, _, hb⟩ => ⟨⟨_, he, Or.inr ⟨fun n hn => by simp at hn, _, _, _, rfl⟩⟩, hb⟩

/-- What digit hands back. -/
def DigEnd (l : List UInt8) (v : Value) : Prop := ∃ (n : Int) (ok : Bool), v = .tuple #[.int .i64 n, .bool ok] ∧ (ok = true → l = Lib.itoa n) ∧ ∀ m, m < 13 → l = Lib.decDigits m → ok = true ∧ n = m

set_option maxHeartbeats 1000000 in
set_option maxRecDepth 100000 in
theorem implDigit (t : ByteArray) (hmax : t.size ≤ 1048576) (w : World) (hL : Libs w) (htab : Lib.TabIs Tryz.prog w "internal/strconv.uint64pow10" .u64 Lib.pow10Tab) :
    Calls Tryz.prog 29 #[.string t] w fun e w' => (∃ v, e = .returned v ∧ DigEnd t.data.toList v) ∧ Below w.heap.size w w' := by
  have hP := parseInt8 t hmax w hL
  by_cases hx : ∃ n : Int, Lib.parseIntB 8 t.data.toList = .ok n
  · obtain ⟨n, hn⟩ := hx
    have hP' : Calls Tryz.prog 53 #[.string t, .int .i64 10, .int .i64 8] w fun e w' => e = .returned (.tuple #[.int .i64 n, .nilIface]) ∧ Below w.heap.size w w' := hP.mono fun e w' ⟨⟨v, h1, h2⟩, h3⟩ => ⟨by
      rcases h2 with ⟨m, hm, rfl⟩ | ⟨h4, _⟩
      · rw [hn] at hm
        injection hm with hm
        rw [h1, hm]
      · exact absurd hn (h4 n), h3⟩
    have hbd := Lib.parseIntB_bounds hn
    have b1 : -9223372036854775808 ≤ n := by have := hbd.1; simp at this; omega
    have b2 : n ≤ 9223372036854775807 := by have := hbd.2; simp at this; omega
    obtain ⟨S, hS⟩ : ∃ S : ByteArray, S = ⟨(Lib.itoa n).toArray⟩ := ⟨_, rfl⟩
    have hF : ∀ w1, Below w.heap.size w w1 → Calls Tryz.prog 54 #[.int .i64 n, .int .i64 10] w1 fun e w' => e = .returned (.string S) ∧ Below w1.heap.size w1 w' := fun w1 hb => by
      rw [hS]
      exact fmtInt n b1 b2 w1 (Go.Joins.tab_stays (g := 4) (by kernel_rfl) htab hb (Nat.le_refl _))
    by_cases hq : S = t
    · have HR : Hid (DigEnd t.data.toList (.tuple #[.int .i64 n, .bool true])) := Lib.hid ⟨n, true, rfl, fun _ => by rw [← hq, hS], fun m hm hl => ⟨rfl, by
        have h1 := parse_dec m hm
        rw [← hl, hn] at h1
        injection h1⟩⟩
      subst hq
      clear hP hn hbd b1 b2 hS htab hL
      go_enter Tryz.func29, Tryz.ntmps29
      go_wp2_with (first
        | (go_at_call 53; with_reducible refine hP'.mono ?_; rintro e w1 ⟨rfl, hb1⟩)
        | (go_at_call 54; with_reducible refine (hF _ hb1).mono ?_; rintro e w2 ⟨rfl, hb2⟩))
      go_ret2
      exact ⟨⟨_, rfl, by simpa using HR.out⟩, hb1.trans (hb2.mono hb1.size)⟩
    · have HR : Hid (DigEnd t.data.toList (.tuple #[.int .i64 n, .bool false])) := Lib.hid ⟨n, false, rfl, fun h => by simp at h, fun m hm hl => by
        exfalso
        have h1 := parse_dec m hm
        rw [← hl, hn] at h1
        injection h1 with h1
        subst h1
        apply hq
        rw [hS]
        apply ByteArray.ext
        apply Array.toList_inj.1
        rw [hl]
        simp [Lib.itoa]⟩
      have hq' := strNe hq
      have HQ := Lib.hid hq'
      clear hP hn hbd b1 b2 hS htab hL hq'
      go_enter Tryz.func29, Tryz.ntmps29
      go_wp2_with (first
        | (go_at_call 53; with_reducible refine hP'.mono ?_; rintro e w1 ⟨rfl, hb1⟩)
        | (go_at_call 54; with_reducible refine (hF _ hb1).mono ?_; rintro e w2 ⟨rfl, hb2⟩))
      go_ret2
      exact ⟨⟨_, rfl, by
        have h := HR.out
        rw [← HQ.out] at h
        exact h⟩, hb1.trans (hb2.mono hb1.size)⟩
  · have hP' : Calls Tryz.prog 53 #[.string t, .int .i64 10, .int .i64 8] w fun e w' => (∃ (x : Int) (T : TypeId) (p : Value), e = .returned (.tuple #[.int .i64 x, .iface T p])) ∧ Below w.heap.size w w' := hP.mono fun e w' ⟨⟨v, h1, h2⟩, h3⟩ => ⟨by
      rcases h2 with ⟨m, hm, rfl⟩ | ⟨h4, x, T, p, rfl⟩
      · exact absurd ⟨m, hm⟩ hx
      · exact ⟨x, T, p, h1⟩, h3⟩
    have HR : ∀ x : Int, DigEnd t.data.toList (.tuple #[.int .i64 x, .bool false]) := fun x => ⟨x, false, rfl, fun h => by simp at h, fun m hm hl => by
      exfalso
      exact hx ⟨m, by rw [hl]; exact parse_dec m hm⟩⟩
    have HRR := Lib.hid HR
    clear hP hx htab hL HR
    go_enter Tryz.func29, Tryz.ntmps29
    go_wp2_with (go_at_call 53; with_reducible refine hP'.mono ?_; rintro e w1 ⟨⟨x, T, p, rfl⟩, hb1⟩)
    go_ret2
    exact ⟨⟨_, rfl, HRR.out x⟩, hb1⟩
end Go.Proofs.YtkokekndiammpaaGreatDoor

/-! Lists of numbers: the program's reader. -/
set_option linter.unusedVariables false
set_option linter.unusedSimpArgs false
namespace Go.Proofs.YtkokekndiammpaaGreatDoor
open Go.RowKit Go.Lib

/-- So many numbers with blanks between them. -/
def numsOf (l : List UInt8) (many : Nat) : Option (List Nat) := (readAll (splitL 32 l)).bind fun G => if G.length = many then some G else none
theorem numsOf_len {l : List UInt8} {many : Nat} {G : List Nat} (h : numsOf l many = some G) : l.length + 1 = 9 * many ∧ G.length = many ∧ readAll (splitL 32 l) = some G := by
  unfold numsOf at h
  cases h1 : readAll (splitL 32 l) with
  | none => rw [h1] at h; simp at h
  | some R =>
    rw [h1] at h
    simp only [Option.bind] at h
    split at h
    · rename_i hl
      injection h with h
      subst h
      exact ⟨by rw [readAll_sum h1, hl], hl, rfl⟩
    · exact absurd h (by simp)
/-- What readNumbers hands back. -/
def NumsEnd (w : World) (base : Nat) (o : Option (List Nat)) (many : Nat) (v : Value) : Prop :=
  match o with
  | some G => ∃ sl, v = .tuple #[sl, .bool true] ∧ w.ownsRow base 25 1 sl many (G.map (Value.float .f32))
  | none => ∃ sl, v = .tuple #[sl, .bool false]
theorem numsEnd_none {w : World} {base many : Nat} {o : Option (List Nat)} {v : Value} (ho : o = none) (h : ∃ sl, v = .tuple #[sl, .bool false]) : NumsEnd w base o many v := by
  subst ho; exact h
theorem numsEnd_some {w : World} {base many : Nat} {o : Option (List Nat)} {v : Value} {G : List Nat} (ho : o = some G) (h : ∃ sl, v = .tuple #[sl, .bool true] ∧ w.ownsRow base 25 1 sl many (G.map (Value.float .f32))) : NumsEnd w base o many v := by
  subst ho; exact h
theorem Tryz.info_fl : (Tryz.prog.info? 25).map (fun i => (i.zero, i.size, i.bytes)) = some (some (.float .f32 0), 1, 4) := by kernel_rfl
theorem readAll_take {l : List (List UInt8)} {k : Nat} {G : List Nat} {x : List UInt8} (h : readAll (l.take k) = some G) (hx : l[k]? = some x) : readAll (l.take (k + 1)) = (readOf x).bind fun a => some (G ++ [a]) := by
  rw [List.take_add_one, hx]
  show readAll (l.take k ++ [x]) = _
  rw [readAll_snoc, h]
  rfl
theorem readAll_none {l : List (List UInt8)} {k : Nat} {x : List UInt8} (hx : l[k]? = some x) (h : readOf x = none) : readAll l = none := by
  induction l generalizing k with
  | nil => simp at hx
  | cons y l ih =>
    unfold readAll
    cases k with
    | zero =>
      simp at hx
      subst hx
      rw [h]; rfl
    | succ k =>
      rw [ih (by simpa using hx)]
      cases readOf y <;> rfl

theorem splitL_sub {c : UInt8} : ∀ {l x : List UInt8}, x ∈ splitL c l → x.length ≤ l.length
  | [], x, h => by simp [splitL] at h; simp [h]
  | b :: l, x, h => by
    unfold splitL at h
    split at h
    · rcases List.mem_cons.1 h with rfl | h
      · simp
      · have := splitL_sub h
        simp; omega
    · cases hs : splitL c l with
      | nil => exact absurd hs (splitL_ne c l)
      | cons y r =>
        rw [hs] at h
        have ih := fun z (hz : z ∈ splitL c l) => splitL_sub hz
        rw [hs] at ih
        rcases List.mem_cons.1 h with rfl | h
        · have := ih y (by simp)
          simp; omega
        · have := ih x (by simp [h])
          simp; omega
theorem ownS_form {w : World} {base n : Nat} {e : TypeId} {v : Value} {xs : List Value} (h : w.ownsRow base e 1 v n xs) : ∃ ao cap, v = .slice ao n cap := by
  rcases h.2 with ⟨h2, h3⟩ | ⟨g, cap, cur, hv, _⟩
  · subst h3; exact ⟨none, 0, h2⟩
  · exact ⟨_, cap, hv⟩

set_option maxHeartbeats 2000000 in
set_option maxRecDepth 100000 in
theorem readNumbers_any (t : ByteArray) (hmax : t.size ≤ 1048576) (many : Nat) (hm1 : 1 ≤ many) (hm2 : many ≤ 14) (w : World) (hL : Libs w) (m : Int) (hml : w.cell? ⟨1, 0, none⟩ = some (.int .i64 m)) :
    Calls Tryz.prog 31 #[.string t, .int .i64 many] w fun e w' => (∃ v, e = .returned v ∧ NumsEnd w' w.heap.size (numsOf t.data.toList many) many v) ∧ Below w.heap.size w w' := by
  have hlen : t.data.toList.length = t.size := by rw [Lib.size_eq]
  by_cases hq : t.size + 1 = 9 * many
  · obtain ⟨i0, ih, iz0, iz1, iz2⟩ := info_parts Tryz.info_fl
    have hMlt : 1 < w.heap.size := World.block_lt_of_cell? _ _ hml
    have hsz : (t.size : Int) = 9 * (many : Int) - 1 := by omega
    have w9 : IntKind.i64.wrap (9 * (many : Int)) = 9 * (many : Int) := by rw [IntKind.wrap_i64]; omega
    have w9' : IntKind.i64.wrap (9 * (many : Int) - 1) = 9 * (many : Int) - 1 := by rw [IntKind.wrap_i64]; omega
    have hSP := fun w1 (hb : Below w.heap.size w w1) => implSplit t 32 hmax w1 m ((hb.cell (p := ⟨1, 0, none⟩) hMlt).trans hml)
    have HLB := Lib.hid hL
    have HSP := Lib.hid hSP
    have HLEN := Lib.hid hlen
    clear hL hml hlen hSP
    go_enter Tryz.func31, Tryz.ntmps31
    go_wp2_with fail
    go_at_call 55
    with_reducible refine calls_args (b := #[.string t, .string ⟨#[32]⟩]) (by kernel_rfl) ?_
    with_reducible refine (HSP.out _ (Below.alloc (Below.refl _ w) (Nat.le_refl _) _)).mono ?_
    rintro e w1 ⟨⟨v, rfl, g, cap, cs, rfl, hg, hcs, hat⟩, hb1⟩
    have k0 : w1.ownsRow w.heap.size 25 1 (.slice (some ⟨w.heap.size, 0, none⟩) 0 0) 0 (([] : List Nat).map (Value.float .f32)) :=
      ownS_carry (w := w.alloc (.cells #[] 25)) ⟨rfl, Or.inr ⟨w.heap.size, 0, #[], rfl, Nat.le_refl _, heap_alloc_new w _, by omega, by simp [maxLen], rfl, rfl⟩⟩ (fun i _ h2 => hb1.block i h2)
    have b1 : Below w.heap.size w w1 := (Below.alloc (Below.refl _ w) (Nat.le_refl _) _).trans (hb1.mono (by simp))
    obtain ⟨L, hLe⟩ : ∃ L, L = t.data.toList := ⟨_, rfl⟩
    rw [← hLe] at hat ⊢
    have HLE := Lib.hid hLe
    obtain ⟨n, hn⟩ : ∃ n, n = (splitW 32 L).length := ⟨_, rfl⟩
    have hnL : n = (splitL 32 L).length := by rw [hn]; unfold splitW; rw [List.length_map]
    rw [← hn]
    have HNL := Lib.hid hnL
    have HAT := Lib.hid hat
    have hn20 : n ≤ 1048577 := by
      have h1 := splitL_lt 32 L
      have h2 := HLEN.out
      rw [← hLe] at h2
      omega
    clear hn hnL hat hb1 hg HSP hLe hsz w9
    go_wp2
    go_loopw [6, 21] (fun v i wr => ∃ (k : Nat) (G : List Nat), k ≤ n ∧ i = .int .i64 k ∧ wr.ownsRow w.heap.size 25 1 v k (G.map (Value.float .f32)) ∧ wr.heap[g]? = some (.cells cs 9 (0, 0)) ∧ Below w.heap.size w wr ∧ Hid (readAll ((splitL 32 L).take k) = some G ∧ G.length = k)) (fun _ i _ => n - (RowKit.intOf i).toNat)
    case atStart => exact ⟨0, [], by omega, rfl, k0, hcs, b1, Lib.hid ⟨rfl, rfl⟩⟩
    case round =>
      clear k0 b1 hcs
      obtain ⟨k, G, hk, rfl, hown, hcs, hb, hh⟩ := hrel
      have hsz := hb.size
      have HB := Lib.hid hb
      have HCS := Lib.hid hcs
      by_cases hlt : k < n
      · have hkl : k < (splitL 32 L).length := by have := HNL.out; omega
        obtain ⟨x, hx⟩ : ∃ x, (splitL 32 L)[k]? = some x := ⟨_, List.getElem?_eq_getElem hkl⟩
        obtain ⟨X, hXe⟩ : ∃ X : ByteArray, X = ⟨x.toArray⟩ := ⟨_, rfl⟩
        have hXl : X.data.toList = x := by rw [hXe]
        have hcX : cs[k]? = some (.string X) := HAT.out k X (by unfold splitW; rw [List.getElem?_map, hx, hXe]; rfl)
        have cX : wr.cell? ⟨g, k, none⟩ = some (.string X) := (cell_of_row wr g k _ _ _ hcs).trans hcX
        have hXs : X.size ≤ 1048576 := by
          have h1 := splitL_sub (List.mem_of_getElem? hx)
          have h2 := HLEN.out
          rw [← HLE.out] at h2
          have h3 : X.size = x.length := by rw [hXe, size_of_list]
          omega
        have hR := implReadNumber X hXs wr (HLB.out.on hb (Nat.le_refl _))
        rw [hXl] at hR
        have i1 : (k : Int) < n := by omega
        cases hr : readOf x with
        | none =>
          rw [hr] at hR
          replace hR : Calls Tryz.prog 56 #[.string X] wr fun e w' => e = .returned (.tuple #[.float .f32 0, .int .i64 5]) ∧ Below wr.heap.size wr w' := hR
          have HN : Hid (numsOf t.data.toList many = none) := Lib.hid (by
            unfold numsOf
            rw [← HLE.out, readAll_none hx hr]
            rfl)
          clear hh hx hXe hXl hcX hr hown hb hcs
          go_wp2_with (go_at_call 56; with_reducible refine hR.mono ?_; rintro e w2 ⟨rfl, hb2⟩)
          go_ret2
          exact ⟨⟨_, rfl, numsEnd_none HN.out ⟨_, rfl⟩⟩, HB.out.trans (hb2.mono hsz)⟩
        | some a =>
          rw [hr] at hR
          replace hR : Calls Tryz.prog 56 #[.string X] wr fun e w' => e = .returned (.tuple #[.float .f32 a, .int .i64 0]) ∧ Below wr.heap.size wr w' := hR
          have HN : Hid (readAll ((splitL 32 L).take (k + 1)) = some (G ++ [a]) ∧ (G ++ [a]).length = k + 1) := Lib.hid ⟨by rw [readAll_take hh.out.1 hx, hr]; rfl, by simp [hh.out.2]⟩
          have HS : Hid (G.map (Value.float .f32) ++ [.float .f32 a] = (G ++ [a]).map (Value.float .f32)) := Lib.hid (by simp)
          have HO := Lib.hid hown
          clear hh hx hXe hXl hcX hr hown hb hcs
          go_wp2_with (go_at_call 56; with_reducible refine hR.mono ?_; rintro e w2 ⟨rfl, hb2⟩; refine Hid.out ?_)
          refine Lib.hid ?_
          have hown1 : w2.ownsRow w.heap.size 25 1 _ k (G.map (Value.float .f32)) := ownS_carry HO.out (fun i _ h2 => hb2.block i h2)
          have hb3 : Below w.heap.size w w2 := HB.out.trans (hb2.mono hsz)
          have hsz1 : w.heap.size ≤ w2.heap.size := hb3.size
          have hgl : g < wr.heap.size := by
            cases hlt : decide (g < wr.heap.size)
            · simp only [decide_eq_false_iff_not] at hlt
              have := HCS.out
              rw [Array.getElem?_eq_none (by omega)] at this; cases this
            · simpa using hlt
          have hcs2 : w2.heap[g]? = some (.cells cs 9 (0, 0)) := (hb2.block g hgl).trans HCS.out
          have HB3 := Lib.hid hb3
          have HCS2 := Lib.hid hcs2
          clear hR cX hb2 HB HO hb3 hcs2 HCS
          go_wp2_with (at_builtin; refine wpList_append_own _ rfl _ _ 39 rfl w.heap.size 25 i0 (.float .f32 0) 1 4 Tryz.underlying39 ih iz0 iz1 iz2 rfl (by decide) _ _ _ rfl (hown1.alloc _) ⟨w2.heap.size, 0, none⟩ 1 1 [.float .f32 a] rfl rfl ?c1 ?c2 ?c3 ?c4 ?c5 ?_)
          case c1 =>
            intro j u hj
            match j, hj with
            | 0, hj => simp at hj; subst hj; simp [Addr.add]
          case c2 => intro u hu; simp at hu; subst hu; rfl
          case c3 => unfold maxLen; omega
          case c4 => omega
          case c5 => simp; omega
          intro v' w3 hown' hgrow _
          have n5 := ownS_below hown1 (Nat.le_refl _) hsz1 HB3.out hgrow
          have n6 := ownS_keep hgrow HCS2.out (ownS_off hown1 HCS2.out (by decide))
          rw [HS.out] at hown'
          have N5 := Lib.hid n5
          have N6 := Lib.hid n6
          have NO := Lib.hid hown'
          clear n5 n6 hown' hown1 hgrow
          go_wp2
          go_roundw
          case rel => exact ⟨k + 1, G ++ [a], by omega, by first | rfl | go_num, NO.out, N6.out, N5.out, HN⟩
          case measure => simp [RowKit.intOf]; omega
      · obtain rfl : k = n := by omega
        obtain ⟨ao, cp, hv⟩ := ownS_form hown
        subst hv
        have hall : (splitL 32 L).take k = splitL 32 L := List.take_of_length_le (by rw [HNL.out]; exact Nat.le_refl _)
        have hRA : readAll (splitL 32 L) = some G := by have h := hh.out.1; rw [hall] at h; exact h
        by_cases hkm : k = many
        · have HN : Hid (numsOf t.data.toList many = some G) := Lib.hid (by
            unfold numsOf
            rw [← HLE.out, hRA]
            exact if_pos (by rw [hh.out.2, hkm]))
          have HO := Lib.hid hown
          subst hkm
          clear hh hall hRA hown hb hcs
          go_wp2
          go_ret2
          exact ⟨⟨_, rfl, numsEnd_some HN.out ⟨_, by simp, HO.out⟩⟩, HB.out⟩
        · have HN : Hid (numsOf t.data.toList many = none) := Lib.hid (by
            unfold numsOf
            rw [← HLE.out, hRA]
            exact if_neg (by rw [hh.out.2]; exact hkm))
          have hki : ((k : Int) == (many : Int)) = false := by simp; omega
          clear hh hall hRA hown hb hcs
          go_wp2
          go_ret2
          exact ⟨⟨_, rfl, numsEnd_none HN.out ⟨_, rfl⟩⟩, HB.out⟩
  · have HN : Hid (numsOf t.data.toList many = none) := Lib.hid (by
      cases h : numsOf t.data.toList many with
      | none => rfl
      | some G => have := (numsOf_len h).1; omega)
    have hq' : ¬ (t.size : Int) = 9 * (many : Int) - 1 := by omega
    have w9 : IntKind.i64.wrap (9 * (many : Int)) = 9 * (many : Int) := by rw [IntKind.wrap_i64]; omega
    have w9' : IntKind.i64.wrap (9 * (many : Int) - 1) = 9 * (many : Int) - 1 := by rw [IntKind.wrap_i64]; omega
    clear hlen hq hL hml
    go_enter Tryz.func31, Tryz.ntmps31
    go_wp2
    go_ret2
    exact ⟨⟨_, rfl, numsEnd_none HN.out ⟨_, rfl⟩⟩, Below.refl _ _⟩
end Go.Proofs.YtkokekndiammpaaGreatDoor

/-! The train of a text; plain. -/
set_option linter.unusedVariables false
set_option linter.unusedSimpArgs false
namespace Go.Proofs.YtkokekndiammpaaGreatDoor
open Go.RowKit Go.Lib

/-- The films of a list of numbers. -/
def trF (G : List Nat) : Nat → Nat := fun i => G.getD (i + 2) 0
abbrev trainG (n : Nat) (G : List Nat) : Array Value := train n (G.getD 0 0) (G.getD 1 0) (trF G)
def trainGB (n : Nat) (G : List Nat) : Bool := trainB n (G.getD 0 0) (G.getD 1 0) (trF G)
/-- The number of rollers and the numbers of the train with a text. -/
def readTR (l : List UInt8) : Option (Nat × List Nat) :=
  match splitL 32 l with
  | [] => none
  | w0 :: ws => (numOf w0).bind fun n => if n < 13 ∧ ws.length = n + 2 then (readAll ws).bind fun G => if trainGB n G then some (n, G) else none else none
/-- What ReadTrain hands back. -/
def rtRow (o : Option (Nat × List Nat)) : Array Value := match o with | some (n, G) => trainG n G | none => train 0 0 0 (fun _ => 0)
def rtCode (o : Option (Nat × List Nat)) : Int := if o.isSome then 0 else 5

theorem trainGB_range {n : Nat} {G : List Nat} (h : trainGB n G = true) : 2 ≤ n ∧ n ≤ 12 := by
  obtain ⟨h1, h2, _⟩ := trainB_facts h
  omega
theorem readTR_cons {l w0 : List UInt8} {ws : List (List UInt8)} (h : splitL 32 l = w0 :: ws) : readTR l = (numOf w0).bind fun n => if n < 13 ∧ ws.length = n + 2 then (readAll ws).bind fun G => if trainGB n G then some (n, G) else none else none := by
  unfold readTR
  rw [h]
end Go.Proofs.YtkokekndiammpaaGreatDoor

/-! The train of a text; plain, for the program's side. -/
set_option linter.unusedVariables false
set_option linter.unusedSimpArgs false
namespace Go.Proofs.YtkokekndiammpaaGreatDoor
open Go.RowKit Go.Lib

/-- strings.Cut at one byte, and the pieces at that byte. -/
theorem cut_split {c : UInt8} (l : List UInt8) : (c ∈ l ∧ splitL c l = (Lib.cut l [c]).1 :: splitL c (Lib.cut l [c]).2.1) ∨ (c ∉ l ∧ (Lib.cut l [c]).1 = l ∧ (Lib.cut l [c]).2.1 = [] ∧ splitL c l = [l]) := by
  unfold Lib.cut
  by_cases h : 0 ≤ Lib.index l [c]
  · left
    rw [if_pos h]
    obtain ⟨i, hi⟩ : ∃ i : Nat, Lib.index l [c] = i := ⟨(Lib.index l [c]).toNat, by omega⟩
    obtain ⟨h1, h2⟩ := index_hit hi
    have e : (Lib.index l [c]).toNat = i := by rw [hi]; rfl
    show c ∈ l ∧ splitL c l = l.take (Lib.index l [c]).toNat :: splitL c (l.drop ((Lib.index l [c]).toNat + [c].length))
    rw [e]
    refine ⟨by rw [h1]; simp, ?_⟩
    conv => lhs; rw [h1]
    rw [splitL_hit _ h2]
    rfl
  · right
    rw [if_neg h]
    have h2 : c ∉ l := index_miss (by have := Lib.index_ge l [c]; omega)
    exact ⟨h2, rfl, rfl, splitL_miss h2⟩

/-- The train behind the first word. -/
theorem readTR_of {l : List UInt8} {n : Nat} (h2 : 2 ≤ n) (h12 : n ≤ 12) (hw : (Lib.cut l [32]).1 = Lib.decDigits n) : readTR l = (numsOf (Lib.cut l [32]).2.1 (n + 2)).bind fun G => if trainGB n G then some (n, G) else none := by
  have hnum : numOf (Lib.cut l [32]).1 = some n := by rw [hw]; exact numOf_dec n (by omega)
  rcases cut_split (c := 32) l with ⟨_, hs⟩ | ⟨_, hx, hr, hs⟩
  · rw [readTR_cons hs, hnum]
    show (if n < 13 ∧ (splitL 32 (Lib.cut l [32]).2.1).length = n + 2 then _ else none) = _
    unfold numsOf
    cases hra : readAll (splitL 32 (Lib.cut l [32]).2.1) with
    | none => split <;> rfl
    | some G =>
      have hl := readAll_len hra
      by_cases e : G.length = n + 2
      · rw [if_pos ⟨by omega, by omega⟩]
        show _ = (if G.length = n + 2 then some G else none).bind _
        rw [if_pos e]
      · rw [if_neg (by omega)]
        show _ = (if G.length = n + 2 then some G else none).bind _
        rw [if_neg e]
        rfl
  · have hs2 : splitL 32 l = (Lib.cut l [32]).1 :: [] := by rw [hx]; exact hs
    rw [readTR_cons hs2, hnum]
    show (if n < 13 ∧ ([] : List (List UInt8)).length = n + 2 then _ else none) = _
    rw [if_neg (by simp)]
    have e : numsOf (Lib.cut l [32]).2.1 (n + 2) = none := by
      cases hq : numsOf (Lib.cut l [32]).2.1 (n + 2) with
      | none => rfl
      | some G =>
        have := (numsOf_len hq).1
        rw [hr] at this
        simp at this
        omega
    rw [e]
    rfl
/-- Where the first word is no number of rollers there is no train. -/
theorem readTR_no {l : List UInt8} (h : ∀ m, 2 ≤ m → m ≤ 12 → (Lib.cut l [32]).1 ≠ Lib.decDigits m) : readTR l = none := by
  have hcons : ∃ ws, splitL 32 l = (Lib.cut l [32]).1 :: ws := by
    rcases cut_split (c := 32) l with ⟨_, hs⟩ | ⟨_, hx, hr, hs⟩
    · exact ⟨_, hs⟩
    · exact ⟨[], by rw [hx]; exact hs⟩
  obtain ⟨ws, hs⟩ := hcons
  rw [readTR_cons hs]
  cases hn : numOf (Lib.cut l [32]).1 with
  | none => rfl
  | some n =>
    show (if n < 13 ∧ ws.length = n + 2 then _ else none) = _
    split
    · rename_i hc
      cases hra : readAll ws with
      | none => rfl
      | some G =>
        show (if trainGB n G then some (n, G) else none) = none
        cases hb : trainGB n G
        · rfl
        · obtain ⟨h2, h12⟩ := trainGB_range hb
          exact absurd (numOf_small hn hc.1) (h n h2 h12)
    · rfl
theorem readTR_none {l : List UInt8} {n : Nat} (h2 : 2 ≤ n) (h12 : n ≤ 12) (hw : (Lib.cut l [32]).1 = Lib.decDigits n) (h : numsOf (Lib.cut l [32]).2.1 (n + 2) = none) : readTR l = none := by
  rw [readTR_of h2 h12 hw, h]; rfl
theorem readTR_some {l : List UInt8} {n : Nat} {G : List Nat} (h2 : 2 ≤ n) (h12 : n ≤ 12) (hw : (Lib.cut l [32]).1 = Lib.decDigits n) (h : numsOf (Lib.cut l [32]).2.1 (n + 2) = some G) : readTR l = if trainGB n G then some (n, G) else none := by
  rw [readTR_of h2 h12 hw, h]; rfl
/-- What a digit's contract says of a number of rollers. -/
theorem dig_roll {l : List UInt8} {n : Int} {ok : Bool} (h1 : ok = true → l = Lib.itoa n) (h2 : ∀ m, m < 13 → l = Lib.decDigits m → ok = true ∧ n = m) : (∃ m : Nat, 2 ≤ m ∧ m ≤ 12 ∧ n = m ∧ ok = true ∧ l = Lib.decDigits m) ∨ ((ok = false ∨ n < 2 ∨ 12 < n) ∧ ∀ m, 2 ≤ m → m ≤ 12 → l ≠ Lib.decDigits m) := by
  by_cases h : ok = true ∧ 2 ≤ n ∧ n ≤ 12
  · left
    obtain ⟨e, a, b⟩ := h
    obtain ⟨m, rfl⟩ : ∃ m : Nat, n = m := ⟨n.toNat, by omega⟩
    exact ⟨m, by omega, by omega, rfl, e, by rw [h1 e, itoa_nonneg]⟩
  · right
    refine ⟨?_, fun m a b e => h ?_⟩
    · cases ok
      · exact Or.inl rfl
      · right; have : ¬ (2 ≤ n ∧ n ≤ 12) := fun x => h ⟨rfl, x⟩; omega
    · obtain ⟨e1, e2⟩ := h2 m (by omega) e
      exact ⟨e1, by omega, by omega⟩

/-- A copy. -/
theorem oper_copy {P : Program} {o : Oper} {a : Act} {w : World} {K : Act → World → Prop} {Q : Exit → Act → World → Prop} (d s : Operand) (dT sT : TypeId)
    (ho : o.op = .call { callee := .builtin .copy, args := #[d, s], argTypes := #[dT, sT] }) (elem : TypeId) (hu : P.underlying dT = some (.slice elem)) (hsz : (P.info? elem).map (·.size) = some 1)
    (g off dLen dCap : Nat) (ad : Addr) (sLen sCap : Nat) (hd : a.eval d = .slice (some ⟨g, off, none⟩) dLen dCap) (hs : a.eval s = .slice (some ad) sLen sCap)
    (cur : Array Value) (t : TypeId) (hg : w.heap[g]? = some (.cells cur t (0, 0))) (cs : List Value) (hn : cs.length = Nat.min sLen dLen)
    (hsrc : ∀ j v, cs[j]? = some v → w.cell? (ad.add j) = some v) (hfit : off + cs.length ≤ cur.size) (h1 : ∀ v ∈ cs, v.oneCell' = true)
    (h : K (a.put o.dst (goInt cs.length)) (w.setRow g (cur.toList.take off ++ (cs ++ cur.toList.drop (off + cs.length))).toArray)) : o.wp P a w K Q := by
  have hrun := run_copy_row (P := P) w dT sT o.type elem g off dLen dCap ad sLen sCap cur t cs hu hsz hg hn hsrc hfit h1
  unfold Oper.wp
  simp [execOp, ho, resolve, invoke, builtin, hd, hs, hrun, Result.andThen]
  exact h
/-- A piece of a row is written over by a list of numbers. -/
theorem row_paste (pre : List Value) (n : Nat) (F : Nat → Nat) (k : Nat) (H : List Nat) (h : k + H.length ≤ n) : ((row pre n F).toList.take (pre.length + k) ++ (H.map (Value.float .f32) ++ (row pre n F).toList.drop (pre.length + k + (H.map (Value.float .f32)).length))).toArray = row pre n (fun i => if k ≤ i ∧ i < k + H.length then H.getD (i - k) 0 else F i) := by
  have e : ((List.range n).map (fun i => Value.float .f32 (F i))).take k ++ (H.map (Value.float .f32) ++ ((List.range n).map (fun i => Value.float .f32 (F i))).drop (k + H.length)) = (List.range n).map (fun i => Value.float .f32 (if k ≤ i ∧ i < k + H.length then H.getD (i - k) 0 else F i)) := by
    apply List.ext_getElem?
    intro j
    have hl : (((List.range n).map (fun i => Value.float .f32 (F i))).take k).length = k := by simp; omega
    by_cases h1 : j < k
    · rw [List.getElem?_append_left (by omega)]
      have hjn : j < n := by omega
      simp [h1, hjn, show ¬ k ≤ j by omega]
    · rw [List.getElem?_append_right (by omega), hl]
      by_cases h2 : j < k + H.length
      · have hjn : j < n := by omega
        have hjk : j - k < H.length := by omega
        rw [List.getElem?_append_left (by simp; omega)]
        simp [hjn, h2, show k ≤ j by omega, hjk]
      · rw [List.getElem?_append_right (by simp; omega)]
        rw [List.getElem?_drop, List.length_map, show k + H.length + (j - k - H.length) = j by omega]
        by_cases hjn : j < n
        · simp [hjn, h2]
        · simp [hjn]
  unfold row
  rw [← e]
  simp [List.take_append, List.drop_append]
  rw [List.take_of_length_le (by omega), List.drop_of_length_le (by omega), show pre.length + k + H.length - pre.length = k + H.length by omega]
  simp
end Go.Proofs.YtkokekndiammpaaGreatDoor

/-! The train of a text, as the program reads it. -/
set_option linter.unusedVariables false
set_option linter.unusedSimpArgs false
namespace Go.Proofs.YtkokekndiammpaaGreatDoor
open Go.RowKit Go.Lib

theorem norm_actR {Q : Exit → Act → World → Prop} {a a1 : Act} {w : World} (h : a = a1) (hq : Q .normal a1 w) : Q .normal a w := h ▸ hq
theorem KeptS.row {B : Nat} {w0 wr W : World} (h : KeptS B w0 wr W) (hB : B ≤ wr.heap.size) {g : Nat} (hg : wr.heap.size ≤ g) (cs : Array Value) : KeptS B w0 wr (W.setRow g cs) :=
  ⟨fun i hi => (setRow_other W g i cs (by omega)).trans (h.1 i hi), by rw [size_setRow]; exact h.2.1, Below.trans h.2.2 ⟨rfl, rfl, rfl, by rw [size_setRow]; exact Nat.le_refl _, fun k hk => setRow_other W g k cs (by omega)⟩⟩
theorem below_drewN (w : World) (k : Nat) : Below w.heap.size w (w.drewN k) := ⟨rfl, rfl, rfl, Nat.le_refl _, fun i hi => rfl⟩
theorem isRollers_any (n : Int) (b : Bool) (hb : (decide (2 ≤ n) && decide (n ≤ 12)) = b) (w : World) : Calls Tryz.prog 30 #[.int .i64 n] w fun e w' => e = .returned (.bool b) ∧ w = w' := by
  subst hb
  go_enter Tryz.func30, Tryz.ntmps30
  by_cases h1 : 2 ≤ n
  · by_cases h2 : n ≤ 12
    · go_wp2
      go_ret
      simp [h1, h2]
    · go_wp2
      go_ret
      simp [h1, h2]
  · go_wp2
    go_ret
    simp [h1]
    try omega

set_option maxHeartbeats 4000000 in
set_option maxRecDepth 100000 in
theorem implReadTrain (t : ByteArray) (hmax : t.size ≤ 1048576) (w : World) (hL : Libs w) (htab : Lib.TabIs Tryz.prog w "internal/strconv.uint64pow10" .u64 Lib.pow10Tab) (m0 : Int) (hml : w.cell? ⟨1, 0, none⟩ = some (.int .i64 m0)) (R : Array Value) (C : Int) (hR : R = rtRow (readTR t.data.toList)) (hC : C = rtCode (readTR t.data.toList)) :
    Calls Tryz.prog 9 #[.string t] w fun e w' => e = .returned (.tuple #[.agg R, .int .i64 C]) ∧ Below w.heap.size w w' := by
  have hz : (#[Value.int IntKind.i8 0, Value.float FloatKind.f32 0, Value.float FloatKind.f32 0, Value.float FloatKind.f32 0, Value.float FloatKind.f32 0, Value.float FloatKind.f32 0, Value.float FloatKind.f32 0, Value.float FloatKind.f32 0, Value.float FloatKind.f32 0, Value.float FloatKind.f32 0, Value.float FloatKind.f32 0, Value.float FloatKind.f32 0, Value.float FloatKind.f32 0, Value.float FloatKind.f32 0, Value.float FloatKind.f32 0] : Array Value) = row [Value.int IntKind.i8 0, Value.float FloatKind.f32 0, Value.float FloatKind.f32 0] 12 (fun _ => 0) := rfl
  have hMlt : 1 < w.heap.size := World.block_lt_of_cell? _ _ hml
  obtain ⟨X, hX⟩ : ∃ X : ByteArray, X = ⟨(Lib.cut t.data.toList [32]).1.toArray⟩ := ⟨_, rfl⟩
  obtain ⟨Y, hY⟩ : ∃ Y : ByteArray, Y = ⟨(Lib.cut t.data.toList [32]).2.1.toArray⟩ := ⟨_, rfl⟩
  have hXl : X.data.toList = (Lib.cut t.data.toList [32]).1 := by rw [hX]
  have hYl : Y.data.toList = (Lib.cut t.data.toList [32]).2.1 := by rw [hY]
  have hlen : t.data.toList.length = t.size := by rw [Lib.size_eq]
  have hXs : X.size ≤ 1048576 := by
    rw [hX, size_of_list]
    unfold Lib.cut
    split
    · simp; omega
    · simp; omega
  have hYs : Y.size ≤ 1048576 := by
    rw [hY, size_of_list]
    unfold Lib.cut
    split
    · simp; omega
    · simp
  obtain ⟨bb, hbb⟩ : ∃ bb, bb = (Lib.cut t.data.toList [32]).2.2 := ⟨_, rfl⟩
  have hCut : ∀ w1, Below w.heap.size w w1 → Calls Tryz.prog 28 #[.string t, .string ⟨#[32]⟩] w1 fun e w' => e = .returned (.tuple #[.string X, .string Y, .bool bb]) ∧ Below w1.heap.size w1 w' := fun w1 hb => by
    rw [hX, hY, hbb]
    exact (Tryz.strings_Cut t ⟨#[32]⟩ m0 w1 (by omega) ((hb.cell (p := ⟨1, 0, none⟩) hMlt).trans hml)).mono fun e w' ⟨h, k, hw⟩ => ⟨h, by rw [hw]; exact below_drewN _ _⟩
  have hDig : ∀ w1, Below w.heap.size w w1 → _ := fun w1 hb => implDigit X hXs w1 (hL.on hb (Nat.le_refl _)) (Go.Joins.tab_stays (g := 4) (by kernel_rfl) htab hb (Nat.le_refl _))
  have hNum : ∀ w1, Below w.heap.size w w1 → ∀ many, 1 ≤ many → many ≤ 14 → _ := fun w1 hb many h1 h2 => readNumbers_any Y hYs many h1 h2 w1 (hL.on hb (Nat.le_refl _)) m0 ((hb.cell (p := ⟨1, 0, none⟩) hMlt).trans hml)
  rw [hXl] at hDig
  rw [hYl] at hNum
  obtain ⟨L, hLL⟩ : ∃ L, L = t.data.toList := ⟨_, rfl⟩
  rw [← hLL] at hR hC hDig hNum
  have HR := Lib.hid hR
  have HC := Lib.hid hC
  have HN := Lib.hid hNum
  clear hR hC hX hY hXl hYl hlen hXs hYs hbb hL htab hml hMlt hLL hNum
  go_enter Tryz.func9, Tryz.ntmps9
  go_wp2_with (first | (go_at_call 28; with_reducible refine calls_args (b := #[.string t, .string ⟨#[32]⟩]) (by kernel_rfl) ?_; with_reducible refine (hCut _ (Below.alloc (Below.refl _ w) (Nat.le_refl _) _)).mono ?_; rintro e w1 ⟨rfl, hb1⟩))
  have B1 : Below w.heap.size w w1 := (Below.alloc (Below.refl _ w) (Nat.le_refl _) _).trans (hb1.mono (by simp))
  have hblk1 : w1.heap[w.heap.size]? = some (.cells (train 0 0 0 (fun _ => 0)) 28 (0, 0)) := blk_below hb1 (by simp) (by repeat (first | (with_reducible assumption) | ((with_reducible refine blk_new _ _ _ ?_); focus (simp; done)) | ((with_reducible refine blk_old _ _ _ ?_ ?_); focus (simp; done)) | ((with_reducible refine blk_old _ _ _ ?_ ?_); focus (first | omega | (simp; omega))) | ((with_reducible apply blk_set); focus (simp; done)) | ((with_reducible refine blk_off _ _ _ _ ?_ ?_); focus (simp; done)) | ((with_reducible refine blk_offc _ _ _ _ ?_ ?_); focus (first | (simp; done) | omega | (simp; omega))) | ((with_reducible refine blk_off _ _ _ _ ?_ ?_); focus (first | omega | (simp; omega))) | (with_reducible refine blk_drew _ _ ?_) | ((with_reducible refine blk_below (by assumption) ?_ ?_); focus (simp; done)) | ((with_reducible refine blk_below (by assumption) ?_ ?_); focus (first | omega | (simp; omega)))))
  have hz1 : w.heap.size + 1 ≤ w1.heap.size := by have := hb1.size; simpa using this
  clear hb1 hCut
  with_reducible refine (hDig _ B1).mono ?_
  rintro e w2 ⟨⟨v, rfl, n, ok, rfl, q1, q2⟩, hb2⟩
  have B2 : Below w.heap.size w w2 := B1.trans (hb2.mono B1.size)
  have hblk2 : w2.heap[w.heap.size]? = some (.cells (train 0 0 0 (fun _ => 0)) 28 (0, 0)) := blk_below hb2 (by omega) hblk1
  have hz2 : w.heap.size + 1 ≤ w2.heap.size := by have := hb2.size; omega
  have hroll := dig_roll q1 q2
  clear q1 q2 hb2 hblk1 hz1 hDig B1
  rcases hroll with ⟨m, h2, h12, rfl, rfl, hw⟩ | ⟨hno, hne⟩
  · have hIR := isRollers_any (m : Int) true (by simp; omega)
    have w2' : IntKind.i64.wrap ((m : Int) + 2) = (m : Int) + 2 := by rw [IntKind.wrap_i64]; omega
    have w8 : IntKind.i8.wrap (m : Int) = m := by simp [IntKind.wrap, IntKind.signed, IntKind.bits]; omega
    have HW := Lib.hid hw
    have hNum := fun w1 hb => HN.out w1 hb (m + 2) (by omega) (by omega)
    clear hw
    go_wp2_with (first | (go_at_call 30; with_reducible refine (hIR _).mono ?_; rintro e w3 ⟨rfl, rfl⟩))
    with_reducible refine calls_args (b := #[.string Y, .int .i64 ((m + 2 : Nat) : Int)]) (by first | kernel_rfl | simp) ?_
    with_reducible refine (hNum _ B2).mono ?_
    rintro e w3 ⟨⟨v, rfl, hv⟩, hb3⟩
    have B3 : Below w.heap.size w w3 := B2.trans (hb3.mono B2.size)
    have hblk3 : w3.heap[w.heap.size]? = some (.cells (train 0 0 0 (fun _ => 0)) 28 (0, 0)) := blk_below hb3 (by omega) hblk2
    have hz3 : w.heap.size + 1 ≤ w3.heap.size := by have := hb3.size; omega
    have hk2 : w.heap.size + 1 ≤ w2.heap.size := hz2
    clear hb3 hblk2 hz2 hNum B2
    cases hq : numsOf (Lib.cut L [32]).2.1 (m + 2) with
    | none =>
      have HF : Hid (R = train 0 0 0 (fun _ => 0) ∧ C = 5) := Lib.hid (by rw [HR.out, HC.out, readTR_none h2 h12 HW.out hq]; exact ⟨rfl, rfl⟩)
      rw [hq] at hv
      obtain ⟨sl, rfl⟩ : ∃ sl, v = .tuple #[sl, .bool false] := hv
      clear hq
      go_wp2_with (first | ((with_reducible refine at_store 28 ?_); refine wpList_store_part rfl 28 _ _ rfl _ 0 _ rfl rfl _ _ (by repeat (first | (with_reducible assumption) | ((with_reducible refine blk_new _ _ _ ?_); focus (simp; done)) | ((with_reducible refine blk_old _ _ _ ?_ ?_); focus (simp; done)) | ((with_reducible refine blk_old _ _ _ ?_ ?_); focus (first | omega | (simp; omega))) | ((with_reducible apply blk_set); focus (simp; done)) | ((with_reducible refine blk_off _ _ _ _ ?_ ?_); focus (simp; done)) | ((with_reducible refine blk_offc _ _ _ _ ?_ ?_); focus (first | (simp; done) | omega | (simp; omega))) | ((with_reducible refine blk_off _ _ _ _ ?_ ?_); focus (first | omega | (simp; omega))) | (with_reducible refine blk_drew _ _ ?_) | ((with_reducible refine blk_below (by assumption) ?_ ?_); focus (simp; done)) | ((with_reducible refine blk_below (by assumption) ?_ ?_); focus (first | omega | (simp; omega))))) (by rw [row_size]; kernel_rfl) (by simp [row_size]) (row_cells _ _ _ rfl) _ (row_over _ _ 12 _ _ (by simp)) ?_))
      refine bodyPost_ret (v := .tuple #[.agg (train 0 0 0 (fun _ => 0)), .int .i64 5]) ?_ ?_ ?_
      · refine results_row_tmp Tryz.results9 _ _ _ 28 (train 0 0 0 (fun _ => 0)) (0, 0) _ _ rfl rfl ?_ Tryz.underlying28 rfl (by simp only [row_size]; kernel_rfl)
        exact (by repeat (first | (with_reducible assumption) | ((with_reducible refine blk_new _ _ _ ?_); focus (simp; done)) | ((with_reducible refine blk_old _ _ _ ?_ ?_); focus (simp; done)) | ((with_reducible refine blk_old _ _ _ ?_ ?_); focus (first | omega | (simp; omega))) | ((with_reducible apply blk_set); focus (simp; done)) | ((with_reducible refine blk_off _ _ _ _ ?_ ?_); focus (simp; done)) | ((with_reducible refine blk_offc _ _ _ _ ?_ ?_); focus (first | (simp; done) | omega | (simp; omega))) | ((with_reducible refine blk_off _ _ _ _ ?_ ?_); focus (first | omega | (simp; omega))) | (with_reducible refine blk_drew _ _ ?_) | ((with_reducible refine blk_below (by assumption) ?_ ?_); focus (simp; done)) | ((with_reducible refine blk_below (by assumption) ?_ ?_); focus (first | omega | (simp; omega)))))
      · rfl
      · exact ⟨by (rw [HF.out.1, HF.out.2] <;> rfl), (by repeat (first | (with_reducible assumption) | (with_reducible exact Below.refl _ _) | ((with_reducible refine bel_alloc _ ?_ ?_); focus (first | omega | (simp; done) | (simp; omega))) | ((with_reducible refine bel_row _ ?_ ?_); focus (first | omega | (simp; done) | (simp; omega))) | ((with_reducible refine bel_cell _ ?_ ?_); focus (first | omega | (simp; done) | (simp; omega))) | (with_reducible refine Below.drew ?_) | (with_reducible refine below_wideW _ ?_) | ((with_reducible refine bel_next (by assumption) ?_ ?_); focus (first | omega | (simp; done) | (simp; omega)))))⟩
    | some G =>
      have hTR := Lib.hid (readTR_some h2 h12 HW.out hq)
      have hGl := (numsOf_len hq).2.1
      rw [hq] at hv
      obtain ⟨sl, rfl, hown⟩ : ∃ sl, v = .tuple #[sl, .bool true] ∧ w3.ownsRow w2.heap.size 25 1 sl (m + 2) (G.map (Value.float .f32)) := hv
      rcases hown.2 with ⟨_, h0⟩ | ⟨gl, cap, cur, rfl, hgl, hgb, hcap, hmx, hcs, htk⟩
      · exact absurd h0 (by omega)
      rw [Nat.mul_one] at htk hcs
      clear hq hown HW HN
      have hcur : ∀ j, j < m + 2 → cur[j]? = some (.float .f32 (G.getD j 0)) := fun j hj => by
        have e : cur.toList[j]? = (G.map (Value.float .f32))[j]? := by rw [← htk, List.getElem?_take, if_pos hj]
        rw [← Array.getElem?_toList, e]
        simp [List.getD, show j < G.length by omega]
      have hcl : ∀ j, j < m + 2 → w3.cell? ⟨gl, j, none⟩ = some (.float .f32 (G.getD j 0)) := fun j hj => (cell_of_row w3 gl j _ _ _ hgb).trans (hcur j hj)
      have hgl3 : gl < w3.heap.size := World.block_lt_of_cell? _ _ (hcl 0 (by omega))
      have k0 := hcl 0 (by omega)
      have k1 := hcl 1 (by omega)
      obtain ⟨s0, hs0⟩ : ∃ x, x = G.getD 0 0 := ⟨_, rfl⟩
      obtain ⟨t0, ht0⟩ : ∃ x, x = G.getD 1 0 := ⟨_, rfl⟩
      obtain ⟨fF, hfF⟩ : ∃ x, x = trF G := ⟨_, rfl⟩
      rw [← hs0] at k0
      rw [← ht0] at k1
      have hpaste : ((train m s0 t0 (fun _ => 0)).toList.take 3 ++ ((G.drop 2).map (Value.float .f32) ++ (train m s0 t0 (fun _ => 0)).toList.drop (3 + ((G.drop 2).map (Value.float .f32)).length))).toArray = train m s0 t0 fF := by
        have := row_paste (tpre m s0 t0) 12 (fun _ => 0) 0 (G.drop 2) (by simp; omega)
        refine this.trans (row_congr _ _ _ fun i hi => ?_)
        rw [hfF]
        unfold trF
        by_cases h : i < (G.drop 2).length
        · rw [if_pos ⟨by omega, by omega⟩]
          simp [List.getD, List.getElem?_drop, Nat.add_comm]
        · rw [if_neg (by omega)]
          simp at h
          simp [List.getD, List.getElem?_eq_none (show G.length ≤ i + 2 by omega)]
      have hRC : ∀ b, trainB m s0 t0 fF = b → R = (if b then train m s0 t0 fF else train 0 0 0 (fun _ => 0)) ∧ C = (if b then 0 else 5) := by
        intro b hb
        rw [hs0, ht0, hfF] at hb
        rw [HR.out, HC.out, hTR.out, show trainGB m G = b from hb]
        cases b
        · exact ⟨rfl, rfl⟩
        · exact ⟨by rw [hs0, ht0, hfF]; rfl, rfl⟩
      have hlen2 : ((G.drop 2).map (Value.float .f32)).length = m := by simp; omega
      have hsrc : ∀ j v, ((G.drop 2).map (Value.float .f32))[j]? = some v → w3.cell? ⟨gl, 2 + j, none⟩ = some v := fun j v hj => by
        have hjm : j < m := by
          have := (List.getElem?_eq_some_iff.1 hj).1
          omega
        rw [hcl (2 + j) (by omega), ← hj]
        simp [List.getD, show 2 + j < G.length by omega]
      obtain ⟨cs, hcsd⟩ : ∃ cs, cs = (G.drop 2).map (Value.float .f32) := ⟨_, rfl⟩
      rw [← hcsd] at hpaste hlen2 hsrc
      have hone : ∀ v ∈ cs, v.oneCell' = true := by
        intro v hv
        rw [hcsd] at hv
        obtain ⟨y, _, rfl⟩ := List.mem_map.1 hv
        rfl
      have HP := Lib.hid hpaste
      have HRC := Lib.hid hRC
      have HSRC := Lib.hid hsrc
      have HLEN := Lib.hid hlen2
      have hBB : w.heap.size ≤ w3.heap.size := B3.size
      have hBlt : w.heap.size < w3.heap.size := by omega
      have hm2 : 2 ≤ m + 2 := by omega
      have hrow2 : ¬ (row [Value.int IntKind.i8 0, Value.float FloatKind.f32 0, Value.float FloatKind.f32 0] 12 (fun _ => 0)).size < 2 := by rw [row_size]; simp
      have hrow3 : ¬ (row [Value.int IntKind.i8 0, Value.float FloatKind.f32 0, Value.float FloatKind.f32 0] 12 (fun _ => 0)).size < 3 := by rw [row_size]; simp
      have hrow : ¬ (row [Value.int IntKind.i8 0, Value.float FloatKind.f32 0, Value.float FloatKind.f32 0] 12 (fun _ => 0)) = #[] := fun h => by have := congrArg Array.size h; simp [row_size] at this
      clear hpaste hcur htk hcl hRC hsrc hlen2 hcsd hs0 ht0 hfF HR HC hTR hGl hcs hmx
      go_wp2
      refine wp_region_held_drew (S := fun w' => KeptS w.heap.size w w3 w') (by kernel_rfl) (KeptS.refl B3).drew (fun hS => ?_)
      refine held_yield 0 rfl rfl (by kernel_rfl) (by kernel_rfl) (by kernel_rfl) (fun _ _ _ _ h => h) (.int .i64 m) (fun w' hw' => by go_simp) hS ?_
      refine held_yield 1 rfl rfl (by kernel_rfl) (by kernel_rfl) (by kernel_rfl) (fun _ _ _ _ h => h) (.int .i8 m) (fun w' hw' => by go_simp) hS ?_
      refine held_yield 2 rfl rfl (by kernel_rfl) (by kernel_rfl) (by kernel_rfl) (fun _ _ _ _ h => h) (.slice (some ⟨gl, 0, none⟩) (m + 2) cap) (fun w' hw' => by go_simp) hS ?_
      refine held_yield 3 rfl rfl (by kernel_rfl) (by kernel_rfl) (by kernel_rfl) (fun _ _ _ _ h => h) (.pointer (some ⟨gl, 0, none⟩)) (fun w' hw' => by (go_simp; intro h; omega)) hS ?_
      refine held_yield 4 rfl rfl (by kernel_rfl) (by kernel_rfl) (by kernel_rfl) (fun _ _ _ _ h => h) (.float .f32 s0) (fun w' hw' => by (have c := (hw'.cell (p := ⟨gl, 0, none⟩) hgl3).trans k0; go_simp)) hS ?_
      refine held_yield 5 rfl rfl (by kernel_rfl) (by kernel_rfl) (by kernel_rfl) (fun _ _ _ _ h => h) (.slice (some ⟨gl, 0, none⟩) (m + 2) cap) (fun w' hw' => by go_simp) hS ?_
      refine held_yield 6 rfl rfl (by kernel_rfl) (by kernel_rfl) (by kernel_rfl) (fun _ _ _ _ h => h) (.pointer (some ⟨gl, 1, none⟩)) (fun w' hw' => by (go_simp; intro h; omega)) hS ?_
      refine held_yield 7 rfl rfl (by kernel_rfl) (by kernel_rfl) (by kernel_rfl) (fun _ _ _ _ h => h) (.float .f32 t0) (fun w' hw' => by (have c := (hw'.cell (p := ⟨gl, 1, none⟩) hgl3).trans k1; go_simp)) hS ?_
      refine held_yield 8 rfl rfl (by kernel_rfl) (by kernel_rfl) (by kernel_rfl) (fun _ _ _ _ h => h) (.agg (train m s0 t0 (fun _ => 0))) (fun w' hw' => by (have hne := hrow; have hne2 := hrow2; have hne3 := hrow3; go_simp)) hS ?_
      refine held_one 9 (by kernel_rfl) rfl rfl ?_
      with_reducible refine oper_value (.pointer (some ⟨w3.drew.heap.size, 0, none⟩)) (w1 := w3.drew.alloc (.cells (train 0 0 0 (fun _ => 0)) 28 (0, 0))) ?he ?_
      case he => first | kernel_rfl | go_simp
      have hk0 := hS.alloc hBB (.cells (train 0 0 0 (fun _ => 0)) 28 (0, 0))
      obtain ⟨bk0, hbk0⟩ : ∃ b, b = w3.drew.heap.size := ⟨_, rfl⟩
      obtain ⟨V0, hV0⟩ : ∃ V, V = w3.drew.alloc (.cells (train 0 0 0 (fun _ => 0)) 28 (0, 0)) := ⟨_, rfl⟩
      have hn0 : V0.heap[bk0]? = some (.cells (train 0 0 0 (fun _ => 0)) 28 (0, 0)) := by rw [hV0, hbk0]; exact heap_alloc_new _ _
      have hz0 : bk0 < V0.heap.size := by rw [hV0, hbk0]; simp
      rw [← hV0] at hk0 ⊢
      rw [← hbk0]
      have hge0 : w3.heap.size ≤ bk0 := by rw [hbk0]; exact hS.2.1
      clear hV0 hbk0
      refine ⟨hk0, ?_⟩
      refine held_store 10 (by kernel_rfl) rfl rfl 28 (.tmp 11) (.tmp 49) rfl bk0 0 (train m s0 t0 (fun _ => 0)) (by kernel_rfl) (by kernel_rfl) _ (train 0 0 0 (fun _ => 0)) hn0 (by rw [row_size]; kernel_rfl) (by simp [row_size]) (row_cells _ _ _ rfl) _ (row_over _ _ 12 _ _ (by simp)) (hk0.row hBB hge0 _) ?_
      have hk1 := hk0.row hBB hge0 (train m s0 t0 (fun _ => 0))
      have hn1 : (V0.setRow bk0 (train m s0 t0 (fun _ => 0))).heap[bk0]? = some (.cells (train m s0 t0 (fun _ => 0)) 28 (0, 0)) := setRow_heap V0 bk0 _ _ _ _ hn0
      have hz1 : bk0 < (V0.setRow bk0 (train m s0 t0 (fun _ => 0))).heap.size := (Array.getElem?_eq_some_iff.1 hn1).1
      generalize V0.setRow bk0 (train m s0 t0 (fun _ => 0)) = W5 at hk1 hn1 hz1 ⊢
      clear hn0 hk0 hz0
      refine wpAnyH_done (by kernel_rfl) ?_ _
      refine norm_actR (a1 := ({ tmps := ((Value.string t) :: undef :: (Value.pointer (some ⟨w.heap.size, 0, none⟩)) :: (Value.int .i64 0) :: (Value.string X) :: (Value.string Y) :: (Value.bool bb) :: (Value.int .i64 m) :: (Value.bool true) :: (Value.slice (some ⟨gl, 0, none⟩) (m + 2) cap) :: (Value.bool true) :: (Value.pointer (some ⟨bk0, 0, none⟩)) :: (Value.tuple #[.string X, .string Y, .bool bb]) :: (Value.string t) :: (Value.tuple #[.string X, .string Y, .bool bb]) :: (Value.string X) :: (Value.string Y) :: (Value.bool bb) :: (Value.tuple #[.int .i64 m, .bool true]) :: (Value.string X) :: (Value.tuple #[.int .i64 m, .bool true]) :: (Value.int .i64 m) :: (Value.bool true) :: (Value.bool true) :: (Value.bool false) :: (Value.bool false) :: (Value.int .i64 m) :: (Value.bool true) :: (Value.bool false) :: (Value.bool false) :: undef :: (Value.tuple #[.slice (some ⟨gl, 0, none⟩) (m + 2) cap, .bool true]) :: (Value.string Y) :: (Value.int .i64 m) :: (Value.int .i64 ((m : Int) + 2)) :: (Value.tuple #[.slice (some ⟨gl, 0, none⟩) (m + 2) cap, .bool true]) :: (Value.slice (some ⟨gl, 0, none⟩) (m + 2) cap) :: (Value.bool true) :: (Value.bool true) :: (Value.bool false) :: undef :: (Value.int .i64 m) :: (Value.int .i8 m) :: (Value.slice (some ⟨gl, 0, none⟩) (m + 2) cap) :: (Value.pointer (some ⟨gl, 0, none⟩)) :: (Value.float .f32 s0) :: (Value.slice (some ⟨gl, 0, none⟩) (m + 2) cap) :: (Value.pointer (some ⟨gl, 1, none⟩)) :: (Value.float .f32 t0) :: (Value.agg (train m s0 t0 (fun _ => 0))) :: undef :: undef :: undef :: undef :: undef :: undef :: undef :: undef :: undef :: undef :: []).toArray, defers := [] } : Act)) (by kernel_rfl) ?_
      go_wp2
      refine wp_region_held_drew (S := fun w' => KeptS w.heap.size w w3 w') (by kernel_rfl) hk1.drew (fun hS => ?_)
      refine held_yield 0 rfl rfl (by kernel_rfl) (by kernel_rfl) (by kernel_rfl) (fun _ _ _ _ h => h) (.pointer (some ⟨bk0, 3, none⟩)) (fun w' hw' => by go_simp) hS ?_
      refine held_yield 1 rfl rfl (by kernel_rfl) (by kernel_rfl) (by kernel_rfl) (fun _ _ _ _ h => h) (.slice (some ⟨bk0, 3, none⟩) 12 12) (fun w' hw' => by go_simp) hS ?_
      refine held_yield 2 rfl rfl (by kernel_rfl) (by kernel_rfl) (by kernel_rfl) (fun _ _ _ _ h => h) (.slice (some ⟨gl, 0, none⟩) (m + 2) cap) (fun w' hw' => by go_simp) hS ?_
      refine held_yield 3 rfl rfl (by kernel_rfl) (by kernel_rfl) (by kernel_rfl) (fun _ _ _ _ h => h) (.slice (some ⟨gl, 2, none⟩) m (cap - 2)) (fun w' hw' => by (have e1 : ¬ cap = 2 := (by omega); have e2 : (2 : Int) ≤ (m : Int) + 2 := (by omega); have e3 : (m : Int) + 2 ≤ (cap : Int) := (by omega); go_simp)) hS ?_
      refine held_one 4 (by kernel_rfl) rfl rfl ?_
      refine oper_copy (.tmp 51) (.tmp 53) _ _ rfl 25 Tryz.underlying39 (by kernel_rfl) bk0 3 12 12 ⟨gl, 2, none⟩ m (cap - 2) (by kernel_rfl) (by kernel_rfl) _ _ (blk_drew _ _ hn1) cs (by rw [HLEN.out]; exact (Nat.min_eq_left h12).symm) (fun j v hj => by have h := (hS.cell (p := ⟨gl, 2 + j, none⟩) hgl3).trans (HSRC.out j v hj); rw [show ((⟨gl, 2, none⟩ : Addr).add j) = ⟨gl, 2 + j, none⟩ from by cases j <;> simp [Addr.add]]; exact h) (by rw [HLEN.out, row_size]; simp; omega) hone ?_
      rw [HP.out]
      have hk2 := hS.row hBB hge0 (train m s0 t0 fF)
      have hn2 : (W5.drew.setRow bk0 (train m s0 t0 fF)).heap[bk0]? = some (.cells (train m s0 t0 fF) 28 (0, 0)) := setRow_heap _ bk0 _ _ _ _ (blk_drew _ _ hn1)
      refine ⟨hk2, ?_⟩
      generalize W5.drew.setRow bk0 (train m s0 t0 fF) = W6 at hk2 hn2 ⊢
      have hz2 : bk0 < W6.heap.size := (Array.getElem?_eq_some_iff.1 hn2).1
      have B6 : Below w.heap.size w W6 := hk2.2.2
      have hblk6 : W6.heap[w.heap.size]? = some (.cells (train 0 0 0 (fun _ => 0)) 28 (0, 0)) := (hk2.1 _ hBlt).trans hblk3
      clear hn1 hk1 hz1 hk2 hS hblk3 B3 k0 k1 hgb hcap hgl hone HP HSRC
      refine wpAnyH_done (by kernel_rfl) ?_ _
      rw [HLEN.out]
      refine norm_actR (a1 := ({ tmps := ((Value.string t) :: undef :: (Value.pointer (some ⟨w.heap.size, 0, none⟩)) :: (Value.int .i64 0) :: (Value.string X) :: (Value.string Y) :: (Value.bool bb) :: (Value.int .i64 m) :: (Value.bool true) :: (Value.slice (some ⟨gl, 0, none⟩) (m + 2) cap) :: (Value.bool true) :: (Value.pointer (some ⟨bk0, 0, none⟩)) :: (Value.tuple #[.string X, .string Y, .bool bb]) :: (Value.string t) :: (Value.tuple #[.string X, .string Y, .bool bb]) :: (Value.string X) :: (Value.string Y) :: (Value.bool bb) :: (Value.tuple #[.int .i64 m, .bool true]) :: (Value.string X) :: (Value.tuple #[.int .i64 m, .bool true]) :: (Value.int .i64 m) :: (Value.bool true) :: (Value.bool true) :: (Value.bool false) :: (Value.bool false) :: (Value.int .i64 m) :: (Value.bool true) :: (Value.bool false) :: (Value.bool false) :: undef :: (Value.tuple #[.slice (some ⟨gl, 0, none⟩) (m + 2) cap, .bool true]) :: (Value.string Y) :: (Value.int .i64 m) :: (Value.int .i64 ((m : Int) + 2)) :: (Value.tuple #[.slice (some ⟨gl, 0, none⟩) (m + 2) cap, .bool true]) :: (Value.slice (some ⟨gl, 0, none⟩) (m + 2) cap) :: (Value.bool true) :: (Value.bool true) :: (Value.bool false) :: undef :: (Value.int .i64 m) :: (Value.int .i8 m) :: (Value.slice (some ⟨gl, 0, none⟩) (m + 2) cap) :: (Value.pointer (some ⟨gl, 0, none⟩)) :: (Value.float .f32 s0) :: (Value.slice (some ⟨gl, 0, none⟩) (m + 2) cap) :: (Value.pointer (some ⟨gl, 1, none⟩)) :: (Value.float .f32 t0) :: (Value.agg (train m s0 t0 (fun _ => 0))) :: (Value.pointer (some ⟨bk0, 3, none⟩)) :: (Value.slice (some ⟨bk0, 3, none⟩) 12 12) :: (Value.slice (some ⟨gl, 0, none⟩) (m + 2) cap) :: (Value.slice (some ⟨gl, 2, none⟩) m (cap - 2)) :: (Value.int .i64 m) :: undef :: undef :: undef :: undef :: undef :: []).toArray, defers := [] } : Act)) (by kernel_rfl) ?_
      cases hv : trainB m s0 t0 fF with
      | false =>
        have HF : Hid (R = train 0 0 0 (fun _ => 0) ∧ C = 5) := Lib.hid (HRC.out false hv)
        go_wp2_with (first | (go_at_call 18; (with_reducible refine (implOk_any (m : Int) s0 t0 fF _ (by omega) (by omega)).mono ?_); rintro e w7 ⟨rfl, hb7⟩; rw [hv]; have hz7 := hb7.size; (try simp at hz7); obtain ⟨hc7, hf7⟩ := bcell hb7) | ((with_reducible refine at_load 28 ?_); refine wpList_load_part rfl 28 _ rfl _ 0 15 rfl _ _ _ _ (by repeat (first | (with_reducible assumption) | ((with_reducible refine blk_new _ _ _ ?_); focus (simp; done)) | ((with_reducible refine blk_old _ _ _ ?_ ?_); focus (simp; done)) | ((with_reducible refine blk_old _ _ _ ?_ ?_); focus (first | omega | (simp; omega))) | ((with_reducible apply blk_set); focus (simp; done)) | ((with_reducible refine blk_off _ _ _ _ ?_ ?_); focus (simp; done)) | ((with_reducible refine blk_offc _ _ _ _ ?_ ?_); focus (first | (simp; done) | omega | (simp; omega))) | ((with_reducible refine blk_off _ _ _ _ ?_ ?_); focus (first | omega | (simp; omega))) | (with_reducible refine blk_drew _ _ ?_) | ((with_reducible refine blk_below (by assumption) ?_ ?_); focus (simp; done)) | ((with_reducible refine blk_below (by assumption) ?_ ?_); focus (first | omega | (simp; omega))))) Tryz.underlying28 rfl (by kernel_rfl) (by simp [row_size]) _ (row_all [_, _, _] 12 _) ?_) | ((with_reducible refine at_store 28 ?_); refine wpList_store_part rfl 28 _ _ rfl _ 0 _ rfl rfl _ _ (by repeat (first | (with_reducible assumption) | ((with_reducible refine blk_new _ _ _ ?_); focus (simp; done)) | ((with_reducible refine blk_old _ _ _ ?_ ?_); focus (simp; done)) | ((with_reducible refine blk_old _ _ _ ?_ ?_); focus (first | omega | (simp; omega))) | ((with_reducible apply blk_set); focus (simp; done)) | ((with_reducible refine blk_off _ _ _ _ ?_ ?_); focus (simp; done)) | ((with_reducible refine blk_offc _ _ _ _ ?_ ?_); focus (first | (simp; done) | omega | (simp; omega))) | ((with_reducible refine blk_off _ _ _ _ ?_ ?_); focus (first | omega | (simp; omega))) | (with_reducible refine blk_drew _ _ ?_) | ((with_reducible refine blk_below (by assumption) ?_ ?_); focus (simp; done)) | ((with_reducible refine blk_below (by assumption) ?_ ?_); focus (first | omega | (simp; omega))))) (by rw [row_size]; kernel_rfl) (by simp [row_size]) (row_cells _ _ _ rfl) _ (row_over _ _ 12 _ _ (by simp)) ?_))
        refine bodyPost_ret (v := .tuple #[.agg (train 0 0 0 (fun _ => 0)), .int .i64 5]) ?_ ?_ ?_
        · refine results_row_tmp Tryz.results9 _ _ _ 28 (train 0 0 0 (fun _ => 0)) (0, 0) _ _ rfl rfl ?_ Tryz.underlying28 rfl (by simp only [row_size]; kernel_rfl)
          exact (by repeat (first | (with_reducible assumption) | ((with_reducible refine blk_new _ _ _ ?_); focus (simp; done)) | ((with_reducible refine blk_old _ _ _ ?_ ?_); focus (simp; done)) | ((with_reducible refine blk_old _ _ _ ?_ ?_); focus (first | omega | (simp; omega))) | ((with_reducible apply blk_set); focus (simp; done)) | ((with_reducible refine blk_off _ _ _ _ ?_ ?_); focus (simp; done)) | ((with_reducible refine blk_offc _ _ _ _ ?_ ?_); focus (first | (simp; done) | omega | (simp; omega))) | ((with_reducible refine blk_off _ _ _ _ ?_ ?_); focus (first | omega | (simp; omega))) | (with_reducible refine blk_drew _ _ ?_) | ((with_reducible refine blk_below (by assumption) ?_ ?_); focus (simp; done)) | ((with_reducible refine blk_below (by assumption) ?_ ?_); focus (first | omega | (simp; omega)))))
        · rfl
        · exact ⟨by (rw [HF.out.1, HF.out.2] <;> rfl), (by repeat (first | (with_reducible assumption) | (with_reducible exact Below.refl _ _) | ((with_reducible refine bel_alloc _ ?_ ?_); focus (first | omega | (simp; done) | (simp; omega))) | ((with_reducible refine bel_row _ ?_ ?_); focus (first | omega | (simp; done) | (simp; omega))) | ((with_reducible refine bel_cell _ ?_ ?_); focus (first | omega | (simp; done) | (simp; omega))) | (with_reducible refine Below.drew ?_) | (with_reducible refine below_wideW _ ?_) | ((with_reducible refine bel_next (by assumption) ?_ ?_); focus (first | omega | (simp; done) | (simp; omega)))))⟩
      | true =>
        have HF : Hid (R = train m s0 t0 fF ∧ C = 0) := Lib.hid (HRC.out true hv)
        go_wp2_with (first | (go_at_call 18; (with_reducible refine (implOk_any (m : Int) s0 t0 fF _ (by omega) (by omega)).mono ?_); rintro e w7 ⟨rfl, hb7⟩; rw [hv]; have hz7 := hb7.size; (try simp at hz7); obtain ⟨hc7, hf7⟩ := bcell hb7) | ((with_reducible refine at_load 28 ?_); refine wpList_load_part rfl 28 _ rfl _ 0 15 rfl _ _ _ _ (by repeat (first | (with_reducible assumption) | ((with_reducible refine blk_new _ _ _ ?_); focus (simp; done)) | ((with_reducible refine blk_old _ _ _ ?_ ?_); focus (simp; done)) | ((with_reducible refine blk_old _ _ _ ?_ ?_); focus (first | omega | (simp; omega))) | ((with_reducible apply blk_set); focus (simp; done)) | ((with_reducible refine blk_off _ _ _ _ ?_ ?_); focus (simp; done)) | ((with_reducible refine blk_offc _ _ _ _ ?_ ?_); focus (first | (simp; done) | omega | (simp; omega))) | ((with_reducible refine blk_off _ _ _ _ ?_ ?_); focus (first | omega | (simp; omega))) | (with_reducible refine blk_drew _ _ ?_) | ((with_reducible refine blk_below (by assumption) ?_ ?_); focus (simp; done)) | ((with_reducible refine blk_below (by assumption) ?_ ?_); focus (first | omega | (simp; omega))))) Tryz.underlying28 rfl (by kernel_rfl) (by simp [row_size]) _ (row_all [_, _, _] 12 _) ?_) | ((with_reducible refine at_store 28 ?_); refine wpList_store_part rfl 28 _ _ rfl _ 0 _ rfl rfl _ _ (by repeat (first | (with_reducible assumption) | ((with_reducible refine blk_new _ _ _ ?_); focus (simp; done)) | ((with_reducible refine blk_old _ _ _ ?_ ?_); focus (simp; done)) | ((with_reducible refine blk_old _ _ _ ?_ ?_); focus (first | omega | (simp; omega))) | ((with_reducible apply blk_set); focus (simp; done)) | ((with_reducible refine blk_off _ _ _ _ ?_ ?_); focus (simp; done)) | ((with_reducible refine blk_offc _ _ _ _ ?_ ?_); focus (first | (simp; done) | omega | (simp; omega))) | ((with_reducible refine blk_off _ _ _ _ ?_ ?_); focus (first | omega | (simp; omega))) | (with_reducible refine blk_drew _ _ ?_) | ((with_reducible refine blk_below (by assumption) ?_ ?_); focus (simp; done)) | ((with_reducible refine blk_below (by assumption) ?_ ?_); focus (first | omega | (simp; omega))))) (by rw [row_size]; kernel_rfl) (by simp [row_size]) (row_cells _ _ _ rfl) _ (row_over _ _ 12 _ _ (by simp)) ?_))
        refine bodyPost_ret (v := .tuple #[.agg (train m s0 t0 fF), .int .i64 0]) ?_ ?_ ?_
        · refine results_row_tmp Tryz.results9 _ _ _ 28 (train m s0 t0 fF) (0, 0) _ _ rfl rfl ?_ Tryz.underlying28 rfl (by simp only [row_size]; kernel_rfl)
          exact (by repeat (first | (with_reducible assumption) | ((with_reducible refine blk_new _ _ _ ?_); focus (simp; done)) | ((with_reducible refine blk_old _ _ _ ?_ ?_); focus (simp; done)) | ((with_reducible refine blk_old _ _ _ ?_ ?_); focus (first | omega | (simp; omega))) | ((with_reducible apply blk_set); focus (simp; done)) | ((with_reducible refine blk_off _ _ _ _ ?_ ?_); focus (simp; done)) | ((with_reducible refine blk_offc _ _ _ _ ?_ ?_); focus (first | (simp; done) | omega | (simp; omega))) | ((with_reducible refine blk_off _ _ _ _ ?_ ?_); focus (first | omega | (simp; omega))) | (with_reducible refine blk_drew _ _ ?_) | ((with_reducible refine blk_below (by assumption) ?_ ?_); focus (simp; done)) | ((with_reducible refine blk_below (by assumption) ?_ ?_); focus (first | omega | (simp; omega)))))
        · rfl
        · exact ⟨by (rw [HF.out.1, HF.out.2] <;> rfl), (by repeat (first | (with_reducible assumption) | (with_reducible exact Below.refl _ _) | ((with_reducible refine bel_alloc _ ?_ ?_); focus (first | omega | (simp; done) | (simp; omega))) | ((with_reducible refine bel_row _ ?_ ?_); focus (first | omega | (simp; done) | (simp; omega))) | ((with_reducible refine bel_cell _ ?_ ?_); focus (first | omega | (simp; done) | (simp; omega))) | (with_reducible refine Below.drew ?_) | (with_reducible refine below_wideW _ ?_) | ((with_reducible refine bel_next (by assumption) ?_ ?_); focus (first | omega | (simp; done) | (simp; omega)))))⟩
  · have HF : Hid (R = train 0 0 0 (fun _ => 0) ∧ C = 5) := Lib.hid (by rw [HR.out, HC.out, readTR_no hne]; exact ⟨rfl, rfl⟩)
    clear hne HN
    cases ok with
    | false =>
      clear hno
      go_wp2_with (first | ((with_reducible refine at_store 28 ?_); refine wpList_store_part rfl 28 _ _ rfl _ 0 _ rfl rfl _ _ (by repeat (first | (with_reducible assumption) | ((with_reducible refine blk_new _ _ _ ?_); focus (simp; done)) | ((with_reducible refine blk_old _ _ _ ?_ ?_); focus (simp; done)) | ((with_reducible refine blk_old _ _ _ ?_ ?_); focus (first | omega | (simp; omega))) | ((with_reducible apply blk_set); focus (simp; done)) | ((with_reducible refine blk_off _ _ _ _ ?_ ?_); focus (simp; done)) | ((with_reducible refine blk_offc _ _ _ _ ?_ ?_); focus (first | (simp; done) | omega | (simp; omega))) | ((with_reducible refine blk_off _ _ _ _ ?_ ?_); focus (first | omega | (simp; omega))) | (with_reducible refine blk_drew _ _ ?_) | ((with_reducible refine blk_below (by assumption) ?_ ?_); focus (simp; done)) | ((with_reducible refine blk_below (by assumption) ?_ ?_); focus (first | omega | (simp; omega))))) (by rw [row_size]; kernel_rfl) (by simp [row_size]) (row_cells _ _ _ rfl) _ (row_over _ _ 12 _ _ (by simp)) ?_))
      refine bodyPost_ret (v := .tuple #[.agg (train 0 0 0 (fun _ => 0)), .int .i64 5]) ?_ ?_ ?_
      · refine results_row_tmp Tryz.results9 _ _ _ 28 (train 0 0 0 (fun _ => 0)) (0, 0) _ _ rfl rfl ?_ Tryz.underlying28 rfl (by simp only [row_size]; kernel_rfl)
        exact (by repeat (first | (with_reducible assumption) | ((with_reducible refine blk_new _ _ _ ?_); focus (simp; done)) | ((with_reducible refine blk_old _ _ _ ?_ ?_); focus (simp; done)) | ((with_reducible refine blk_old _ _ _ ?_ ?_); focus (first | omega | (simp; omega))) | ((with_reducible apply blk_set); focus (simp; done)) | ((with_reducible refine blk_off _ _ _ _ ?_ ?_); focus (simp; done)) | ((with_reducible refine blk_offc _ _ _ _ ?_ ?_); focus (first | (simp; done) | omega | (simp; omega))) | ((with_reducible refine blk_off _ _ _ _ ?_ ?_); focus (first | omega | (simp; omega))) | (with_reducible refine blk_drew _ _ ?_) | ((with_reducible refine blk_below (by assumption) ?_ ?_); focus (simp; done)) | ((with_reducible refine blk_below (by assumption) ?_ ?_); focus (first | omega | (simp; omega)))))
      · rfl
      · exact ⟨by (rw [HF.out.1, HF.out.2] <;> rfl), (by repeat (first | (with_reducible assumption) | (with_reducible exact Below.refl _ _) | ((with_reducible refine bel_alloc _ ?_ ?_); focus (first | omega | (simp; done) | (simp; omega))) | ((with_reducible refine bel_row _ ?_ ?_); focus (first | omega | (simp; done) | (simp; omega))) | ((with_reducible refine bel_cell _ ?_ ?_); focus (first | omega | (simp; done) | (simp; omega))) | (with_reducible refine Below.drew ?_) | (with_reducible refine below_wideW _ ?_) | ((with_reducible refine bel_next (by assumption) ?_ ?_); focus (first | omega | (simp; done) | (simp; omega)))))⟩
    | true =>
      have hIR := isRollers_any n false (by
        have : n < 2 ∨ 12 < n := by simpa using hno
        rw [Bool.and_eq_false_iff]
        rcases this with h | h
        · exact Or.inl (by simp; omega)
        · exact Or.inr (by simp; omega))
      clear hno
      go_wp2_with (first | (go_at_call 30; with_reducible refine (hIR _).mono ?_; rintro e w3 ⟨rfl, rfl⟩) | ((with_reducible refine at_store 28 ?_); refine wpList_store_part rfl 28 _ _ rfl _ 0 _ rfl rfl _ _ (by repeat (first | (with_reducible assumption) | ((with_reducible refine blk_new _ _ _ ?_); focus (simp; done)) | ((with_reducible refine blk_old _ _ _ ?_ ?_); focus (simp; done)) | ((with_reducible refine blk_old _ _ _ ?_ ?_); focus (first | omega | (simp; omega))) | ((with_reducible apply blk_set); focus (simp; done)) | ((with_reducible refine blk_off _ _ _ _ ?_ ?_); focus (simp; done)) | ((with_reducible refine blk_offc _ _ _ _ ?_ ?_); focus (first | (simp; done) | omega | (simp; omega))) | ((with_reducible refine blk_off _ _ _ _ ?_ ?_); focus (first | omega | (simp; omega))) | (with_reducible refine blk_drew _ _ ?_) | ((with_reducible refine blk_below (by assumption) ?_ ?_); focus (simp; done)) | ((with_reducible refine blk_below (by assumption) ?_ ?_); focus (first | omega | (simp; omega))))) (by rw [row_size]; kernel_rfl) (by simp [row_size]) (row_cells _ _ _ rfl) _ (row_over _ _ 12 _ _ (by simp)) ?_))
      refine bodyPost_ret (v := .tuple #[.agg (train 0 0 0 (fun _ => 0)), .int .i64 5]) ?_ ?_ ?_
      · refine results_row_tmp Tryz.results9 _ _ _ 28 (train 0 0 0 (fun _ => 0)) (0, 0) _ _ rfl rfl ?_ Tryz.underlying28 rfl (by simp only [row_size]; kernel_rfl)
        exact (by repeat (first | (with_reducible assumption) | ((with_reducible refine blk_new _ _ _ ?_); focus (simp; done)) | ((with_reducible refine blk_old _ _ _ ?_ ?_); focus (simp; done)) | ((with_reducible refine blk_old _ _ _ ?_ ?_); focus (first | omega | (simp; omega))) | ((with_reducible apply blk_set); focus (simp; done)) | ((with_reducible refine blk_off _ _ _ _ ?_ ?_); focus (simp; done)) | ((with_reducible refine blk_offc _ _ _ _ ?_ ?_); focus (first | (simp; done) | omega | (simp; omega))) | ((with_reducible refine blk_off _ _ _ _ ?_ ?_); focus (first | omega | (simp; omega))) | (with_reducible refine blk_drew _ _ ?_) | ((with_reducible refine blk_below (by assumption) ?_ ?_); focus (simp; done)) | ((with_reducible refine blk_below (by assumption) ?_ ?_); focus (first | omega | (simp; omega)))))
      · rfl
      · exact ⟨by (rw [HF.out.1, HF.out.2] <;> rfl), (by repeat (first | (with_reducible assumption) | (with_reducible exact Below.refl _ _) | ((with_reducible refine bel_alloc _ ?_ ?_); focus (first | omega | (simp; done) | (simp; omega))) | ((with_reducible refine bel_row _ ?_ ?_); focus (first | omega | (simp; done) | (simp; omega))) | ((with_reducible refine bel_cell _ ?_ ?_); focus (first | omega | (simp; done) | (simp; omega))) | (with_reducible refine Below.drew ?_) | (with_reducible refine below_wideW _ ?_) | ((with_reducible refine bel_next (by assumption) ?_ ?_); focus (first | omega | (simp; done) | (simp; omega)))))⟩
end Go.Proofs.YtkokekndiammpaaGreatDoor

/-! The wrap of a row with listed variables, the world's shape kept; the searcher's longest needle is some number. -/
namespace Go.Proofs.YtkokekndiammpaaGreatDoor
open Go.ChangeShapes Go.WideShapes Go.ChangeAt Go.RowKit

theorem laidKit_shaped {H : Type} {enc : TypeId × Value → H} {a : Assume} {C : Checked} {os : Os} {f : FuncId} {fn : Func} {s : ChangeSpec} {conds : List PathCond} {apart fresh handsOn again : Bool} {X : World → Array Value → Prop}
    (hX : ∀ (w w' : World) (args : Array Value), w.heap = w'.heap → X w args → X w' args)
    (own : ownKnob C.prog.godebug = none) (started : os.Started) (noInit : C.prog.inits.idxOf? f = none) (hfn : C.prog.funcs[f]? = some fn)
    (witness : ∃ (w : World) (tape : Tape) (i : Input), w.os = os ∧ (w.forCall tape i).Shaped C.prog ∧ i.vars = [] ∧ Input.okWide C.prog (w.forCall tape i) .any w.heap.size f i ∧
      ((s.pre enc C.prog fn conds apart (w.forCall tape i).memory i.args ∧ X (w.forCall tape i).memory i.args) ∧ sizedMet enc C.prog fn (OpenSpec.ofChange s) apart (w.forCall tape i).memory i.args) ∧ a.holds C.prog (lone (Frame.enter C.prog f i.args .normal) [] (w.forCall tape i)))
    (contract : ∀ (W : World) (base : Nat) (args : Array Value) (ds gs : List (DataW H)) (before : List MemPlace),
      (∀ (j : Nat) t v, fn.params[j]? = some t → args[j]? = some v → Value.okWide C.prog W .any base t v) →
      DataW.Whole enc C.prog fn.params.toList s.vars apart W args.toList ds gs before →
      conds.all (PathCond.test C.prog ⟨fn.params.toList, ds, s.plain.varTypes C.prog, gs⟩) = true →
      (DataW.weightsEach C.prog (fn.params.toList ++ s.plain.varTypes C.prog) (ds ++ gs)).all (· ≤ reachBytes) = true → X W args → W.ShapedOpen C.prog →
      Calls C.prog f args W fun e W' => ∃ v, e = .returned v ∧ s.post enc C.prog fn apart fresh handsOn again W args v W') :
    ReturnsInHanded a C os f .any (fun w args => (s.pre enc C.prog fn conds apart w args ∧ X w args) ∧ sizedMet enc C.prog fn (OpenSpec.ofChange s) apart w args) (s.post enc C.prog fn apart fresh handsOn again) := by
  refine returnsInHanded_of_calls own started noInit witness ?_
  intro w tape i _ hsh _ hok hpre _
  obtain ⟨_, _, _, fn', hfn', _, _, _, _, hval⟩ := hok
  have e : fn' = fn := Option.some.inj (hfn'.symm.trans hfn)
  subst e
  obtain ⟨⟨⟨ds, gs, before, hw, hc⟩, hx⟩, hz⟩ := hpre
  have hw' := DataW.Whole.of_heap (w' := w.forCall tape i) (by rfl) hw
  refine (contract (w.forCall tape i) w.heap.size i.args ds gs before hval hw' hc (hz.weights hw) (hX _ _ _ (by rfl) hx) hsh).mono fun e W' ⟨v, he, hp⟩ => ?_
  subst he
  exact ChangeSpec.post_blind hp
theorem maxlen_cell {W : World} (h : W.ShapedOpen Tryz.prog) : ∃ m, W.cell? ⟨1, 0, none⟩ = some (.int .i64 m) :=
  cell_of_shapedOpen_int (t := 3) (zero := #[.int .i64 0]) h (of_decide_eq_true (by kernel_rfl)) (by kernel_rfl) rfl (by kernel_rfl) (by kernel_rfl) Tryz.underlying3
end Go.Proofs.YtkokekndiammpaaGreatDoor
