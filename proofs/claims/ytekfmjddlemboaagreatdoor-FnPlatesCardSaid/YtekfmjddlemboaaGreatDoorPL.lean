/- Parts of a proof, merged; each under its own premises. -/
import Derived.Test.YtekfmjddlemboaaGreatDoorPK
import Derived.Lib.Split
import Derived.Lib.CountLaws
import Derived.Lib.CutLaws
import Derived.Lib.SplitLaws
import Derived.Lib.ParseIntB
import Derived.Lib.ParseIntBTie
import Derived.Lib.SmallJoins
import Derived.Test.YtekfmjddlemboaaGreatDoorPA
import Derived.Test.YtekfmjddlemboaaGreatDoorPI
import Derived.Laws.CopyRow
import Derived.OpenShut
import Derived.Deep.Strs
import Derived.HandedShaped
import Derived.Shelf.Vars
import Derived.Test.YtekfmjddlemboaaGreatDoorPB

/-! Texts that are cut at a byte, small decimals, lists of numbers; plain. -/
set_option linter.unusedVariables false
set_option linter.unusedSimpArgs false
namespace Go.Proofs.YtekfmjddlemboaaGreatDoor
open Go.RowKit Go.Lib

/-- The pieces between the bytes c. -/
def splitL (c : UInt8) : List UInt8 → List (List UInt8)
  | [] => [[]]
  | b :: l => if b = c then [] :: splitL c l else match splitL c l with
    | h :: t => (b :: h) :: t
    | [] => [[b]]
theorem splitL_ne (c : UInt8) : ∀ l, splitL c l ≠ []
  | [] => by simp [splitL]
  | b :: l => by
    unfold splitL
    split
    · simp
    · cases h : splitL c l with
      | nil => simp
      | cons x y => simp
theorem splitL_miss {c : UInt8} : ∀ {l : List UInt8}, c ∉ l → splitL c l = [l]
  | [], _ => rfl
  | b :: l, h => by
    have hb : ¬ b = c := fun e => h (by simp [e])
    have hl : c ∉ l := fun e => h (by simp [e])
    unfold splitL
    rw [if_neg hb, splitL_miss hl]
theorem splitL_hit {c : UInt8} : ∀ {p : List UInt8} (r : List UInt8), c ∉ p → splitL c (p ++ c :: r) = p :: splitL c r
  | [], r, _ => by
    show (if c = c then [] :: splitL c r else match splitL c r with | h :: t => (c :: h) :: t | [] => [[c]]) = _
    rw [if_pos rfl]
  | b :: p, r, h => by
    have hb : ¬ b = c := fun e => h (by simp [e])
    have hl : c ∉ p := fun e => h (by simp [e])
    show splitL c (b :: (p ++ c :: r)) = _
    rw [show splitL c (b :: (p ++ c :: r)) = if b = c then [] :: splitL c (p ++ c :: r) else match splitL c (p ++ c :: r) with | h :: t => (b :: h) :: t | [] => [[b]] from rfl, if_neg hb, splitL_hit r hl]
theorem index_miss {c : UInt8} : ∀ {l : List UInt8}, Lib.index l [c] = -1 → c ∉ l
  | [], _ => by simp
  | b :: l, h => by
    unfold Lib.index at h
    have hp : [c].isPrefixOf (b :: l) = (c == b) := by simp [List.isPrefixOf]
    rw [hp] at h
    split at h
    · omega
    · rename_i hb
      split at h
      · rename_i hi
        have := index_miss (by simpa using hi : Lib.index l [c] = -1)
        simp only [List.mem_cons, not_or]
        exact ⟨fun e => hb (by simp [e]), this⟩
      · have := Lib.index_ge l [c]
        omega
theorem index_hit {c : UInt8} : ∀ {l : List UInt8} {i : Nat}, Lib.index l [c] = i → l = l.take i ++ c :: l.drop (i + 1) ∧ c ∉ l.take i
  | [], i, h => by
    unfold Lib.index at h
    simp at h
  | b :: l, i, h => by
    unfold Lib.index at h
    have hp : [c].isPrefixOf (b :: l) = (c == b) := by simp [List.isPrefixOf]
    rw [hp] at h
    split at h
    · rename_i hb
      have hb' : c = b := by simpa using hb
      obtain rfl : i = 0 := by omega
      subst hb'
      simp
    · rename_i hb
      split at h
      · omega
      · rename_i hi
        have hne : Lib.index l [c] ≠ -1 := by simpa using hi
        have hge := Lib.index_ge l [c]
        obtain ⟨j, rfl⟩ : ∃ j, i = j + 1 := ⟨i - 1, by omega⟩
        obtain ⟨h1, h2⟩ := index_hit (c := c) (l := l) (i := j) (by omega)
        refine ⟨by simp only [List.take_succ_cons, List.drop_succ_cons, List.cons_append]; rw [← h1], ?_⟩
        simp only [List.take_succ_cons, List.mem_cons, not_or]
        exact ⟨fun e => hb (by simp [e]), h2⟩
/-- The kit's pieces are these. -/
theorem splitB_eq (c : UInt8) : ∀ (k : Nat) (s : ByteArray), Lib.countB s ⟨#[c]⟩ = k → (Lib.splitB ⟨#[c]⟩ 0 k s).map (·.data.toList) = splitL c s.data.toList := by
  intro k
  induction k with
  | zero =>
    intro s h
    rcases Lib.indexB_cases s ⟨#[c]⟩ with hm | ⟨i, hi, _⟩
    · rw [Lib.splitB_zero, splitL_miss (index_miss hm)]
      rfl
    · have := Lib.countB_hit s ⟨#[c]⟩ i (Nat.le_refl 1) hi
      omega
  | succ k ih =>
    intro s h
    rcases Lib.indexB_cases s ⟨#[c]⟩ with hm | ⟨i, hi, hroom⟩
    · have := Lib.countB_miss s ⟨#[c]⟩ hm
      omega
    · have h1 := Lib.countB_hit s ⟨#[c]⟩ i (Nat.le_refl 1) hi
      rw [Lib.splitB_hit _ _ _ _ _ hi, List.map_cons, ih _ (by omega)]
      obtain ⟨e1, e2⟩ := index_hit (l := s.data.toList) (i := i) hi
      rw [Lib.extract_data, Lib.extract_data]
      conv => rhs; rw [e1]
      rw [splitL_hit _ e2]
      have e3 : (⟨#[c]⟩ : ByteArray).size = 1 := rfl
      rw [e3]
      have e4 : List.take (s.size - (i + 1)) (List.drop (i + 1) s.data.toList) = List.drop (i + 1) s.data.toList :=
        List.take_of_length_le (by rw [List.length_drop, ← Lib.size_eq]; exact Nat.le_refl _)
      rw [e4]
      simp
/-- The pieces as strings. -/
def splitW (c : UInt8) (l : List UInt8) : List ByteArray := (splitL c l).map fun x => ⟨x.toArray⟩
theorem splitB_all' (c : UInt8) (s : ByteArray) : Lib.splitB ⟨#[c]⟩ 0 (Lib.countB s ⟨#[c]⟩) s = splitW c s.data.toList := by
  unfold splitW
  rw [← splitB_eq c _ s rfl, List.map_map]
  conv => lhs; rw [← List.map_id (Lib.splitB ⟨#[c]⟩ 0 (Lib.countB s ⟨#[c]⟩) s)]
  apply List.map_congr_left
  intro x _
  apply ByteArray.ext
  simp
theorem splitL_lt (c : UInt8) : ∀ l : List UInt8, (splitL c l).length ≤ l.length + 1
  | [] => by simp [splitL]
  | b :: l => by
    have ih := splitL_lt c l
    unfold splitL
    split
    · simp; omega
    · cases h : splitL c l with
      | nil => simp
      | cons x y => rw [h] at ih; simp at ih ⊢; omega

/-- The numbers of texts. -/
def readAll : List (List UInt8) → Option (List Nat)
  | [] => some []
  | x :: l => (readOf x).bind fun a => (readAll l).bind fun r => some (a :: r)
theorem readAll_snoc : ∀ (l : List (List UInt8)) (x : List UInt8), readAll (l ++ [x]) = (readAll l).bind fun r => (readOf x).bind fun a => some (r ++ [a])
  | [], x => by
    show ((readOf x).bind fun a => (readAll []).bind fun r => some (a :: r)) = _
    cases readOf x <;> rfl
  | y :: l, x => by
    show ((readOf y).bind fun a => (readAll (l ++ [x])).bind fun r => some (a :: r)) = ((readOf y).bind fun a => (readAll l).bind fun r => some (a :: r)).bind _
    rw [readAll_snoc l x]
    cases readOf y with
    | none => rfl
    | some a =>
      cases readAll l with
      | none => rfl
      | some r => cases readOf x <;> rfl
theorem first_split {c : UInt8} : ∀ {l : List UInt8}, c ∈ l → ∃ p r, l = p ++ c :: r ∧ c ∉ p
  | [], h => absurd h (by simp)
  | b :: l, h => by
    by_cases e : b = c
    · subst e; exact ⟨[], l, rfl, by simp⟩
    · have h' : c ∈ l := by
        rcases List.mem_cons.1 h with h | h
        · exact absurd h.symm e
        · exact h
      obtain ⟨p, r, h1, h2⟩ := first_split h'
      exact ⟨b :: p, r, by rw [h1]; rfl, by simp only [List.mem_cons, not_or]; exact ⟨fun e2 => e e2.symm, h2⟩⟩
/-- Texts of numbers are eight bytes long. -/
theorem readAll_sum : ∀ {l : List UInt8} {r : List Nat}, readAll (splitL 32 l) = some r → l.length + 1 = 9 * r.length := by
  suffices h : ∀ (n : Nat) (l : List UInt8) (r : List Nat), l.length ≤ n → readAll (splitL 32 l) = some r → l.length + 1 = 9 * r.length from fun {l r} => h l.length l r (Nat.le_refl _)
  intro n
  induction n with
  | zero =>
    intro l r hl h
    obtain rfl : l = [] := List.eq_nil_of_length_eq_zero (by omega)
    have : readOf [] = none := readOf_len (by simp)
    simp [splitL, readAll, this] at h
  | succ n ih =>
    intro l r hl h
    by_cases hc : (32 : UInt8) ∈ l
    · obtain ⟨p, q, e, hp⟩ := first_split hc
      rw [e, splitL_hit q hp] at h
      unfold readAll at h
      cases h1 : readOf p with
      | none => rw [h1] at h; simp at h
      | some a =>
        rw [h1] at h
        have hl8 : p.length = 8 := Classical.byContradiction fun e => by rw [readOf_len e] at h1; exact absurd h1 (by simp)
        cases h2 : readAll (splitL 32 q) with
        | none => rw [h2] at h; simp at h
        | some r' =>
          rw [h2] at h
          have hq : q.length ≤ n := by
            have := congrArg List.length e
            simp at this
            omega
          have := ih q r' hq h2
          simp at h
          rw [← h, e]
          simp
          omega
    · rw [splitL_miss hc] at h
      unfold readAll at h
      cases h1 : readOf l with
      | none => rw [h1] at h; simp at h
      | some a =>
        rw [h1] at h
        simp [readAll] at h
        have hl8 : l.length = 8 := Classical.byContradiction fun e => by rw [readOf_len e] at h1; exact absurd h1 (by simp)
        rw [← h]; simp; omega
end Go.Proofs.YtekfmjddlemboaaGreatDoor

/-! Texts that are cut at a byte: the program's and the reference's. -/
set_option linter.unusedVariables false
set_option linter.unusedSimpArgs false
namespace Go.Proofs.YtekfmjddlemboaaGreatDoor
open Go.RowKit Go.Lib

/-- A slice of strings that a call has made. -/
def Words (w : World) (base : Nat) (v : Value) (W : List ByteArray) : Prop := ∃ g cap cs, v = .slice (some ⟨g, 0, none⟩) W.length cap ∧ base ≤ g ∧ w.heap[g]? = some (.cells cs 9 (0, 0)) ∧ ∀ (j : Nat) x, W[j]? = some x → cs[j]? = some (.string x)
theorem ownS_off {w : World} {base n g : Nat} {e t : TypeId} {v : Value} {xs : List Value} {cs : Array Value} {fr : Nat × Nat} (h : w.ownsRow base e 1 v n xs) (hg : w.heap[g]? = some (.cells cs t fr)) (hne : t ≠ e) : v.ownBlock ≠ some g := by
  intro hv
  rcases h.2 with ⟨rfl, _⟩ | ⟨g', cap, cur, rfl, hb, hh, _⟩
  · simp [Value.ownBlock] at hv
  · simp only [Value.ownBlock, Option.some.injEq] at hv
    subst hv
    rw [hg] at hh
    simp only [Option.some.injEq, Obj.cells.injEq] at hh
    exact hne hh.2.1
theorem ownS_keep {w w1 : World} {o : Obj} {v : Value} {g : Nat} {r : Obj} (hg : (w.alloc o).grownBy w1 v.ownBlock) (h : w.heap[g]? = some r) (hne : v.ownBlock ≠ some g) : w1.heap[g]? = some r := by
  have hlt : g < w.heap.size := by
    cases hlt : decide (g < w.heap.size)
    · simp only [decide_eq_false_iff_not] at hlt
      rw [Array.getElem?_eq_none (by omega)] at h; cases h
    · simpa using hlt
  rw [hg.block g (by simp; omega) (fun e => hne e.symm), Below.heap_alloc w o g hlt]
  exact h
/-- strings.Split at a byte. -/
theorem implSplit (t : ByteArray) (c : UInt8) (hmax : t.size ≤ 1048576) (w : World) (m : Int) (hm : w.cell? ⟨1, 0, none⟩ = some (.int .i64 m)) :
    Calls Tryz.prog 35 #[.string t, .string ⟨#[c]⟩] w fun e w' => (∃ v, e = .returned v ∧ Words w' w.heap.size v (splitW c t.data.toList)) ∧ Below w.heap.size w w' := by
  have h := Tryz.strings_Split t ⟨#[c]⟩ m w (by omega) hm (Nat.le_refl 1)
  refine h.mono fun e w' ⟨he, hw⟩ => ?_
  have hl : Lib.countB t ⟨#[c]⟩ + 1 = (splitW c t.data.toList).length := by
    rw [← splitB_all' c t, Lib.splitB_all ⟨#[c]⟩ (Nat.le_refl 1) 0 _ t rfl]
  rw [splitB_all' c t] at hw
  rw [hl] at he
  subst hw
  refine ⟨⟨_, he, w.heap.size, _, _, rfl, Nat.le_refl _, heap_alloc_new w _, fun j x hx => ?_⟩, Below.alloc (Below.refl _ _) (Nat.le_refl _) _⟩
  simp [hx]

end Go.Proofs.YtekfmjddlemboaaGreatDoor

/-! Numbers of a few digits: the reference's and the program's readers. -/
set_option linter.unusedVariables false
set_option linter.unusedSimpArgs false
namespace Go.Proofs.YtekfmjddlemboaaGreatDoor
open Go.RowKit Go.Lib

/-- The value of digits behind a value already read. -/
def valD : Nat → List UInt8 → Option Nat
  | a, [] => some a
  | a, c :: l => if 48 ≤ c.toNat ∧ c.toNat ≤ 57 then valD (a * 10 + (c.toNat - 48)) l else none
/-- The number of one to nine digits with a text. -/
def numOf (l : List UInt8) : Option Nat := if l.length < 1 ∨ 9 < l.length ∨ (l.getD 0 0 = 48 ∧ 1 < l.length) then none else valD 0 l
theorem valD_ge : ∀ (l : List UInt8) (a v : Nat), valD a l = some v → a * 10 ^ l.length ≤ v
  | [], a, v, h => by simp [valD] at h; simp [h]
  | c :: l, a, v, h => by
    unfold valD at h
    split at h
    · have := valD_ge l _ v h
      have h2 : a * 10 ^ (c :: l).length = a * 10 * 10 ^ l.length := by
        rw [List.length_cons, Nat.pow_succ, Nat.mul_assoc, Nat.mul_comm 10]
      rw [h2]
      exact Nat.le_trans (Nat.mul_le_mul_right _ (by omega)) this
    · exact absurd h (by simp)
theorem numOf_dec : ∀ n, n < 13 → numOf (Lib.decDigits n) = some n := by
  intro n hn
  by_cases h : n < 10
  · rw [dec_small h]
    have : ∀ n, n < 10 → numOf [UInt8.ofNat (48 + n)] = some n := by decide
    exact this n h
  · rw [dec_two (by omega) (by omega)]
    have : ∀ n, n < 13 → 10 ≤ n → numOf [UInt8.ofNat (48 + n / 10), UInt8.ofNat (48 + n % 10)] = some n := by decide
    exact this n hn (by omega)
theorem byte_of {c : UInt8} {k : Nat} (h : c.toNat = k) : c = UInt8.ofNat k := by rw [← h]; simp
theorem numOf_small {l : List UInt8} {n : Nat} (h : numOf l = some n) (hn : n < 13) : l = Lib.decDigits n := by
  unfold numOf at h
  split at h
  · exact absurd h (by simp)
  · rename_i hc
    simp only [not_or, not_and] at hc
    obtain ⟨h1, h2, h3⟩ := hc
    match l, h1, h2, h3, h with
    | [], h1, _, _, _ => exact absurd h1 (by simp)
    | [c], _, _, _, h =>
      unfold valD at h
      split at h
      · rename_i hd
        simp [valD] at h
        rw [dec_small (by omega)]
        congr 1
        exact byte_of (by omega)
      · exact absurd h (by simp)
    | [c, d], _, _, h3, h =>
      have hc48 : c.toNat ≠ 48 := fun e => h3 (by simpa using byte_of e) (by simp)
      unfold valD at h
      split at h
      · rename_i hd
        unfold valD at h
        split at h
        · rename_i he
          simp [valD] at h
          rw [dec_two (by omega) (by omega)]
          congr 1
          · exact byte_of (by omega)
          · congr 1
            exact byte_of (by omega)
        · exact absurd h (by simp)
      · exact absurd h (by simp)
    | c :: d :: e :: r, _, _, h3, h =>
      have hc48 : c.toNat ≠ 48 := fun e => h3 (by simpa using byte_of e) (by simp)
      unfold valD at h
      split at h
      · rename_i hd
        have hge := valD_ge _ _ _ h
        have : 1 * 10 ^ (d :: e :: r).length ≤ (0 * 10 + (c.toNat - 48)) * 10 ^ (d :: e :: r).length := Nat.mul_le_mul_right _ (by omega)
        have h100 : 10 ^ 2 ≤ 10 ^ (d :: e :: r).length := Nat.pow_le_pow_right (by omega) (by simp)
        omega
      · exact absurd h (by simp)
theorem parse_dec : ∀ n, n < 13 → Lib.parseIntB 8 (Lib.decDigits n) = .ok (n : Int) := by
  intro n hn
  by_cases h : n < 10
  · rw [dec_small h]
    have : ∀ n, n < 10 → Lib.parseIntB 8 [UInt8.ofNat (48 + n)] = .ok (n : Int) := by decide
    exact this n h
  · rw [dec_two (by omega) (by omega)]
    have : ∀ n, n < 13 → 10 ≤ n → Lib.parseIntB 8 [UInt8.ofNat (48 + n / 10), UInt8.ofNat (48 + n % 10)] = .ok (n : Int) := by decide
    exact this n hn (by omega)

end Go.Proofs.YtekfmjddlemboaaGreatDoor

/-! Numbers of a few digits: the program's reader. -/
set_option linter.unusedVariables false
set_option linter.unusedSimpArgs false
namespace Go.Proofs.YtekfmjddlemboaaGreatDoor
open Go.RowKit Go.Lib

theorem below_growS (w : World) (k : Nat) (os : Array Obj) : Below w.heap.size w (Go.Sort.grow (w.drewN k) os) := by
  refine ⟨rfl, rfl, rfl, ?_, fun i hi => ?_⟩
  · show w.heap.size ≤ (w.heap ++ os).size
    simp
  · show (w.heap ++ os)[i]? = _
    rw [Array.getElem?_append_left hi]
/-- strconv.FormatInt at base 10. -/
theorem fmtInt (v : Int) (h0 : -9223372036854775808 ≤ v) (h1 : v ≤ 9223372036854775807) (w : World) (htab : Lib.TabIs Tryz.prog w "internal/strconv.uint64pow10" .u64 Lib.pow10Tab) :
    Calls Tryz.prog 72 #[.int .i64 v, .int .i64 10] w fun e w' => e = .returned (.string ⟨(Lib.itoa v).toArray⟩) ∧ Below w.heap.size w w' :=
  (Tryz.strconv_FormatInt_10 v h0 h1 w htab).mono fun e w' ⟨h, k, os, hw⟩ => ⟨h, by rw [hw]; exact below_growS w k os⟩

/-- strconv.ParseInt at base 10 and 8 bits. -/
theorem parseInt8 (t : ByteArray) (hmax : t.size ≤ 1048576) (w : World) (hL : Libs w) :
    Calls Tryz.prog 71 #[.string t, .int .i64 10, .int .i64 8] w fun e w' => (∃ v, e = .returned v ∧ ((∃ n : Int, Lib.parseIntB 8 t.data.toList = .ok n ∧ v = .tuple #[.int .i64 n, .nilIface]) ∨ ((∀ n : Int, Lib.parseIntB 8 t.data.toList ≠ .ok n) ∧ ∃ (x : Int) (T : TypeId) (p : Value), v = .tuple #[.int .i64 x, .iface T p]))) ∧ Below w.heap.size w w' := by
  rcases h : Lib.parseIntB 8 t.data.toList with n | _ | _
  · refine (Tryz.strconv_ParseInt_10_at8_ok t (by omega) n h w).mono fun e w' ⟨he, hw⟩ => ⟨⟨_, he, Or.inl ⟨n, rfl, rfl⟩⟩, ?_⟩
    rcases hw with rfl | ⟨t', rfl⟩
    · exact Below.refl _ _
    · exact Lib.bytesWorld_below _ _ _
  · obtain ⟨tp, p, hev⟩ := hL.es
    refine (Any.strconv_ParseInt_10_at8_syntax Tryz.laysC174 t (by omega) h (.iface tp p) w hev (Or.inr ⟨tp, p, rfl⟩)).mono fun e w' ⟨N, he, _, _, hb⟩ => ⟨⟨_, he, Or.inr ⟨fun n hn => by simp at hn, _, _, _, rfl⟩⟩, hb⟩
  · obtain ⟨tp, p, hev⟩ := hL.er
    refine (Tryz.strconv_ParseInt_10_at8_range t (by omega) h (.iface tp p) w hev (Or.inr ⟨tp, p, rfl⟩)).mono fun e w' ⟨N, he, _, _, hb⟩ => ⟨⟨_, he, Or.inr ⟨fun n hn => by simp at hn, _, _, _, rfl⟩⟩, hb⟩

/-- What digit hands back. -/
def DigEnd (l : List UInt8) (v : Value) : Prop := ∃ (n : Int) (ok : Bool), v = .tuple #[.int .i64 n, .bool ok] ∧ (ok = true → l = Lib.itoa n) ∧ ∀ m, m < 13 → l = Lib.decDigits m → ok = true ∧ n = m

set_option maxHeartbeats 1000000 in
set_option maxRecDepth 100000 in
theorem implDigit (t : ByteArray) (hmax : t.size ≤ 1048576) (w : World) (hL : Libs w) (htab : Lib.TabIs Tryz.prog w "internal/strconv.uint64pow10" .u64 Lib.pow10Tab) :
    Calls Tryz.prog 37 #[.string t] w fun e w' => (∃ v, e = .returned v ∧ DigEnd t.data.toList v) ∧ Below w.heap.size w w' := by
  have hP := parseInt8 t hmax w hL
  by_cases hx : ∃ n : Int, Lib.parseIntB 8 t.data.toList = .ok n
  · obtain ⟨n, hn⟩ := hx
    have hP' : Calls Tryz.prog 71 #[.string t, .int .i64 10, .int .i64 8] w fun e w' => e = .returned (.tuple #[.int .i64 n, .nilIface]) ∧ Below w.heap.size w w' := hP.mono fun e w' ⟨⟨v, h1, h2⟩, h3⟩ => ⟨by
      rcases h2 with ⟨m, hm, rfl⟩ | ⟨h4, _⟩
      · rw [hn] at hm
        injection hm with hm
        rw [h1, hm]
      · exact absurd hn (h4 n), h3⟩
    have hbd := Lib.parseIntB_bounds hn
    have b1 : -9223372036854775808 ≤ n := by have := hbd.1; simp at this; omega
    have b2 : n ≤ 9223372036854775807 := by have := hbd.2; simp at this; omega
    obtain ⟨S, hS⟩ : ∃ S : ByteArray, S = ⟨(Lib.itoa n).toArray⟩ := ⟨_, rfl⟩
    have hF : ∀ w1, Below w.heap.size w w1 → Calls Tryz.prog 72 #[.int .i64 n, .int .i64 10] w1 fun e w' => e = .returned (.string S) ∧ Below w1.heap.size w1 w' := fun w1 hb => by
      rw [hS]
      exact fmtInt n b1 b2 w1 (Go.Joins.tab_stays (g := 4) (by kernel_rfl) htab hb (Nat.le_refl _))
    by_cases hq : S = t
    · have HR : Hid (DigEnd t.data.toList (.tuple #[.int .i64 n, .bool true])) := Lib.hid ⟨n, true, rfl, fun _ => by rw [← hq, hS], fun m hm hl => ⟨rfl, by
        have h1 := parse_dec m hm
        rw [← hl, hn] at h1
        injection h1⟩⟩
      subst hq
      clear hP hn hbd b1 b2 hS htab hL
      go_enter Tryz.func37, Tryz.ntmps37
      go_wp2_with (first
        | (go_at_call 71; with_reducible refine hP'.mono ?_; rintro e w1 ⟨rfl, hb1⟩)
        | (go_at_call 72; with_reducible refine (hF _ hb1).mono ?_; rintro e w2 ⟨rfl, hb2⟩))
      go_ret2
      exact ⟨⟨_, rfl, by simpa using HR.out⟩, hb1.trans (hb2.mono hb1.size)⟩
    · have HR : Hid (DigEnd t.data.toList (.tuple #[.int .i64 n, .bool false])) := Lib.hid ⟨n, false, rfl, fun h => by simp at h, fun m hm hl => by
        exfalso
        have h1 := parse_dec m hm
        rw [← hl, hn] at h1
        injection h1 with h1
        subst h1
        apply hq
        rw [hS]
        apply ByteArray.ext
        apply Array.toList_inj.1
        rw [hl]
        simp [Lib.itoa]⟩
      have hq' := strNe hq
      have HQ := Lib.hid hq'
      clear hP hn hbd b1 b2 hS htab hL hq'
      go_enter Tryz.func37, Tryz.ntmps37
      go_wp2_with (first
        | (go_at_call 71; with_reducible refine hP'.mono ?_; rintro e w1 ⟨rfl, hb1⟩)
        | (go_at_call 72; with_reducible refine (hF _ hb1).mono ?_; rintro e w2 ⟨rfl, hb2⟩))
      go_ret2
      exact ⟨⟨_, rfl, by
        have h := HR.out
        rw [← HQ.out] at h
        exact h⟩, hb1.trans (hb2.mono hb1.size)⟩
  · have hP' : Calls Tryz.prog 71 #[.string t, .int .i64 10, .int .i64 8] w fun e w' => (∃ (x : Int) (T : TypeId) (p : Value), e = .returned (.tuple #[.int .i64 x, .iface T p])) ∧ Below w.heap.size w w' := hP.mono fun e w' ⟨⟨v, h1, h2⟩, h3⟩ => ⟨by
      rcases h2 with ⟨m, hm, rfl⟩ | ⟨h4, x, T, p, rfl⟩
      · exact absurd ⟨m, hm⟩ hx
      · exact ⟨x, T, p, h1⟩, h3⟩
    have HR : ∀ x : Int, DigEnd t.data.toList (.tuple #[.int .i64 x, .bool false]) := fun x => ⟨x, false, rfl, fun h => by simp at h, fun m hm hl => by
      exfalso
      exact hx ⟨m, by rw [hl]; exact parse_dec m hm⟩⟩
    have HRR := Lib.hid HR
    clear hP hx htab hL HR
    go_enter Tryz.func37, Tryz.ntmps37
    go_wp2_with (go_at_call 71; with_reducible refine hP'.mono ?_; rintro e w1 ⟨⟨x, T, p, rfl⟩, hb1⟩)
    go_ret2
    exact ⟨⟨_, rfl, HRR.out x⟩, hb1⟩
end Go.Proofs.YtekfmjddlemboaaGreatDoor

/-! Lists of numbers: the program's reader. -/
set_option linter.unusedVariables false
set_option linter.unusedSimpArgs false
namespace Go.Proofs.YtekfmjddlemboaaGreatDoor
open Go.RowKit Go.Lib

/-- So many numbers with blanks between them. -/
def numsOf (l : List UInt8) (many : Nat) : Option (List Nat) := (readAll (splitL 32 l)).bind fun G => if G.length = many then some G else none
theorem numsOf_len {l : List UInt8} {many : Nat} {G : List Nat} (h : numsOf l many = some G) : l.length + 1 = 9 * many ∧ G.length = many ∧ readAll (splitL 32 l) = some G := by
  unfold numsOf at h
  cases h1 : readAll (splitL 32 l) with
  | none => rw [h1] at h; simp at h
  | some R =>
    rw [h1] at h
    simp only [Option.bind] at h
    split at h
    · rename_i hl
      injection h with h
      subst h
      exact ⟨by rw [readAll_sum h1, hl], hl, rfl⟩
    · exact absurd h (by simp)
/-- What readNumbers hands back. -/
def NumsEnd (w : World) (base : Nat) (o : Option (List Nat)) (many : Nat) (v : Value) : Prop :=
  match o with
  | some G => ∃ sl, v = .tuple #[sl, .bool true] ∧ w.ownsRow base 25 1 sl many (G.map (Value.float .f32))
  | none => ∃ sl, v = .tuple #[sl, .bool false]
theorem numsEnd_none {w : World} {base many : Nat} {o : Option (List Nat)} {v : Value} (ho : o = none) (h : ∃ sl, v = .tuple #[sl, .bool false]) : NumsEnd w base o many v := by
  subst ho; exact h
theorem numsEnd_some {w : World} {base many : Nat} {o : Option (List Nat)} {v : Value} {G : List Nat} (ho : o = some G) (h : ∃ sl, v = .tuple #[sl, .bool true] ∧ w.ownsRow base 25 1 sl many (G.map (Value.float .f32))) : NumsEnd w base o many v := by
  subst ho; exact h
theorem Tryz.info_fl : (Tryz.prog.info? 25).map (fun i => (i.zero, i.size, i.bytes)) = some (some (.float .f32 0), 1, 4) := by kernel_rfl
theorem readAll_take {l : List (List UInt8)} {k : Nat} {G : List Nat} {x : List UInt8} (h : readAll (l.take k) = some G) (hx : l[k]? = some x) : readAll (l.take (k + 1)) = (readOf x).bind fun a => some (G ++ [a]) := by
  rw [List.take_add_one, hx]
  show readAll (l.take k ++ [x]) = _
  rw [readAll_snoc, h]
  rfl
theorem readAll_none {l : List (List UInt8)} {k : Nat} {x : List UInt8} (hx : l[k]? = some x) (h : readOf x = none) : readAll l = none := by
  induction l generalizing k with
  | nil => simp at hx
  | cons y l ih =>
    unfold readAll
    cases k with
    | zero =>
      simp at hx
      subst hx
      rw [h]; rfl
    | succ k =>
      rw [ih (by simpa using hx)]
      cases readOf y <;> rfl

theorem splitL_sub {c : UInt8} : ∀ {l x : List UInt8}, x ∈ splitL c l → x.length ≤ l.length
  | [], x, h => by simp [splitL] at h; simp [h]
  | b :: l, x, h => by
    unfold splitL at h
    split at h
    · rcases List.mem_cons.1 h with rfl | h
      · simp
      · have := splitL_sub h
        simp; omega
    · cases hs : splitL c l with
      | nil => exact absurd hs (splitL_ne c l)
      | cons y r =>
        rw [hs] at h
        have ih := fun z (hz : z ∈ splitL c l) => splitL_sub hz
        rw [hs] at ih
        rcases List.mem_cons.1 h with rfl | h
        · have := ih y (by simp)
          simp; omega
        · have := ih x (by simp [h])
          simp; omega
theorem ownS_form {w : World} {base n : Nat} {e : TypeId} {v : Value} {xs : List Value} (h : w.ownsRow base e 1 v n xs) : ∃ ao cap, v = .slice ao n cap := by
  rcases h.2 with ⟨h2, h3⟩ | ⟨g, cap, cur, hv, _⟩
  · subst h3; exact ⟨none, 0, h2⟩
  · exact ⟨_, cap, hv⟩

set_option maxHeartbeats 2000000 in
set_option maxRecDepth 100000 in
theorem readNumbers_any (t : ByteArray) (hmax : t.size ≤ 1048576) (many : Nat) (hm1 : 1 ≤ many) (hm2 : many ≤ 14) (w : World) (hL : Libs w) (m : Int) (hml : w.cell? ⟨1, 0, none⟩ = some (.int .i64 m)) :
    Calls Tryz.prog 39 #[.string t, .int .i64 many] w fun e w' => (∃ v, e = .returned v ∧ NumsEnd w' w.heap.size (numsOf t.data.toList many) many v) ∧ Below w.heap.size w w' := by
  have hlen : t.data.toList.length = t.size := by rw [Lib.size_eq]
  by_cases hq : t.size + 1 = 9 * many
  · obtain ⟨i0, ih, iz0, iz1, iz2⟩ := info_parts Tryz.info_fl
    have hMlt : 1 < w.heap.size := World.block_lt_of_cell? _ _ hml
    have hsz : (t.size : Int) = 9 * (many : Int) - 1 := by omega
    have w9 : IntKind.i64.wrap (9 * (many : Int)) = 9 * (many : Int) := by rw [IntKind.wrap_i64]; omega
    have w9' : IntKind.i64.wrap (9 * (many : Int) - 1) = 9 * (many : Int) - 1 := by rw [IntKind.wrap_i64]; omega
    have hSP := fun w1 (hb : Below w.heap.size w w1) => implSplit t 32 hmax w1 m ((hb.cell (p := ⟨1, 0, none⟩) hMlt).trans hml)
    have HLB := Lib.hid hL
    have HSP := Lib.hid hSP
    have HLEN := Lib.hid hlen
    clear hL hml hlen hSP
    go_enter Tryz.func39, Tryz.ntmps39
    go_wp2_with fail
    go_at_call 35
    with_reducible refine calls_args (b := #[.string t, .string ⟨#[32]⟩]) (by kernel_rfl) ?_
    with_reducible refine (HSP.out _ (Below.alloc (Below.refl _ w) (Nat.le_refl _) _)).mono ?_
    rintro e w1 ⟨⟨v, rfl, g, cap, cs, rfl, hg, hcs, hat⟩, hb1⟩
    have k0 : w1.ownsRow w.heap.size 25 1 (.slice (some ⟨w.heap.size, 0, none⟩) 0 0) 0 (([] : List Nat).map (Value.float .f32)) :=
      ownS_carry (w := w.alloc (.cells #[] 25)) ⟨rfl, Or.inr ⟨w.heap.size, 0, #[], rfl, Nat.le_refl _, heap_alloc_new w _, by omega, by simp [maxLen], rfl, rfl⟩⟩ (fun i _ h2 => hb1.block i h2)
    have b1 : Below w.heap.size w w1 := (Below.alloc (Below.refl _ w) (Nat.le_refl _) _).trans (hb1.mono (by simp))
    obtain ⟨L, hLe⟩ : ∃ L, L = t.data.toList := ⟨_, rfl⟩
    rw [← hLe] at hat ⊢
    have HLE := Lib.hid hLe
    obtain ⟨n, hn⟩ : ∃ n, n = (splitW 32 L).length := ⟨_, rfl⟩
    have hnL : n = (splitL 32 L).length := by rw [hn]; unfold splitW; rw [List.length_map]
    rw [← hn]
    have HNL := Lib.hid hnL
    have HAT := Lib.hid hat
    have hn20 : n ≤ 1048577 := by
      have h1 := splitL_lt 32 L
      have h2 := HLEN.out
      rw [← hLe] at h2
      omega
    clear hn hnL hat hb1 hg HSP hLe hsz w9
    go_wp2
    go_loopw [6, 21] (fun v i wr => ∃ (k : Nat) (G : List Nat), k ≤ n ∧ i = .int .i64 k ∧ wr.ownsRow w.heap.size 25 1 v k (G.map (Value.float .f32)) ∧ wr.heap[g]? = some (.cells cs 9 (0, 0)) ∧ Below w.heap.size w wr ∧ Hid (readAll ((splitL 32 L).take k) = some G ∧ G.length = k)) (fun _ i _ => n - (RowKit.intOf i).toNat)
    case atStart => exact ⟨0, [], by omega, rfl, k0, hcs, b1, Lib.hid ⟨rfl, rfl⟩⟩
    case round =>
      clear k0 b1 hcs
      obtain ⟨k, G, hk, rfl, hown, hcs, hb, hh⟩ := hrel
      have hsz := hb.size
      have HB := Lib.hid hb
      have HCS := Lib.hid hcs
      by_cases hlt : k < n
      · have hkl : k < (splitL 32 L).length := by have := HNL.out; omega
        obtain ⟨x, hx⟩ : ∃ x, (splitL 32 L)[k]? = some x := ⟨_, List.getElem?_eq_getElem hkl⟩
        obtain ⟨X, hXe⟩ : ∃ X : ByteArray, X = ⟨x.toArray⟩ := ⟨_, rfl⟩
        have hXl : X.data.toList = x := by rw [hXe]
        have hcX : cs[k]? = some (.string X) := HAT.out k X (by unfold splitW; rw [List.getElem?_map, hx, hXe]; rfl)
        have cX : wr.cell? ⟨g, k, none⟩ = some (.string X) := (cell_of_row wr g k _ _ _ hcs).trans hcX
        have hXs : X.size ≤ 1048576 := by
          have h1 := splitL_sub (List.mem_of_getElem? hx)
          have h2 := HLEN.out
          rw [← HLE.out] at h2
          have h3 : X.size = x.length := by rw [hXe, size_of_list]
          omega
        have hR := implReadNumber X hXs wr (HLB.out.on hb (Nat.le_refl _))
        rw [hXl] at hR
        have i1 : (k : Int) < n := by omega
        cases hr : readOf x with
        | none =>
          rw [hr] at hR
          replace hR : Calls Tryz.prog 73 #[.string X] wr fun e w' => e = .returned (.tuple #[.float .f32 0, .int .i64 5]) ∧ Below wr.heap.size wr w' := hR
          have HN : Hid (numsOf t.data.toList many = none) := Lib.hid (by
            unfold numsOf
            rw [← HLE.out, readAll_none hx hr]
            rfl)
          clear hh hx hXe hXl hcX hr hown hb hcs
          go_wp2_with (go_at_call 73; with_reducible refine hR.mono ?_; rintro e w2 ⟨rfl, hb2⟩)
          go_ret2
          exact ⟨⟨_, rfl, numsEnd_none HN.out ⟨_, rfl⟩⟩, HB.out.trans (hb2.mono hsz)⟩
        | some a =>
          rw [hr] at hR
          replace hR : Calls Tryz.prog 73 #[.string X] wr fun e w' => e = .returned (.tuple #[.float .f32 a, .int .i64 0]) ∧ Below wr.heap.size wr w' := hR
          have HN : Hid (readAll ((splitL 32 L).take (k + 1)) = some (G ++ [a]) ∧ (G ++ [a]).length = k + 1) := Lib.hid ⟨by rw [readAll_take hh.out.1 hx, hr]; rfl, by simp [hh.out.2]⟩
          have HS : Hid (G.map (Value.float .f32) ++ [.float .f32 a] = (G ++ [a]).map (Value.float .f32)) := Lib.hid (by simp)
          have HO := Lib.hid hown
          clear hh hx hXe hXl hcX hr hown hb hcs
          go_wp2_with (go_at_call 73; with_reducible refine hR.mono ?_; rintro e w2 ⟨rfl, hb2⟩; refine Hid.out ?_)
          refine Lib.hid ?_
          have hown1 : w2.ownsRow w.heap.size 25 1 _ k (G.map (Value.float .f32)) := ownS_carry HO.out (fun i _ h2 => hb2.block i h2)
          have hb3 : Below w.heap.size w w2 := HB.out.trans (hb2.mono hsz)
          have hsz1 : w.heap.size ≤ w2.heap.size := hb3.size
          have hgl : g < wr.heap.size := by
            cases hlt : decide (g < wr.heap.size)
            · simp only [decide_eq_false_iff_not] at hlt
              have := HCS.out
              rw [Array.getElem?_eq_none (by omega)] at this; cases this
            · simpa using hlt
          have hcs2 : w2.heap[g]? = some (.cells cs 9 (0, 0)) := (hb2.block g hgl).trans HCS.out
          have HB3 := Lib.hid hb3
          have HCS2 := Lib.hid hcs2
          clear hR cX hb2 HB HO hb3 hcs2 HCS
          go_wp2_with (at_builtin; refine wpList_append_own _ rfl _ _ 64 rfl w.heap.size 25 i0 (.float .f32 0) 1 4 Tryz.underlying64 ih iz0 iz1 iz2 rfl (by decide) _ _ _ rfl (hown1.alloc _) ⟨w2.heap.size, 0, none⟩ 1 1 [.float .f32 a] rfl rfl ?c1 ?c2 ?c3 ?c4 ?c5 ?_)
          case c1 =>
            intro j u hj
            match j, hj with
            | 0, hj => simp at hj; subst hj; simp [Addr.add]
          case c2 => intro u hu; simp at hu; subst hu; rfl
          case c3 => unfold maxLen; omega
          case c4 => omega
          case c5 => simp; omega
          intro v' w3 hown' hgrow _
          have n5 := ownS_below hown1 (Nat.le_refl _) hsz1 HB3.out hgrow
          have n6 := ownS_keep hgrow HCS2.out (ownS_off hown1 HCS2.out (by decide))
          rw [HS.out] at hown'
          have N5 := Lib.hid n5
          have N6 := Lib.hid n6
          have NO := Lib.hid hown'
          clear n5 n6 hown' hown1 hgrow
          go_wp2
          go_roundw
          case rel => exact ⟨k + 1, G ++ [a], by omega, by first | rfl | go_num, NO.out, N6.out, N5.out, HN⟩
          case measure => simp [RowKit.intOf]; omega
      · obtain rfl : k = n := by omega
        obtain ⟨ao, cp, hv⟩ := ownS_form hown
        subst hv
        have hall : (splitL 32 L).take k = splitL 32 L := List.take_of_length_le (by rw [HNL.out]; exact Nat.le_refl _)
        have hRA : readAll (splitL 32 L) = some G := by have h := hh.out.1; rw [hall] at h; exact h
        by_cases hkm : k = many
        · have HN : Hid (numsOf t.data.toList many = some G) := Lib.hid (by
            unfold numsOf
            rw [← HLE.out, hRA]
            exact if_pos (by rw [hh.out.2, hkm]))
          have HO := Lib.hid hown
          subst hkm
          clear hh hall hRA hown hb hcs
          go_wp2
          go_ret2
          exact ⟨⟨_, rfl, numsEnd_some HN.out ⟨_, by simp, HO.out⟩⟩, HB.out⟩
        · have HN : Hid (numsOf t.data.toList many = none) := Lib.hid (by
            unfold numsOf
            rw [← HLE.out, hRA]
            exact if_neg (by rw [hh.out.2]; exact hkm))
          have hki : ((k : Int) == (many : Int)) = false := by simp; omega
          clear hh hall hRA hown hb hcs
          go_wp2
          go_ret2
          exact ⟨⟨_, rfl, numsEnd_none HN.out ⟨_, rfl⟩⟩, HB.out⟩
  · have HN : Hid (numsOf t.data.toList many = none) := Lib.hid (by
      cases h : numsOf t.data.toList many with
      | none => rfl
      | some G => have := (numsOf_len h).1; omega)
    have hq' : ¬ (t.size : Int) = 9 * (many : Int) - 1 := by omega
    have w9 : IntKind.i64.wrap (9 * (many : Int)) = 9 * (many : Int) := by rw [IntKind.wrap_i64]; omega
    have w9' : IntKind.i64.wrap (9 * (many : Int) - 1) = 9 * (many : Int) - 1 := by rw [IntKind.wrap_i64]; omega
    clear hlen hq hL hml
    go_enter Tryz.func39, Tryz.ntmps39
    go_wp2
    go_ret2
    exact ⟨⟨_, rfl, numsEnd_none HN.out ⟨_, rfl⟩⟩, Below.refl _ _⟩
end Go.Proofs.YtekfmjddlemboaaGreatDoor

/-! The train of a text; plain. -/
set_option linter.unusedVariables false
set_option linter.unusedSimpArgs false
namespace Go.Proofs.YtekfmjddlemboaaGreatDoor
open Go.RowKit Go.Lib

theorem splitL_cons (c : UInt8) (l : List UInt8) : ∃ w0 ws, splitL c l = w0 :: ws := by
  cases h : splitL c l with
  | nil => exact absurd h (splitL_ne c l)
  | cons x y => exact ⟨x, y, rfl⟩
end Go.Proofs.YtekfmjddlemboaaGreatDoor

/-! The train of a text; plain, for the program's side. -/
set_option linter.unusedVariables false
set_option linter.unusedSimpArgs false
namespace Go.Proofs.YtekfmjddlemboaaGreatDoor
open Go.RowKit Go.Lib

/-- strings.Cut at one byte, and the pieces at that byte. -/
theorem cut_split {c : UInt8} (l : List UInt8) : (c ∈ l ∧ splitL c l = (Lib.cut l [c]).1 :: splitL c (Lib.cut l [c]).2.1) ∨ (c ∉ l ∧ (Lib.cut l [c]).1 = l ∧ (Lib.cut l [c]).2.1 = [] ∧ splitL c l = [l]) := by
  unfold Lib.cut
  by_cases h : 0 ≤ Lib.index l [c]
  · left
    rw [if_pos h]
    obtain ⟨i, hi⟩ : ∃ i : Nat, Lib.index l [c] = i := ⟨(Lib.index l [c]).toNat, by omega⟩
    obtain ⟨h1, h2⟩ := index_hit hi
    have e : (Lib.index l [c]).toNat = i := by rw [hi]; rfl
    show c ∈ l ∧ splitL c l = l.take (Lib.index l [c]).toNat :: splitL c (l.drop ((Lib.index l [c]).toNat + [c].length))
    rw [e]
    refine ⟨by rw [h1]; simp, ?_⟩
    conv => lhs; rw [h1]
    rw [splitL_hit _ h2]
    rfl
  · right
    rw [if_neg h]
    have h2 : c ∉ l := index_miss (by have := Lib.index_ge l [c]; omega)
    exact ⟨h2, rfl, rfl, splitL_miss h2⟩

/-- A piece of a row is written over by a list of numbers. -/
theorem row_paste (pre : List Value) (n : Nat) (F : Nat → Nat) (k : Nat) (H : List Nat) (h : k + H.length ≤ n) : ((row pre n F).toList.take (pre.length + k) ++ (H.map (Value.float .f32) ++ (row pre n F).toList.drop (pre.length + k + (H.map (Value.float .f32)).length))).toArray = row pre n (fun i => if k ≤ i ∧ i < k + H.length then H.getD (i - k) 0 else F i) := by
  have e : ((List.range n).map (fun i => Value.float .f32 (F i))).take k ++ (H.map (Value.float .f32) ++ ((List.range n).map (fun i => Value.float .f32 (F i))).drop (k + H.length)) = (List.range n).map (fun i => Value.float .f32 (if k ≤ i ∧ i < k + H.length then H.getD (i - k) 0 else F i)) := by
    apply List.ext_getElem?
    intro j
    have hl : (((List.range n).map (fun i => Value.float .f32 (F i))).take k).length = k := by simp; omega
    by_cases h1 : j < k
    · rw [List.getElem?_append_left (by omega)]
      have hjn : j < n := by omega
      simp [h1, hjn, show ¬ k ≤ j by omega]
    · rw [List.getElem?_append_right (by omega), hl]
      by_cases h2 : j < k + H.length
      · have hjn : j < n := by omega
        have hjk : j - k < H.length := by omega
        rw [List.getElem?_append_left (by simp; omega)]
        simp [hjn, h2, show k ≤ j by omega, hjk]
      · rw [List.getElem?_append_right (by simp; omega)]
        rw [List.getElem?_drop, List.length_map, show k + H.length + (j - k - H.length) = j by omega]
        by_cases hjn : j < n
        · simp [hjn, h2]
        · simp [hjn]
  unfold row
  rw [← e]
  simp [List.take_append, List.drop_append]
  rw [List.take_of_length_le (by omega), List.drop_of_length_le (by omega), show pre.length + k + H.length - pre.length = k + H.length by omega]
  simp
end Go.Proofs.YtekfmjddlemboaaGreatDoor

/-! The train of a text, as the program reads it. -/
set_option linter.unusedVariables false
set_option linter.unusedSimpArgs false
namespace Go.Proofs.YtekfmjddlemboaaGreatDoor
open Go.RowKit Go.Lib

theorem KeptS.row {B : Nat} {w0 wr W : World} (h : KeptS B w0 wr W) (hB : B ≤ wr.heap.size) {g : Nat} (hg : wr.heap.size ≤ g) (cs : Array Value) : KeptS B w0 wr (W.setRow g cs) :=
  ⟨fun i hi => (setRow_other W g i cs (by omega)).trans (h.1 i hi), by rw [size_setRow]; exact h.2.1, Below.trans h.2.2 ⟨rfl, rfl, rfl, by rw [size_setRow]; exact Nat.le_refl _, fun k hk => setRow_other W g k cs (by omega)⟩⟩
theorem below_drewN (w : World) (k : Nat) : Below w.heap.size w (w.drewN k) := ⟨rfl, rfl, rfl, Nat.le_refl _, fun i hi => rfl⟩
end Go.Proofs.YtekfmjddlemboaaGreatDoor

/-! The wrap of a row with listed variables, the world's shape kept; the searcher's longest needle is some number. -/
namespace Go.Proofs.YtekfmjddlemboaaGreatDoor
open Go.ChangeShapes Go.WideShapes Go.ChangeAt Go.RowKit

theorem laidKit_shaped {H : Type} {enc : TypeId × Value → H} {a : Assume} {C : Checked} {os : Os} {f : FuncId} {fn : Func} {s : ChangeSpec} {conds : List PathCond} {apart fresh handsOn again : Bool} {X : World → Array Value → Prop}
    (hX : ∀ (w w' : World) (args : Array Value), w.heap = w'.heap → X w args → X w' args)
    (own : ownKnob C.prog.godebug = none) (started : os.Started) (noInit : C.prog.inits.idxOf? f = none) (hfn : C.prog.funcs[f]? = some fn)
    (witness : ∃ (w : World) (tape : Tape) (i : Input), w.os = os ∧ (w.forCall tape i).Shaped C.prog ∧ i.vars = [] ∧ Input.okWide C.prog (w.forCall tape i) .any w.heap.size f i ∧
      ((s.pre enc C.prog fn conds apart (w.forCall tape i).memory i.args ∧ X (w.forCall tape i).memory i.args) ∧ sizedMet enc C.prog fn (OpenSpec.ofChange s) apart (w.forCall tape i).memory i.args) ∧ a.holds C.prog (lone (Frame.enter C.prog f i.args .normal) [] (w.forCall tape i)))
    (contract : ∀ (W : World) (base : Nat) (args : Array Value) (ds gs : List (DataW H)) (before : List MemPlace),
      (∀ (j : Nat) t v, fn.params[j]? = some t → args[j]? = some v → Value.okWide C.prog W .any base t v) →
      DataW.Whole enc C.prog fn.params.toList s.vars apart W args.toList ds gs before →
      conds.all (PathCond.test C.prog ⟨fn.params.toList, ds, s.plain.varTypes C.prog, gs⟩) = true →
      (DataW.weightsEach C.prog (fn.params.toList ++ s.plain.varTypes C.prog) (ds ++ gs)).all (· ≤ reachBytes) = true → X W args → W.ShapedOpen C.prog →
      Calls C.prog f args W fun e W' => ∃ v, e = .returned v ∧ s.post enc C.prog fn apart fresh handsOn again W args v W') :
    ReturnsInHanded a C os f .any (fun w args => (s.pre enc C.prog fn conds apart w args ∧ X w args) ∧ sizedMet enc C.prog fn (OpenSpec.ofChange s) apart w args) (s.post enc C.prog fn apart fresh handsOn again) := by
  refine returnsInHanded_of_calls own started noInit witness ?_
  intro w tape i _ hsh _ hok hpre _
  obtain ⟨_, _, _, fn', hfn', _, _, _, _, hval⟩ := hok
  have e : fn' = fn := Option.some.inj (hfn'.symm.trans hfn)
  subst e
  obtain ⟨⟨⟨ds, gs, before, hw, hc⟩, hx⟩, hz⟩ := hpre
  have hw' := DataW.Whole.of_heap (w' := w.forCall tape i) (by rfl) hw
  refine (contract (w.forCall tape i) w.heap.size i.args ds gs before hval hw' hc (hz.weights hw) (hX _ _ _ (by rfl) hx) hsh).mono fun e W' ⟨v, he, hp⟩ => ?_
  subst he
  exact ChangeSpec.post_blind hp
theorem maxlen_cell {W : World} (h : W.ShapedOpen Tryz.prog) : ∃ m, W.cell? ⟨1, 0, none⟩ = some (.int .i64 m) :=
  cell_of_shapedOpen_int (t := 3) (zero := #[.int .i64 0]) h (of_decide_eq_true (by kernel_rfl)) (by kernel_rfl) rfl (by kernel_rfl) (by kernel_rfl) Tryz.underlying3
end Go.Proofs.YtekfmjddlemboaaGreatDoor

/-! The plate of a text; plain. -/
set_option linter.unusedVariables false
set_option linter.unusedSimpArgs false
namespace Go.Proofs.YtekfmjddlemboaaGreatDoor
open Go.RowKit Go.Lib

/-- Rows of numbers, each of so many. -/
def readRows (wd : Nat) : List (List UInt8) → Option (List (List Nat))
  | [] => some []
  | x :: l => (numsOf x wd).bind fun r => (readRows wd l).bind fun R => some (r :: R)
/-- The cells of rows of numbers. -/
def plF (G : List (List Nat)) : Nat → Nat := fun i => (G.getD (i / 8) []).getD (i % 8) 0
/-- The plate with a text. -/
def readPL (l : List UInt8) : Option (Nat × Nat × List (List Nat)) :=
  match splitL 10 l with
  | [] => none
  | l0 :: ls => match splitL 32 l0 with
    | [a, b] => (numOf a).bind fun wd => (numOf b).bind fun hg => if (1 ≤ wd ∧ wd < 9) ∧ (1 ≤ hg ∧ hg < 9) ∧ ls.length = hg + 1 ∧ ls.getD hg [] = [] then (readRows wd (ls.take hg)).bind fun G => if plateB wd hg (plF G) then some (wd, hg, G) else none else none
    | _ => none
def rpRow (o : Option (Nat × Nat × List (List Nat))) : Array Value := match o with | some (a, b, G) => plate a b (plF G) | none => plate 0 0 (fun _ => 0)
def rpCode (o : Option (Nat × Nat × List (List Nat))) : Int := if o.isSome then 0 else 5

theorem readRows_snoc (wd : Nat) : ∀ (l : List (List UInt8)) (x : List UInt8), readRows wd (l ++ [x]) = (readRows wd l).bind fun R => (numsOf x wd).bind fun r => some (R ++ [r])
  | [], x => by
    show (numsOf x wd).bind _ = _
    cases numsOf x wd <;> rfl
  | y :: l, x => by
    show (numsOf y wd).bind (fun r => (readRows wd (l ++ [x])).bind fun R => some (r :: R)) = _
    rw [readRows_snoc wd l x]
    show _ = ((numsOf y wd).bind fun r => (readRows wd l).bind fun R => some (r :: R)).bind _
    cases numsOf y wd with
    | none => rfl
    | some r =>
      cases readRows wd l with
      | none => rfl
      | some R => cases numsOf x wd <;> rfl
theorem readRows_take {wd : Nat} {l : List (List UInt8)} {k : Nat} {G : List (List Nat)} {x : List UInt8} (h : readRows wd (l.take k) = some G) (hx : l[k]? = some x) : readRows wd (l.take (k + 1)) = (numsOf x wd).bind fun r => some (G ++ [r]) := by
  rw [List.take_add_one, hx]
  show readRows wd (l.take k ++ [x]) = _
  rw [readRows_snoc, h]
  rfl
theorem readRows_no {wd : Nat} {l : List (List UInt8)} {k : Nat} {x : List UInt8} (hx : l[k]? = some x) (h : numsOf x wd = none) : readRows wd l = none := by
  induction l generalizing k with
  | nil => simp at hx
  | cons y l ih =>
    unfold readRows
    cases k with
    | zero =>
      simp at hx
      subst hx
      rw [h]; rfl
    | succ k =>
      rw [ih (by simpa using hx)]
      cases numsOf y wd <;> rfl
theorem readRows_at {wd : Nat} {l : List (List UInt8)} {G : List (List Nat)} (h : readRows wd l = some G) : G.length = l.length ∧ ∀ (k : Nat) x, l[k]? = some x → ∃ r, G[k]? = some r ∧ numsOf x wd = some r := by
  induction l generalizing G with
  | nil => simp [readRows] at h; subst h; simp
  | cons y l ih =>
    unfold readRows at h
    cases h1 : numsOf y wd with
    | none => rw [h1] at h; simp at h
    | some r =>
      rw [h1] at h
      cases h2 : readRows wd l with
      | none => rw [h2] at h; simp at h
      | some R =>
        rw [h2] at h
        simp at h
        subst h
        obtain ⟨e1, e2⟩ := ih h2
        refine ⟨by simp [e1], fun k x hx => ?_⟩
        cases k with
        | zero => simp at hx; subst hx; exact ⟨r, rfl, h1⟩
        | succ k => exact e2 k x (by simpa using hx)
theorem plF_zero : plF [] = fun _ => 0 := by
  funext i; unfold plF; simp
/-- A row more. -/
theorem plF_row (G : List (List Nat)) (H : List Nat) (hH : H.length ≤ 8) : plF (G ++ [H]) = fun i => if 8 * G.length ≤ i ∧ i < 8 * G.length + H.length then H.getD (i - 8 * G.length) 0 else plF G i := by
  funext i
  unfold plF
  by_cases h1 : i / 8 < G.length
  · rw [if_neg (by omega)]
    simp [List.getD, List.getElem?_append_left h1]
  · by_cases h2 : i / 8 = G.length
    · have e : (G ++ [H]).getD (i / 8) [] = H := by simp [List.getD, h2]
      have e2 : G.getD (i / 8) [] = [] := by simp [List.getD, List.getElem?_eq_none (show G.length ≤ i / 8 by omega)]
      rw [e, e2]
      by_cases h3 : i < 8 * G.length + H.length
      · rw [if_pos ⟨by omega, h3⟩, show i % 8 = i - 8 * G.length by omega]
      · rw [if_neg (by omega)]
        simp [List.getD, List.getElem?_eq_none (show H.length ≤ i % 8 by omega)]
    · rw [if_neg (by omega)]
      have e : (G ++ [H]).getD (i / 8) [] = [] := by simp [List.getD, List.getElem?_eq_none (show (G ++ [H]).length ≤ i / 8 by simp; omega)]
      have e2 : G.getD (i / 8) [] = [] := by simp [List.getD, List.getElem?_eq_none (show G.length ≤ i / 8 by omega)]
      rw [e, e2]
theorem plate_no {wd hg : Nat} {G : List (List Nat)} (w9 : wd < 9) (h9 : hg < 9) {y x a : Nat} {r : List Nat} (hy : y < hg) (hx : x < wd) (hr : G[y]? = some r) (ha : r[x]? = some a) (hp : partB a = false) : plateB wd hg (plF G) = false := by
  cases hb : plateB wd hg (plF G)
  · rfl
  · obtain ⟨a', b', ea, eb, _, _, _, _, h1, _⟩ := plateB_size hb
    have ea' : a' = wd := by omega
    have eb' : b' = hg := by omega
    subst ea' eb'
    have := h1 (x + 8 * y) (by omega) (cell_xy (by omega) hx hy)
    have e : plF G (x + 8 * y) = a := by
      unfold plF
      rw [show (x + 8 * y) / 8 = y by omega, show (x + 8 * y) % 8 = x by omega]
      simp [List.getD, hr, ha]
    rw [e, hp] at this
    cases this
/-- The plate of a text whose first line is known. -/
theorem readPL_of {l l0 a b : List UInt8} {ls : List (List UInt8)} {wd hg : Nat} (hs : splitL 10 l = l0 :: ls) (hf : splitL 32 l0 = [a, b]) (ha : numOf a = some wd) (hb : numOf b = some hg) : readPL l = if (1 ≤ wd ∧ wd < 9) ∧ (1 ≤ hg ∧ hg < 9) ∧ ls.length = hg + 1 ∧ ls.getD hg [] = [] then (readRows wd (ls.take hg)).bind fun G => if plateB wd hg (plF G) then some (wd, hg, G) else none else none := by
  unfold readPL
  rw [hs]
  simp only
  rw [hf]
  simp only
  rw [ha, hb]
  rfl
theorem readPL_two {l l0 : List UInt8} {ls : List (List UInt8)} (hs : splitL 10 l = l0 :: ls) (hf : (splitL 32 l0).length ≠ 2) : readPL l = none := by
  unfold readPL
  rw [hs]
  simp only
  split
  · rename_i h
    rw [h] at hf
    simp at hf
  · rfl
theorem readPL_num {l l0 a b : List UInt8} {ls : List (List UInt8)} (hs : splitL 10 l = l0 :: ls) (hf : splitL 32 l0 = [a, b]) (h : numOf a = none ∨ numOf b = none) : readPL l = none := by
  unfold readPL
  rw [hs]
  simp only
  rw [hf]
  simp only
  rcases h with h | h
  · rw [h]; rfl
  · rw [h]
    cases numOf a <;> rfl
theorem readPL_bad {l l0 a b : List UInt8} {ls : List (List UInt8)} {wd hg : Nat} (hs : splitL 10 l = l0 :: ls) (hf : splitL 32 l0 = [a, b]) (ha : numOf a = some wd) (hb : numOf b = some hg) (h : ¬ ((1 ≤ wd ∧ wd < 9) ∧ (1 ≤ hg ∧ hg < 9) ∧ ls.length = hg + 1 ∧ ls.getD hg [] = [])) : readPL l = none := by
  rw [readPL_of hs hf ha hb, if_neg h]
theorem splitL_single {c : UInt8} {l x : List UInt8} (h : splitL c l = [x]) : l = x := by
  by_cases hc : c ∈ l
  · obtain ⟨p, r, rfl, hp⟩ := first_split hc
    rw [splitL_hit r hp] at h
    injection h with h1 h2
    exact absurd h2 (splitL_ne c r)
  · rw [splitL_miss hc] at h
    injection h
theorem dec_noblank : ∀ n, n < 13 → (32 : UInt8) ∉ Lib.decDigits n := by decide +kernel
theorem dec_short : ∀ n, n < 13 → (Lib.decDigits n).length ≤ 2 := by decide +kernel
theorem dec_nonempty : ∀ n, n < 13 → Lib.decDigits n ≠ [] := by decide +kernel
/-- The first line, cut once. -/
theorem head_yes {l0 : List UInt8} {m h : Nat} (hm : m < 13) (hh : h < 13) (hx : (Lib.cut l0 [32]).1 = Lib.decDigits m) (hy : (Lib.cut l0 [32]).2.1 = Lib.decDigits h) : splitL 32 l0 = [Lib.decDigits m, Lib.decDigits h] := by
  rcases cut_split (c := 32) l0 with ⟨_, hs⟩ | ⟨_, _, hr, _⟩
  · rw [hs, hx, hy, splitL_miss (dec_noblank h hh)]
  · rw [hr] at hy
    exact absurd hy.symm (dec_nonempty h hh)
theorem head_no {l l0 : List UInt8} {ls : List (List UInt8)} (hs : splitL 10 l = l0 :: ls) (h : ∀ m k, 1 ≤ m → m < 9 → 1 ≤ k → k < 9 → (Lib.cut l0 [32]).1 = Lib.decDigits m → (Lib.cut l0 [32]).2.1 = Lib.decDigits k → False) : readPL l = none := by
  by_cases h2 : (splitL 32 l0).length = 2
  · obtain ⟨a, b, hab⟩ : ∃ a b, splitL 32 l0 = [a, b] := by
      match hq : splitL 32 l0, h2 with
      | [a, b], _ => exact ⟨a, b, rfl⟩
    cases h3 : numOf a with
    | none => exact readPL_num hs hab (Or.inl h3)
    | some m =>
      cases h4 : numOf b with
      | none => exact readPL_num hs hab (Or.inr h4)
      | some k =>
        by_cases hc : (1 ≤ m ∧ m < 9) ∧ (1 ≤ k ∧ k < 9) ∧ ls.length = k + 1 ∧ ls.getD k [] = []
        · exfalso
          have ea := numOf_small h3 (by omega)
          have eb := numOf_small h4 (by omega)
          rcases cut_split (c := 32) l0 with ⟨_, hs2⟩ | ⟨_, _, _, hs2⟩
          · rw [hab] at hs2
            injection hs2 with e1 e2
            exact h m k hc.1.1 hc.1.2 hc.2.1.1 hc.2.1.2 (by rw [← e1, ea]) (by rw [splitL_single e2.symm, eb])
          · rw [hab] at hs2
            simp at hs2
        · exact readPL_bad hs hab h3 h4 hc
  · exact readPL_two hs h2
/-- A text that is too long has no plate. -/
theorem splitL_sum (c : UInt8) : ∀ l : List UInt8, l.length + 1 = ((splitL c l).map fun x => x.length + 1).sum
  | [] => rfl
  | b :: l => by
    have ih := splitL_sum c l
    unfold splitL
    split
    · simp; omega
    · cases hs : splitL c l with
      | nil => exact absurd hs (splitL_ne c l)
      | cons y r =>
        rw [hs] at ih
        simp at ih ⊢
        omega
theorem readPL_long {l : List UInt8} (h : 1000 < l.length) : readPL l = none := by
  cases hq : readPL l with
  | none => rfl
  | some p =>
    exfalso
    unfold readPL at hq
    split at hq
    · simp at hq
    · rename_i l0 ls hs
      split at hq
      · rename_i a b hf
        cases h1 : numOf a with
        | none => rw [h1] at hq; simp at hq
        | some wd =>
          cases h2 : numOf b with
          | none => rw [h1, h2] at hq; simp at hq
          | some hg =>
            rw [h1, h2] at hq
            simp only [Option.bind] at hq
            split at hq
            · rename_i hc
              cases hr : readRows wd (ls.take hg) with
              | none => rw [hr] at hq; simp at hq
              | some G =>
                obtain ⟨e1, e2⟩ := readRows_at hr
                have s0 := splitL_sum 10 l
                have s1 := splitL_sum 32 l0
                rw [hs] at s0
                rw [hf] at s1
                have la : a.length ≤ 2 := by rw [numOf_small h1 (by omega)]; exact dec_short wd (by omega)
                have lb : b.length ≤ 2 := by rw [numOf_small h2 (by omega)]; exact dec_short hg (by omega)
                have hls : ∀ x ∈ ls, x.length + 1 ≤ 72 := by
                  intro x hx
                  obtain ⟨j, hj⟩ := List.getElem?_of_mem hx
                  have hjl := (List.getElem?_eq_some_iff.1 hj).1
                  by_cases hjh : j < hg
                  · obtain ⟨r, _, hn⟩ := e2 j x (by rw [List.getElem?_take, if_pos hjh]; exact hj)
                    have := (numsOf_len hn).1
                    omega
                  · obtain rfl : j = hg := by omega
                    have : ls.getD j [] = x := by simp [List.getD, hj]
                    rw [hc.2.2.2] at this
                    rw [← this]
                    simp
                have hsum : ∀ L : List (List UInt8), (∀ x ∈ L, x.length + 1 ≤ 72) → (L.map fun x => x.length + 1).sum ≤ 72 * L.length := by
                  intro L
                  induction L with
                  | nil => intro _; simp
                  | cons y L ih =>
                    intro hL
                    have := ih fun x hx => hL x (by simp [hx])
                    have := hL y (by simp)
                    simp at *
                    omega
                have := hsum ls hls
                simp at s0 s1
                omega
            · simp at hq
      · simp at hq
end Go.Proofs.YtekfmjddlemboaaGreatDoor

/-! The plate of a text, as the reference reads it. -/
set_option linter.unusedVariables false
set_option linter.unusedSimpArgs false
namespace Go.Proofs.YtekfmjddlemboaaGreatDoor
open Go.RowKit Go.Lib

/-- Behind a row that is no row of parts there is no plate. -/
theorem readPL_row {l l0 a b : List UInt8} {ls : List (List UInt8)} {wd hg k : Nat} {x : List UInt8} (hs : splitL 10 l = l0 :: ls) (hf : splitL 32 l0 = [a, b]) (ha : numOf a = some wd) (hb : numOf b = some hg) (hk : k < hg) (hx : ls[k]? = some x) (h : numsOf x wd = none ∨ ∃ (r : List Nat) (j v : Nat), numsOf x wd = some r ∧ j < wd ∧ r[j]? = some v ∧ partB v = false) : readPL l = none := by
  rw [readPL_of hs hf ha hb]
  split
  · rename_i hc
    have hx2 : (ls.take hg)[k]? = some x := by rw [List.getElem?_take, if_pos hk]; exact hx
    rcases h with h | ⟨r, j, v, h1, h2, h3, h4⟩
    · rw [readRows_no hx2 h]; rfl
    · cases hr : readRows wd (ls.take hg) with
      | none => rfl
      | some G =>
        obtain ⟨r', hr', hn⟩ := (readRows_at hr).2 k x hx2
        rw [h1] at hn
        injection hn with hn
        subst hn
        show (if plateB wd hg (plF G) then _ else _) = _
        rw [plate_no (by omega) (by omega) hk h2 hr' h3 h4]
        rfl
  · rfl
end Go.Proofs.YtekfmjddlemboaaGreatDoor
