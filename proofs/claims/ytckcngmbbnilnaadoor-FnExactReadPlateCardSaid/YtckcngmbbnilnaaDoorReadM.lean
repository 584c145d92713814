/- Texts that are cut at a byte: the program's and the reference's. -/
import Derived.Test.YtckcngmbbnilnaaDoorReadQ
import Derived.Test.YtckcngmbbnilnaaDoorTextN
set_option linter.unusedVariables false
set_option linter.unusedSimpArgs false
namespace Go.Proofs.YtckcngmbbnilnaaDoor
open Go.RowKit Go.Lib

/-- A slice of strings that a call has made. -/
def Words (w : World) (base : Nat) (v : Value) (W : List ByteArray) : Prop := ∃ g cap cs, v = .slice (some ⟨g, 0, none⟩) W.length cap ∧ base ≤ g ∧ w.heap[g]? = some (.cells cs 9 (0, 0)) ∧ ∀ (j : Nat) x, W[j]? = some x → cs[j]? = some (.string x)
theorem words_own {w : World} {base : Nat} {v : Value} {W : List ByteArray} (hn : 0 < W.length) (h : w.ownsRow base 9 1 v W.length (W.map Value.string)) : Words w base v W := by
  obtain ⟨_, h2⟩ := h
  rcases h2 with ⟨_, h0⟩ | ⟨g, cap, cur, hv, hg, hh, hc, _, hcs, htake⟩
  · omega
  · refine ⟨g, cap, cur, hv, hg, hh, fun j x hx => ?_⟩
    have hj : j < W.length := (List.getElem?_eq_some_iff.1 hx).1
    have e := congrArg (·[j]?) htake
    simp only [List.getElem?_map, hx, Nat.mul_one] at e
    rw [List.getElem?_take_of_lt hj] at e
    rw [← Array.getElem?_toList]
    exact e
theorem ownS_off {w : World} {base n g : Nat} {e t : TypeId} {v : Value} {xs : List Value} {cs : Array Value} {fr : Nat × Nat} (h : w.ownsRow base e 1 v n xs) (hg : w.heap[g]? = some (.cells cs t fr)) (hne : t ≠ e) : v.ownBlock ≠ some g := by
  intro hv
  rcases h.2 with ⟨rfl, _⟩ | ⟨g', cap, cur, rfl, hb, hh, _⟩
  · simp [Value.ownBlock] at hv
  · simp only [Value.ownBlock, Option.some.injEq] at hv
    subst hv
    rw [hg] at hh
    simp only [Option.some.injEq, Obj.cells.injEq] at hh
    exact hne hh.2.1
theorem ownS_keep {w w1 : World} {o : Obj} {v : Value} {g : Nat} {r : Obj} (hg : (w.alloc o).grownBy w1 v.ownBlock) (h : w.heap[g]? = some r) (hne : v.ownBlock ≠ some g) : w1.heap[g]? = some r := by
  have hlt : g < w.heap.size := by
    cases hlt : decide (g < w.heap.size)
    · simp only [decide_eq_false_iff_not] at hlt
      rw [Array.getElem?_eq_none (by omega)] at h; cases h
    · simpa using hlt
  rw [hg.block g (by simp; omega) (fun e => hne e.symm), Below.heap_alloc w o g hlt]
  exact h
theorem splitW_len (c : UInt8) (l : List UInt8) : 0 < (splitW c l).length := by
  unfold splitW
  rw [List.length_map]
  have := splitL_ne c l
  cases h : splitL c l with
  | nil => exact absurd h this
  | cons x y => simp
theorem extract_mk' (t : ByteArray) (a b : Nat) : t.extract a b = ⟨((t.data.toList.drop a).take (b - a)).toArray⟩ := by
  apply ByteArray.ext
  apply Array.toList_inj.1
  rw [Lib.extract_data]

/-- strings.Split at a byte. -/
theorem implSplit (t : ByteArray) (c : UInt8) (hmax : t.size ≤ 1048576) (w : World) (m : Int) (hm : w.cell? ⟨4, 0, none⟩ = some (.int .i64 m)) :
    Calls Tryd.prog 50 #[.string t, .string ⟨#[c]⟩] w fun e w' => (∃ v, e = .returned v ∧ Words w' w.heap.size v (splitW c t.data.toList)) ∧ Below w.heap.size w w' := by
  have h := Tryd.strings_Split t ⟨#[c]⟩ m w (by omega) hm (Nat.le_refl 1)
  refine h.mono fun e w' ⟨he, hw⟩ => ?_
  have hl : Lib.countB t ⟨#[c]⟩ + 1 = (splitW c t.data.toList).length := by
    rw [← splitB_all' c t, Lib.splitB_all ⟨#[c]⟩ (Nat.le_refl 1) 0 _ t rfl]
  rw [splitB_all' c t] at hw
  rw [hl] at he
  subst hw
  refine ⟨⟨_, he, w.heap.size, _, _, rfl, Nat.le_refl _, heap_alloc_new w _, fun j x hx => ?_⟩, Below.alloc (Below.refl _ _) (Nat.le_refl _) _⟩
  simp [hx]

set_option maxHeartbeats 1000000 in
set_option maxRecDepth 100000 in
theorem specSplit (t : ByteArray) (c : UInt8) (hmax : t.size ≤ 1048576) (w : World) :
    Calls Tryd.prog 46 #[.string t, .int .u8 c.toNat] w fun e w' => (∃ v, e = .returned v ∧ Words w' w.heap.size v (splitW c t.data.toList)) ∧ Below w.heap.size w w' := by
  obtain ⟨i0, ih, iz0, iz1, iz2⟩ := info_parts Tryd.info_str
  have hlen : t.data.toList.length = t.size := by rw [Lib.size_eq]
  have hidx : ∀ k : Nat, k < t.size → ∀ w, (Instr.index 9 (.string t) (.int .i64 (k : Int))).run Tryd.prog w = .ok (.int .u8 ((t.data.toList.getD k 0).toNat : Int)) w := fun k hk w => idx_str 9 Tryd.underlying9 t .i64 k hk w
  have hsl : ∀ a b : Nat, a ≤ b → b ≤ t.size → ∀ w, (Instr.slice 9 (.string t) (some (.int .i64 (a : Int))) (some (.int .i64 (b : Int))) none).run Tryd.prog w = .ok (.string (t.extract a b)) w := fun a b h1 h2 w => by
    rw [run_slice_string w 9 t .i64 .i64 _ _ Tryd.underlying9 (by omega) (by omega) (by omega)]
    simp
  go_enter Tryd.func46, Tryd.ntmps46
  go_wp2
  have k0 : (w.alloc (.cells #[] 9)).ownsRow w.heap.size 9 1 (.slice (some ⟨w.heap.size, 0, none⟩) 0 0) ([] : List ByteArray).length (([] : List ByteArray).map Value.string) :=
    ⟨rfl, Or.inr ⟨w.heap.size, 0, #[], rfl, Nat.le_refl _, heap_alloc_new w _, by simp, by simp [maxLen], rfl, rfl⟩⟩
  have b0 : Below w.heap.size w (w.alloc (.cells #[] 9)) := Below.alloc (Below.refl _ w) (Nat.le_refl _) _
  have hc256 : c.toNat < 256 := c.toNat_lt
  obtain ⟨L, hL⟩ : ∃ L, L = t.data.toList := ⟨_, rfl⟩
  rw [← hL] at hlen hidx
  have HIX := Lib.hid hidx
  have HSL := Lib.hid hsl
  have HL := Lib.hid hL
  have HLEN := Lib.hid hlen
  clear hidx hsl hL hlen
  go_loopw [5, 6, 7] (fun v vf vi wr => ∃ (k f : Nat) (D : List ByteArray), k ≤ t.size ∧ f ≤ k ∧ D.length ≤ k ∧ vi = .int .i64 k ∧ vf = .int .i64 f ∧ wr.ownsRow w.heap.size 9 1 v D.length (D.map Value.string) ∧ Below w.heap.size w wr ∧ Hid (D.map (·.data.toList) ++ splitL c (L.drop f) = splitL c L ∧ c ∉ (L.drop f).take (k - f))) (fun _ _ vi _ => t.size - (RowKit.intOf vi).toNat)
  case atStart => exact ⟨0, 0, [], by omega, by omega, by simp, rfl, rfl, k0, b0, Lib.hid ⟨by simp, by simp⟩⟩
  case round =>
    clear k0 b0
    obtain ⟨k, f, D, hk, hfk, hDk, rfl, rfl, hown, hb, hh⟩ := hrel
    have hsz := hb.size
    have HB := Lib.hid hb
    by_cases hlt : k < t.size
    · have hX := HIX.out k hlt
      have hkl : k < L.length := by have := HLEN.out; omega
      have hget : L.getD k 0 = L[k] := by simp [List.getD, List.getElem?_eq_getElem hkl]
      rw [hget] at hX
      obtain ⟨b, hb0⟩ : ∃ b, b = L[k] := ⟨_, rfl⟩
      rw [← hb0] at hX
      have hb256 : b.toNat < 256 := b.toNat_lt
      have hstep : (L.drop f).take (k + 1 - f) = (L.drop f).take (k - f) ++ [b] := by
        rw [show k + 1 - f = (k - f) + 1 by omega, List.take_add_one, List.getElem?_drop, show f + (k - f) = k by omega, List.getElem?_eq_getElem hkl, ← hb0]
        rfl
      have i1 : (k : Int) < t.size := by omega
      by_cases hbc : b = c
      · have hS := HSL.out f k hfk (by omega)
        have he : L.drop f = (L.drop f).take (k - f) ++ c :: L.drop (k + 1) := by
          have h1 := List.take_append_drop (k + 1 - f) (L.drop f)
          rw [hstep, List.drop_drop, show f + (k + 1 - f) = k + 1 by omega, hbc] at h1
          rw [List.append_assoc] at h1
          exact h1.symm
        have HN : Hid ((D ++ [t.extract f k]).map (·.data.toList) ++ splitL c (L.drop (k + 1)) = splitL c L) := Lib.hid (by
          rw [← hh.out.1, List.map_append, List.append_assoc]
          conv => rhs; rw [he]
          rw [splitL_hit _ hh.out.2]
          simp [Lib.extract_data, HL.out])
        have hbi : (b.toNat : Int) = (c.toNat : Int) := by rw [hbc]
        rw [hbi] at hX
        have HS : Hid (D.map Value.string ++ [.string (t.extract f k)] = (D ++ [t.extract f k]).map Value.string) := Lib.hid (by simp)
        clear hget hb0 hstep hbc he hh hb
        obtain ⟨X, hXe⟩ : ∃ X, X = t.extract f k := ⟨_, rfl⟩
        rw [← hXe] at hS HN HS
        clear hXe
        go_wp2_with (at_builtin; refine wpList_append_own _ rfl _ _ 79 rfl w.heap.size 9 i0 (.string ByteArray.empty) 1 16 Tryd.underlying79 ih iz0 iz1 iz2 rfl (by decide) _ _ _ rfl (hown.alloc _) ⟨wr.heap.size, 0, none⟩ 1 1 [.string (X)] rfl rfl ?c1 ?c2 ?c3 ?c4 ?c5 ?_)
        case c1 =>
          intro j u hj
          match j, hj with
          | 0, hj => simp at hj; subst hj; simp [Addr.add]
        case c2 => intro u hu; simp at hu; subst hu; rfl
        case c3 => unfold maxLen; omega
        case c4 => omega
        case c5 => simp; omega
        intro v' w3 hown' hgrow _
        have n5 := ownS_below hown (Nat.le_refl _) hsz HB.out hgrow
        rw [HS.out] at hown'
        have hown2 : w3.ownsRow w.heap.size 9 1 v' (D ++ [X]).length ((D ++ [X]).map Value.string) := by rw [List.length_append]; exact hown'
        have N5 := Lib.hid n5
        have NO := Lib.hid hown2
        clear n5 hown' hown hown2 hgrow
        go_wp2
        go_roundw
        case rel => exact ⟨k + 1, k + 1, D ++ [X], by omega, by omega, by simp; omega, by first | rfl | go_num, by first | rfl | go_num, NO.out, N5.out, Lib.hid ⟨HN.out, by simp⟩⟩
        case measure => simp [RowKit.intOf]; omega
      · have HN : Hid (D.map (·.data.toList) ++ splitL c (L.drop f) = splitL c L ∧ c ∉ (L.drop f).take (k + 1 - f)) := Lib.hid ⟨hh.out.1, by
          rw [hstep]
          simp only [List.mem_append, List.mem_singleton, not_or]
          exact ⟨hh.out.2, fun e => hbc e.symm⟩⟩
        have hbi : ¬ (b.toNat : Int) = (c.toNat : Int) := fun e => hbc (UInt8.toNat_inj.1 (by omega))
        have HO := Lib.hid hown
        clear hget hb0 hstep hbc hh hb hown
        go_wp2
        go_roundw
        case rel => exact ⟨k + 1, f, D, by omega, by omega, by omega, by first | rfl | go_num, rfl, HO.out, HB.out, HN⟩
        case measure => simp [RowKit.intOf]; omega
    · obtain rfl : k = t.size := by omega
      have hS : ∀ w', (Instr.slice 9 (.string t) (some (.int .i64 (f : Int))) none none).run Tryd.prog w' = .ok (.string (t.extract f t.size)) w' := fun w' => by
        rw [run_slice_string_l w' 9 t Tryd.underlying9 .i64 (f : Int) (by omega) (by omega)]
        simp
      have hall : (L.drop f).take (t.size - f) = L.drop f := List.take_of_length_le (by rw [List.length_drop, HLEN.out]; exact Nat.le_refl _)
      have HN : Hid ((D ++ [t.extract f t.size]).map (·.data.toList) = splitL c L) := Lib.hid (by
        have h2 := hh.out.2
        rw [hall] at h2
        rw [← hh.out.1, splitL_miss h2, List.map_append, ← hall, HL.out]
        simp [Lib.extract_data])
      have HS : Hid (D.map Value.string ++ [.string (t.extract f t.size)] = (D ++ [t.extract f t.size]).map Value.string) := Lib.hid (by simp)
      obtain ⟨X, hXe⟩ : ∃ X, X = t.extract f t.size := ⟨_, rfl⟩
      rw [← hXe] at hS HN HS
      clear hXe hall hh hb
      go_wp2_with (at_builtin; refine wpList_append_own _ rfl _ _ 79 rfl w.heap.size 9 i0 (.string ByteArray.empty) 1 16 Tryd.underlying79 ih iz0 iz1 iz2 rfl (by decide) _ _ _ rfl (hown.alloc _) ⟨wr.heap.size, 0, none⟩ 1 1 [.string (X)] rfl rfl ?c1 ?c2 ?c3 ?c4 ?c5 ?_)
      case c1 =>
        intro j u hj
        match j, hj with
        | 0, hj => simp at hj; subst hj; simp [Addr.add]
      case c2 => intro u hu; simp at hu; subst hu; rfl
      case c3 => unfold maxLen; omega
      case c4 => omega
      case c5 => simp; omega
      intro v' w3 hown' hgrow _
      have n5 := ownS_below hown (Nat.le_refl _) hsz HB.out hgrow
      rw [HS.out] at hown'
      have hown2 : w3.ownsRow w.heap.size 9 1 v' (D ++ [X]).length ((D ++ [X]).map Value.string) := by rw [List.length_append]; exact hown'
      have hW : splitW c L = D ++ [X] := by
        unfold splitW
        rw [← HN.out, List.map_map]
        conv => rhs; rw [← List.map_id (D ++ [X])]
        apply List.map_congr_left
        intro x _
        apply ByteArray.ext
        simp
      have HW : Hid (Words w3 w.heap.size v' (splitW c t.data.toList)) := Lib.hid (by
        rw [← HL.out, hW]
        exact words_own (by simp) hown2)
      have N5 := Lib.hid n5
      clear n5 hown' hown hown2 hgrow hW
      go_wp2
      go_ret
      exact ⟨⟨_, rfl, HW.out⟩, N5.out⟩
end Go.Proofs.YtckcngmbbnilnaaDoor
