/- Lists of numbers: the program's reader. -/
import Derived.Test.YtckcngmbbnilnaaDoorReadE
set_option linter.unusedVariables false
set_option linter.unusedSimpArgs false
namespace Go.Proofs.YtckcngmbbnilnaaDoor
open Go.RowKit Go.Lib

/-- So many numbers with blanks between them. -/
def numsOf (l : List UInt8) (many : Nat) : Option (List Nat) := (readAll (splitL 32 l)).bind fun G => if G.length = many then some G else none
theorem numsOf_len {l : List UInt8} {many : Nat} {G : List Nat} (h : numsOf l many = some G) : l.length + 1 = 9 * many ∧ G.length = many ∧ readAll (splitL 32 l) = some G := by
  unfold numsOf at h
  cases h1 : readAll (splitL 32 l) with
  | none => rw [h1] at h; simp at h
  | some R =>
    rw [h1] at h
    simp only [Option.bind] at h
    split at h
    · rename_i hl
      injection h with h
      subst h
      exact ⟨by rw [readAll_sum h1, hl], hl, rfl⟩
    · exact absurd h (by simp)
/-- What readNumbers hands back. -/
def NumsEnd (w : World) (base : Nat) (o : Option (List Nat)) (many : Nat) (v : Value) : Prop :=
  match o with
  | some G => ∃ sl, v = .tuple #[sl, .bool true] ∧ w.ownsRow base 22 1 sl many (G.map (Value.float .f32))
  | none => ∃ sl, v = .tuple #[sl, .bool false]
theorem numsEnd_none {w : World} {base many : Nat} {o : Option (List Nat)} {v : Value} (ho : o = none) (h : ∃ sl, v = .tuple #[sl, .bool false]) : NumsEnd w base o many v := by
  subst ho; exact h
theorem numsEnd_some {w : World} {base many : Nat} {o : Option (List Nat)} {v : Value} {G : List Nat} (ho : o = some G) (h : ∃ sl, v = .tuple #[sl, .bool true] ∧ w.ownsRow base 22 1 sl many (G.map (Value.float .f32))) : NumsEnd w base o many v := by
  subst ho; exact h
theorem Tryd.info_fl : (Tryd.prog.info? 22).map (fun i => (i.zero, i.size, i.bytes)) = some (some (.float .f32 0), 1, 4) := by kernel_rfl
theorem readAll_take {l : List (List UInt8)} {k : Nat} {G : List Nat} {x : List UInt8} (h : readAll (l.take k) = some G) (hx : l[k]? = some x) : readAll (l.take (k + 1)) = (readOf x).bind fun a => some (G ++ [a]) := by
  rw [List.take_add_one, hx]
  show readAll (l.take k ++ [x]) = _
  rw [readAll_snoc, h]
  rfl
theorem readAll_none {l : List (List UInt8)} {k : Nat} {x : List UInt8} (hx : l[k]? = some x) (h : readOf x = none) : readAll l = none := by
  induction l generalizing k with
  | nil => simp at hx
  | cons y l ih =>
    unfold readAll
    cases k with
    | zero =>
      simp at hx
      subst hx
      rw [h]; rfl
    | succ k =>
      rw [ih (by simpa using hx)]
      cases readOf y <;> rfl

theorem splitL_sub {c : UInt8} : ∀ {l x : List UInt8}, x ∈ splitL c l → x.length ≤ l.length
  | [], x, h => by simp [splitL] at h; simp [h]
  | b :: l, x, h => by
    unfold splitL at h
    split at h
    · rcases List.mem_cons.1 h with rfl | h
      · simp
      · have := splitL_sub h
        simp; omega
    · cases hs : splitL c l with
      | nil => exact absurd hs (splitL_ne c l)
      | cons y r =>
        rw [hs] at h
        have ih := fun z (hz : z ∈ splitL c l) => splitL_sub hz
        rw [hs] at ih
        rcases List.mem_cons.1 h with rfl | h
        · have := ih y (by simp)
          simp; omega
        · have := ih x (by simp [h])
          simp; omega
theorem ownS_form {w : World} {base n : Nat} {e : TypeId} {v : Value} {xs : List Value} (h : w.ownsRow base e 1 v n xs) : ∃ ao cap, v = .slice ao n cap := by
  rcases h.2 with ⟨h2, h3⟩ | ⟨g, cap, cur, hv, _⟩
  · subst h3; exact ⟨none, 0, h2⟩
  · exact ⟨_, cap, hv⟩

set_option maxHeartbeats 2000000 in
set_option maxRecDepth 100000 in
theorem readNumbers_any (t : ByteArray) (hmax : t.size ≤ 1048576) (many : Nat) (hm1 : 1 ≤ many) (hm2 : many ≤ 14) (w : World) (hL : Libs w) (m : Int) (hml : w.cell? ⟨4, 0, none⟩ = some (.int .i64 m)) :
    Calls Tryd.prog 54 #[.string t, .int .i64 many] w fun e w' => (∃ v, e = .returned v ∧ NumsEnd w' w.heap.size (numsOf t.data.toList many) many v) ∧ Below w.heap.size w w' := by
  have hlen : t.data.toList.length = t.size := by rw [Lib.size_eq]
  by_cases hq : t.size + 1 = 9 * many
  · obtain ⟨i0, ih, iz0, iz1, iz2⟩ := info_parts Tryd.info_fl
    have hMlt : 4 < w.heap.size := World.block_lt_of_cell? _ _ hml
    have hsz : (t.size : Int) = 9 * (many : Int) - 1 := by omega
    have w9 : IntKind.i64.wrap (9 * (many : Int)) = 9 * (many : Int) := by rw [IntKind.wrap_i64]; omega
    have w9' : IntKind.i64.wrap (9 * (many : Int) - 1) = 9 * (many : Int) - 1 := by rw [IntKind.wrap_i64]; omega
    have hSP := fun w1 (hb : Below w.heap.size w w1) => implSplit t 32 hmax w1 m ((hb.cell (p := ⟨4, 0, none⟩) hMlt).trans hml)
    have HLB := Lib.hid hL
    have HSP := Lib.hid hSP
    have HLEN := Lib.hid hlen
    clear hL hml hlen hSP
    go_enter Tryd.func54, Tryd.ntmps54
    go_wp2_with fail
    go_at_call 50
    with_reducible refine calls_args (b := #[.string t, .string ⟨#[32]⟩]) (by kernel_rfl) ?_
    with_reducible refine (HSP.out _ (Below.alloc (Below.refl _ w) (Nat.le_refl _) _)).mono ?_
    rintro e w1 ⟨⟨v, rfl, g, cap, cs, rfl, hg, hcs, hat⟩, hb1⟩
    have k0 : w1.ownsRow w.heap.size 22 1 (.slice (some ⟨w.heap.size, 0, none⟩) 0 0) 0 (([] : List Nat).map (Value.float .f32)) :=
      ownS_carry (w := w.alloc (.cells #[] 22)) ⟨rfl, Or.inr ⟨w.heap.size, 0, #[], rfl, Nat.le_refl _, heap_alloc_new w _, by omega, by simp [maxLen], rfl, rfl⟩⟩ (fun i _ h2 => hb1.block i h2)
    have b1 : Below w.heap.size w w1 := (Below.alloc (Below.refl _ w) (Nat.le_refl _) _).trans (hb1.mono (by simp))
    obtain ⟨L, hLe⟩ : ∃ L, L = t.data.toList := ⟨_, rfl⟩
    rw [← hLe] at hat ⊢
    have HLE := Lib.hid hLe
    obtain ⟨n, hn⟩ : ∃ n, n = (splitW 32 L).length := ⟨_, rfl⟩
    have hnL : n = (splitL 32 L).length := by rw [hn]; unfold splitW; rw [List.length_map]
    rw [← hn]
    have HNL := Lib.hid hnL
    have HAT := Lib.hid hat
    have hn20 : n ≤ 1048577 := by
      have h1 := splitL_lt 32 L
      have h2 := HLEN.out
      rw [← hLe] at h2
      omega
    clear hn hnL hat hb1 hg HSP hLe hsz w9
    go_wp2
    go_loopw [6, 21] (fun v i wr => ∃ (k : Nat) (G : List Nat), k ≤ n ∧ i = .int .i64 k ∧ wr.ownsRow w.heap.size 22 1 v k (G.map (Value.float .f32)) ∧ wr.heap[g]? = some (.cells cs 9 (0, 0)) ∧ Below w.heap.size w wr ∧ Hid (readAll ((splitL 32 L).take k) = some G ∧ G.length = k)) (fun _ i _ => n - (RowKit.intOf i).toNat)
    case atStart => exact ⟨0, [], by omega, rfl, k0, hcs, b1, Lib.hid ⟨rfl, rfl⟩⟩
    case round =>
      clear k0 b1 hcs
      obtain ⟨k, G, hk, rfl, hown, hcs, hb, hh⟩ := hrel
      have hsz := hb.size
      have HB := Lib.hid hb
      have HCS := Lib.hid hcs
      by_cases hlt : k < n
      · have hkl : k < (splitL 32 L).length := by have := HNL.out; omega
        obtain ⟨x, hx⟩ : ∃ x, (splitL 32 L)[k]? = some x := ⟨_, List.getElem?_eq_getElem hkl⟩
        obtain ⟨X, hXe⟩ : ∃ X : ByteArray, X = ⟨x.toArray⟩ := ⟨_, rfl⟩
        have hXl : X.data.toList = x := by rw [hXe]
        have hcX : cs[k]? = some (.string X) := HAT.out k X (by unfold splitW; rw [List.getElem?_map, hx, hXe]; rfl)
        have cX : wr.cell? ⟨g, k, none⟩ = some (.string X) := (cell_of_row wr g k _ _ _ hcs).trans hcX
        have hXs : X.size ≤ 1048576 := by
          have h1 := splitL_sub (List.mem_of_getElem? hx)
          have h2 := HLEN.out
          rw [← HLE.out] at h2
          have h3 : X.size = x.length := by rw [hXe, size_of_list]
          omega
        have hR := implReadNumber X hXs wr (HLB.out.on hb (Nat.le_refl _))
        rw [hXl] at hR
        have i1 : (k : Int) < n := by omega
        cases hr : readOf x with
        | none =>
          rw [hr] at hR
          replace hR : Calls Tryd.prog 18 #[.string X] wr fun e w' => e = .returned (.tuple #[.float .f32 0, .int .i64 5]) ∧ Below wr.heap.size wr w' := hR
          have HN : Hid (numsOf t.data.toList many = none) := Lib.hid (by
            unfold numsOf
            rw [← HLE.out, readAll_none hx hr]
            rfl)
          clear hh hx hXe hXl hcX hr hown hb hcs
          go_wp2_with (go_at_call 18; with_reducible refine hR.mono ?_; rintro e w2 ⟨rfl, hb2⟩)
          go_ret2
          exact ⟨⟨_, rfl, numsEnd_none HN.out ⟨_, rfl⟩⟩, HB.out.trans (hb2.mono hsz)⟩
        | some a =>
          rw [hr] at hR
          replace hR : Calls Tryd.prog 18 #[.string X] wr fun e w' => e = .returned (.tuple #[.float .f32 a, .int .i64 0]) ∧ Below wr.heap.size wr w' := hR
          have HN : Hid (readAll ((splitL 32 L).take (k + 1)) = some (G ++ [a]) ∧ (G ++ [a]).length = k + 1) := Lib.hid ⟨by rw [readAll_take hh.out.1 hx, hr]; rfl, by simp [hh.out.2]⟩
          have HS : Hid (G.map (Value.float .f32) ++ [.float .f32 a] = (G ++ [a]).map (Value.float .f32)) := Lib.hid (by simp)
          have HO := Lib.hid hown
          clear hh hx hXe hXl hcX hr hown hb hcs
          go_wp2_with (go_at_call 18; with_reducible refine hR.mono ?_; rintro e w2 ⟨rfl, hb2⟩; refine Hid.out ?_)
          refine Lib.hid ?_
          have hown1 : w2.ownsRow w.heap.size 22 1 _ k (G.map (Value.float .f32)) := ownS_carry HO.out (fun i _ h2 => hb2.block i h2)
          have hb3 : Below w.heap.size w w2 := HB.out.trans (hb2.mono hsz)
          have hsz1 : w.heap.size ≤ w2.heap.size := hb3.size
          have hgl : g < wr.heap.size := by
            cases hlt : decide (g < wr.heap.size)
            · simp only [decide_eq_false_iff_not] at hlt
              have := HCS.out
              rw [Array.getElem?_eq_none (by omega)] at this; cases this
            · simpa using hlt
          have hcs2 : w2.heap[g]? = some (.cells cs 9 (0, 0)) := (hb2.block g hgl).trans HCS.out
          have HB3 := Lib.hid hb3
          have HCS2 := Lib.hid hcs2
          clear hR cX hb2 HB HO hb3 hcs2 HCS
          go_wp2_with (at_builtin; refine wpList_append_own _ rfl _ _ 64 rfl w.heap.size 22 i0 (.float .f32 0) 1 4 Tryd.underlying64 ih iz0 iz1 iz2 rfl (by decide) _ _ _ rfl (hown1.alloc _) ⟨w2.heap.size, 0, none⟩ 1 1 [.float .f32 a] rfl rfl ?c1 ?c2 ?c3 ?c4 ?c5 ?_)
          case c1 =>
            intro j u hj
            match j, hj with
            | 0, hj => simp at hj; subst hj; simp [Addr.add]
          case c2 => intro u hu; simp at hu; subst hu; rfl
          case c3 => unfold maxLen; omega
          case c4 => omega
          case c5 => simp; omega
          intro v' w3 hown' hgrow _
          have n5 := ownS_below hown1 (Nat.le_refl _) hsz1 HB3.out hgrow
          have n6 := ownS_keep hgrow HCS2.out (ownS_off hown1 HCS2.out (by decide))
          rw [HS.out] at hown'
          have N5 := Lib.hid n5
          have N6 := Lib.hid n6
          have NO := Lib.hid hown'
          clear n5 n6 hown' hown1 hgrow
          go_wp2
          go_roundw
          case rel => exact ⟨k + 1, G ++ [a], by omega, by first | rfl | go_num, NO.out, N6.out, N5.out, HN⟩
          case measure => simp [RowKit.intOf]; omega
      · obtain rfl : k = n := by omega
        obtain ⟨ao, cp, hv⟩ := ownS_form hown
        subst hv
        have hall : (splitL 32 L).take k = splitL 32 L := List.take_of_length_le (by rw [HNL.out]; exact Nat.le_refl _)
        have hRA : readAll (splitL 32 L) = some G := by have h := hh.out.1; rw [hall] at h; exact h
        by_cases hkm : k = many
        · have HN : Hid (numsOf t.data.toList many = some G) := Lib.hid (by
            unfold numsOf
            rw [← HLE.out, hRA]
            exact if_pos (by rw [hh.out.2, hkm]))
          have HO := Lib.hid hown
          subst hkm
          clear hh hall hRA hown hb hcs
          go_wp2
          go_ret2
          exact ⟨⟨_, rfl, numsEnd_some HN.out ⟨_, by simp, HO.out⟩⟩, HB.out⟩
        · have HN : Hid (numsOf t.data.toList many = none) := Lib.hid (by
            unfold numsOf
            rw [← HLE.out, hRA]
            exact if_neg (by rw [hh.out.2]; exact hkm))
          have hki : ((k : Int) == (many : Int)) = false := by simp; omega
          clear hh hall hRA hown hb hcs
          go_wp2
          go_ret2
          exact ⟨⟨_, rfl, numsEnd_none HN.out ⟨_, rfl⟩⟩, HB.out⟩
  · have HN : Hid (numsOf t.data.toList many = none) := Lib.hid (by
      cases h : numsOf t.data.toList many with
      | none => rfl
      | some G => have := (numsOf_len h).1; omega)
    have hq' : ¬ (t.size : Int) = 9 * (many : Int) - 1 := by omega
    have w9 : IntKind.i64.wrap (9 * (many : Int)) = 9 * (many : Int) := by rw [IntKind.wrap_i64]; omega
    have w9' : IntKind.i64.wrap (9 * (many : Int) - 1) = 9 * (many : Int) - 1 := by rw [IntKind.wrap_i64]; omega
    clear hlen hq hL hml
    go_enter Tryd.func54, Tryd.ntmps54
    go_wp2
    go_ret2
    exact ⟨⟨_, rfl, numsEnd_none HN.out ⟨_, rfl⟩⟩, Below.refl _ _⟩
end Go.Proofs.YtckcngmbbnilnaaDoor
