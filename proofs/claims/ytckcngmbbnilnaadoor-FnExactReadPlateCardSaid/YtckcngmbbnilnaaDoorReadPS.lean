/- The plate of a text, as the reference reads it. -/
import Derived.Test.YtckcngmbbnilnaaDoorReadPP
import Derived.Test.YtckcngmbbnilnaaDoorReadTS
import Derived.Test.YtckcngmbbnilnaaDoorPOk
set_option linter.unusedVariables false
set_option linter.unusedSimpArgs false
namespace Go.Proofs.YtckcngmbbnilnaaDoor
open Go.RowKit Go.Lib

theorem readPL_last {l l0 a b : List UInt8} {ls : List (List UInt8)} (hs : splitL 10 l = l0 :: ls) (hf : splitL 32 l0 = [a, b]) {x : List UInt8} (hx : (l0 :: ls)[ls.length]? = some x) (hne : x ≠ []) : readPL l = none := by
  cases ha : numOf a with
  | none => exact readPL_num hs hf (Or.inl ha)
  | some wd =>
    cases hb : numOf b with
    | none => exact readPL_num hs hf (Or.inr hb)
    | some hg =>
      refine readPL_bad hs hf ha hb fun h => hne ?_
      obtain ⟨_, _, h3, h4⟩ := h
      rw [h3, List.getElem?_cons_succ] at hx
      simpa [List.getD, hx] using h4
/-- Behind a row that is no row of parts there is no plate. -/
theorem readPL_row {l l0 a b : List UInt8} {ls : List (List UInt8)} {wd hg k : Nat} {x : List UInt8} (hs : splitL 10 l = l0 :: ls) (hf : splitL 32 l0 = [a, b]) (ha : numOf a = some wd) (hb : numOf b = some hg) (hk : k < hg) (hx : ls[k]? = some x) (h : numsOf x wd = none ∨ ∃ (r : List Nat) (j v : Nat), numsOf x wd = some r ∧ j < wd ∧ r[j]? = some v ∧ partB v = false) : readPL l = none := by
  rw [readPL_of hs hf ha hb]
  split
  · rename_i hc
    have hx2 : (ls.take hg)[k]? = some x := by rw [List.getElem?_take, if_pos hk]; exact hx
    rcases h with h | ⟨r, j, v, h1, h2, h3, h4⟩
    · rw [readRows_no hx2 h]; rfl
    · cases hr : readRows wd (ls.take hg) with
      | none => rfl
      | some G =>
        obtain ⟨r', hr', hn⟩ := (readRows_at hr).2 k x hx2
        rw [h1] at hn
        injection hn with hn
        subst hn
        show (if plateB wd hg (plF G) then _ else _) = _
        rw [plate_no (by omega) (by omega) hk h2 hr' h3 h4]
        rfl
  · rfl
theorem numsOf_short {x : List UInt8} {wd : Nat} (h : (splitL 32 x).length ≠ wd) : numsOf x wd = none := by
  cases hn : numsOf x wd with
  | none => rfl
  | some G =>
    obtain ⟨_, h1, h2⟩ := numsOf_len hn
    exact absurd (by rw [← readAll_len h2, h1]) h
theorem numsOf_none {x z : List UInt8} {wd j : Nat} (hz : (splitL 32 x)[j]? = some z) (h : readOf z = none) : numsOf x wd = none := by
  unfold numsOf
  rw [readAll_none hz h]
  rfl
theorem readAll_at : ∀ {l : List (List UInt8)} {G : List Nat}, readAll l = some G → ∀ (k : Nat) x, l[k]? = some x → ∃ a, G[k]? = some a ∧ readOf x = some a
  | [], G, h, k, x, hx => by simp at hx
  | y :: l, G, h, k, x, hx => by
    unfold readAll at h
    cases h1 : readOf y with
    | none => rw [h1] at h; simp at h
    | some a =>
      rw [h1] at h
      cases h2 : readAll l with
      | none => rw [h2] at h; simp at h
      | some R =>
        rw [h2] at h
        simp at h
        subst h
        cases k with
        | zero => simp at hx; subst hx; exact ⟨a, rfl, h1⟩
        | succ k => exact readAll_at h2 k x (by simpa using hx)
theorem numsOf_bad {x z : List UInt8} {wd j a : Nat} (hl : (splitL 32 x).length = wd) (hz : (splitL 32 x)[j]? = some z) (hr : readOf z = some a) (hp : partB a = false) : numsOf x wd = none ∨ ∃ (r : List Nat) (j v : Nat), numsOf x wd = some r ∧ j < wd ∧ r[j]? = some v ∧ partB v = false := by
  cases hn : numsOf x wd with
  | none => exact Or.inl rfl
  | some r =>
    obtain ⟨_, h1, h2⟩ := numsOf_len hn
    obtain ⟨a', e1, e2⟩ := readAll_at h2 j z hz
    rw [hr] at e2
    injection e2 with e2
    subst e2
    have := (List.getElem?_eq_some_iff.1 hz).1
    exact Or.inr ⟨r, j, a, rfl, by omega, e1, hp⟩
theorem numsOf_all {x : List UInt8} {wd : Nat} {H : List Nat} (hl : (splitL 32 x).length = wd) (h : readAll (splitL 32 x) = some H) : numsOf x wd = some H := by
  unfold numsOf
  rw [h]
  exact if_pos (by rw [readAll_len h, hl])

set_option maxHeartbeats 4000000 in
set_option maxRecDepth 100000 in
theorem specReadPlate (t : ByteArray) (hmax : t.size ≤ 1048576) (w : World) (R : Array Value) (C : Int) (hR : R = rpRow (readPL t.data.toList)) (hC : C = rpCode (readPL t.data.toList)) :
    Calls Tryd.prog 20 #[.string t] w fun e w' => e = .returned (.tuple #[.agg R, .int .i64 C]) ∧ Below w.heap.size w w' := by
  have hz : Tryd.zeroCells39 = row [.int .i8 0, .int .i8 0] 64 (fun _ => 0) := rfl
  have hlen : t.data.toList.length = t.size := by rw [Lib.size_eq]
  have hSp := fun w => specSplit t 10 hmax w
  obtain ⟨L, hL⟩ : ∃ L, L = t.data.toList := ⟨_, rfl⟩
  rw [← hL] at hR hC hlen hSp
  obtain ⟨l0, ls, hs⟩ := splitL_cons 10 L
  have hW : splitW 10 L = ⟨l0.toArray⟩ :: ls.map fun x => ⟨x.toArray⟩ := by unfold splitW; rw [hs]; rfl
  obtain ⟨X0, hX0⟩ : ∃ X0 : ByteArray, X0 = ⟨l0.toArray⟩ := ⟨_, rfl⟩
  have hX0l : X0.data.toList = l0 := by rw [hX0]
  have hsub : ∀ x, x ∈ l0 :: ls → x.length ≤ 1048576 := fun x hx => by
    have := splitL_sub (c := 10) (l := L) (x := x) (by rw [hs]; exact hx)
    omega
  have hX0s : X0.size ≤ 1048576 := by rw [hX0, size_of_list]; exact hsub l0 (by simp)
  have hSp2 := fun w => specSplit X0 32 hX0s w
  rw [hX0l] at hSp2
  rw [hW, ← hX0] at hSp
  obtain ⟨nl, hnl⟩ : ∃ nl, nl = ls.length := ⟨_, rfl⟩
  have hnl20 : nl ≤ 1048577 := by
    have h1 := splitL_lt 10 L
    rw [hs] at h1
    simp at h1
    omega
  have HLEN := Lib.hid hlen
  have HR := Lib.hid hR
  have HC := Lib.hid hC
  have HNL := Lib.hid hnl
  have HS := Lib.hid hs
  have HSUB := Lib.hid hsub
  clear hL hW hX0l hlen hR hC hs hX0s hsub
  go_enter Tryd.func20, Tryd.ntmps20
  go_wp2_with fail
  go_at_call 46
  with_reducible refine calls_args (b := #[.string t, .int .u8 ((10 : UInt8).toNat : Int)]) (by kernel_rfl) ?_
  with_reducible refine (hSp _).mono ?_
  rintro e w1 ⟨⟨v, rfl, g, cap, cs, rfl, hg, hcs, hat⟩, hb1⟩
  rw [List.length_cons, List.length_map, ← hnl]
  obtain ⟨N3, hN3⟩ : ∃ N3, N3 = nl + 1 := ⟨_, rfl⟩
  rw [← hN3]
  have hN3p : (0 : Int) < (N3 : Int) := by omega
  have hN3w : IntKind.i64.wrap ((N3 : Int) - 1) = (nl : Int) := by rw [IntKind.wrap_i64]; omega
  have hN3l : (nl : Int) < (N3 : Int) := by omega
  have HN3 := Lib.hid hN3
  clear hN3
  have c0 : w1.cell? ⟨g, 0, none⟩ = some (.string X0) := (cell_of_row w1 g 0 _ _ _ hcs).trans (hat 0 X0 rfl)
  have hatw : ∀ (k : Nat) (x : List UInt8), (l0 :: ls)[k]? = some x → cs[k]? = some (.string ⟨x.toArray⟩) := fun k x hx => hat k _ (by
    cases k with
    | zero =>
      have hx' : l0 = x := by simpa using hx
      rw [← hx', ← hX0]; rfl
    | succ k =>
      rw [List.getElem?_cons_succ] at hx
      rw [List.getElem?_cons_succ, List.getElem?_map, hx]; rfl)
  have HAT := Lib.hid hatw
  obtain ⟨lx, hlx⟩ : ∃ lx, (l0 :: ls)[ls.length]? = some lx := ⟨_, List.getElem?_eq_getElem (by simp)⟩
  have cl : w1.cell? ⟨g, nl, none⟩ = some (.string ⟨lx.toArray⟩) := (cell_of_row w1 g nl _ _ _ hcs).trans (by rw [hnl]; exact hatw _ _ hlx)
  have HLX := Lib.hid hlx
  have hz1 := hb1.size
  simp at hz1
  have hgz : w.heap.size + 1 ≤ g := by simpa using hg
  have hgl : g < w1.heap.size := World.block_lt_of_cell? _ _ c0
  have hblk1 : w1.heap[w.heap.size]? = some (.cells (plate 0 0 (fun _ => 0)) 39 (0, 0)) := blk_below hb1 (by simp) (by repeat (first | (with_reducible assumption) | ((with_reducible refine blk_new _ _ _ ?_); focus (simp; done)) | ((with_reducible refine blk_old _ _ _ ?_ ?_); focus (simp; done)) | ((with_reducible refine blk_old _ _ _ ?_ ?_); focus (first | omega | (simp; omega))) | ((with_reducible apply blk_set); focus (simp; done)) | ((with_reducible refine blk_off _ _ _ _ ?_ ?_); focus (simp; done)) | ((with_reducible refine blk_offc _ _ _ _ ?_ ?_); focus (first | (simp; done) | omega | (simp; omega))) | ((with_reducible refine blk_off _ _ _ _ ?_ ?_); focus (first | omega | (simp; omega))) | (with_reducible refine blk_drew _ _ ?_) | ((with_reducible refine blk_below (by assumption) ?_ ?_); focus (simp; done)) | ((with_reducible refine blk_below (by assumption) ?_ ?_); focus (first | omega | (simp; omega)))))
  have hbl1 : Below w.heap.size w w1 := bel_next hb1 (by simp) (Below.alloc (Below.refl _ _) (Nat.le_refl _) _)
  clear hat hSp hg hb1 hnl hatw hX0 hlx
  go_wp2_with fail
  go_at_call 46
  with_reducible refine calls_args (b := #[.string X0, .int .u8 ((32 : UInt8).toNat : Int)]) (by kernel_rfl) ?_
  with_reducible refine (hSp2 _).mono ?_
  rintro e w2 ⟨⟨v, rfl, g2, cap2, cs2, rfl, hg2, hcs2, hat2⟩, hb2⟩
  have hlN2 : (splitW 32 l0).length = (splitL 32 l0).length := by unfold splitW; rw [List.length_map]
  obtain ⟨N2, hN2⟩ : ∃ N2, N2 = (splitW 32 l0).length := ⟨_, rfl⟩
  rw [← hN2]
  have hz2 : w1.heap.size ≤ w2.heap.size := hb2.size
  have hblk2 : w2.heap[w.heap.size]? = some (.cells (plate 0 0 (fun _ => 0)) 39 (0, 0)) := blk_below hb2 (by omega) hblk1
  have hbl2 : Below w.heap.size w w2 := hbl1.trans (hb2.mono (by omega))
  have hcs' : w2.heap[g]? = some (.cells cs 9 (0, 0)) := (hb2.block g hgl).trans hcs
  have cl2 : w2.cell? ⟨g, nl, none⟩ = some (.string ⟨lx.toArray⟩) := (hb2.cell (p := ⟨g, nl, none⟩) hgl).trans cl
  by_cases hN : N2 = 2
  · obtain ⟨la, lb, hab⟩ : ∃ a b, splitL 32 l0 = [a, b] := by
      match hq : splitL 32 l0, (by omega : (splitL 32 l0).length = 2) with
      | [a, b], _ => exact ⟨a, b, rfl⟩
    subst hN
    have hWab : splitW 32 l0 = [⟨la.toArray⟩, ⟨lb.toArray⟩] := by unfold splitW; rw [hab]; rfl
    rw [hWab] at hat2
    obtain ⟨XA, hXA⟩ : ∃ X : ByteArray, X = ⟨la.toArray⟩ := ⟨_, rfl⟩
    obtain ⟨XB, hXB⟩ : ∃ X : ByteArray, X = ⟨lb.toArray⟩ := ⟨_, rfl⟩
    rw [← hXA, ← hXB] at hat2
    have d0 : w2.cell? ⟨g2, 0, none⟩ = some (.string XA) := (cell_of_row w2 g2 0 _ _ _ hcs2).trans (hat2 0 XA rfl)
    have d1 : w2.cell? ⟨g2, 1, none⟩ = some (.string XB) := (cell_of_row w2 g2 1 _ _ _ hcs2).trans (hat2 1 XB rfl)
    have hNA := fun w => specNumber XA w
    have hNB := fun w => specNumber XB w
    rw [show XA.data.toList = la by rw [hXA]] at hNA
    rw [show XB.data.toList = lb by rw [hXB]] at hNB
    have HAB := Lib.hid hab
    clear hb2 hblk1 hbl1 hcs cl c0 hat2 hcs2 hg2 hWab hXA hXB hlN2 hN2 hab hSp2 hz1
    by_cases hlast : lx = []
    · subst hlast
      replace cl2 : w2.cell? ⟨g, nl, none⟩ = some (.string ⟨#[]⟩) := cl2
      cases hna : numOf la with
      | none =>
        rw [hna] at hNA
        replace hNA : ∀ w, Calls Tryd.prog 47 #[.string XA] w fun e w' => e = .returned (.tuple #[.int .i64 0, .bool false]) ∧ w = w' := hNA
        obtain ⟨kb, bb, hV⟩ : ∃ (k : Int) (b : Bool), numEnd (numOf lb) = .tuple #[.int .i64 k, .bool b] := by
          cases numOf lb with
          | none => exact ⟨0, false, rfl⟩
          | some k => exact ⟨k, true, rfl⟩
        simp only [hV] at hNB
        clear hV
        have HF : Hid (R = plate 0 0 (fun _ => 0) ∧ C = 5) := Lib.hid (by rw [HR.out, HC.out, readPL_num HS.out HAB.out (Or.inl hna)]; exact ⟨rfl, rfl⟩)
        clear hna
        go_wp2_with (first | (go_at_call 47; with_reducible refine (hNA _).mono ?_; rintro e w9 ⟨rfl, rfl⟩) | (go_at_call 47; with_reducible refine (hNB _).mono ?_; rintro e w9 ⟨rfl, rfl⟩) | ((with_reducible refine at_store 39 ?_); refine wpList_store_part rfl 39 _ _ rfl _ 0 _ rfl rfl _ _ (by repeat (first | (with_reducible assumption) | ((with_reducible refine blk_new _ _ _ ?_); focus (simp; done)) | ((with_reducible refine blk_old _ _ _ ?_ ?_); focus (simp; done)) | ((with_reducible refine blk_old _ _ _ ?_ ?_); focus (first | omega | (simp; omega))) | ((with_reducible apply blk_set); focus (simp; done)) | ((with_reducible refine blk_off _ _ _ _ ?_ ?_); focus (simp; done)) | ((with_reducible refine blk_offc _ _ _ _ ?_ ?_); focus (first | (simp; done) | omega | (simp; omega))) | ((with_reducible refine blk_off _ _ _ _ ?_ ?_); focus (first | omega | (simp; omega))) | (with_reducible refine blk_drew _ _ ?_) | ((with_reducible refine blk_below (by assumption) ?_ ?_); focus (simp; done)) | ((with_reducible refine blk_below (by assumption) ?_ ?_); focus (first | omega | (simp; omega))))) (by rw [row_size]; kernel_rfl) (by simp [row_size]) (row_cells _ _ _ rfl) _ (row_over _ _ 64 _ _ (by simp)) ?_))
        refine bodyPost_ret (v := .tuple #[.agg (plate 0 0 (fun _ => 0)), .int .i64 5]) ?_ ?_ ?_
        · refine results_row_tmp Tryd.results20 _ _ _ 39 (plate 0 0 (fun _ => 0)) (0, 0) _ _ rfl rfl ?_ Tryd.underlying39 rfl (by simp only [row_size]; kernel_rfl)
          exact (by repeat (first | (with_reducible assumption) | ((with_reducible refine blk_new _ _ _ ?_); focus (simp; done)) | ((with_reducible refine blk_old _ _ _ ?_ ?_); focus (simp; done)) | ((with_reducible refine blk_old _ _ _ ?_ ?_); focus (first | omega | (simp; omega))) | ((with_reducible apply blk_set); focus (simp; done)) | ((with_reducible refine blk_off _ _ _ _ ?_ ?_); focus (simp; done)) | ((with_reducible refine blk_offc _ _ _ _ ?_ ?_); focus (first | (simp; done) | omega | (simp; omega))) | ((with_reducible refine blk_off _ _ _ _ ?_ ?_); focus (first | omega | (simp; omega))) | (with_reducible refine blk_drew _ _ ?_) | ((with_reducible refine blk_below (by assumption) ?_ ?_); focus (simp; done)) | ((with_reducible refine blk_below (by assumption) ?_ ?_); focus (first | omega | (simp; omega)))))
        · rfl
        · exact ⟨by (rw [HF.out.1, HF.out.2] <;> rfl), (by repeat (first | (with_reducible assumption) | (with_reducible exact Below.refl _ _) | ((with_reducible refine bel_alloc _ ?_ ?_); focus (first | omega | (simp; done) | (simp; omega))) | ((with_reducible refine bel_row _ ?_ ?_); focus (first | omega | (simp; done) | (simp; omega))) | ((with_reducible refine bel_cell _ ?_ ?_); focus (first | omega | (simp; done) | (simp; omega))) | (with_reducible refine Below.drew ?_) | (with_reducible refine below_wideW _ ?_) | ((with_reducible refine bel_next (by assumption) ?_ ?_); focus (first | omega | (simp; done) | (simp; omega)))))⟩
      | some wd =>
        rw [hna] at hNA
        replace hNA : ∀ w, Calls Tryd.prog 47 #[.string XA] w fun e w' => e = .returned (.tuple #[.int .i64 wd, .bool true]) ∧ w = w' := hNA
        cases hnb : numOf lb with
        | none =>
          rw [hnb] at hNB
          replace hNB : ∀ w, Calls Tryd.prog 47 #[.string XB] w fun e w' => e = .returned (.tuple #[.int .i64 0, .bool false]) ∧ w = w' := hNB
          have HF : Hid (R = plate 0 0 (fun _ => 0) ∧ C = 5) := Lib.hid (by rw [HR.out, HC.out, readPL_num HS.out HAB.out (Or.inr hnb)]; exact ⟨rfl, rfl⟩)
          clear hna hnb
          go_wp2_with (first | (go_at_call 47; with_reducible refine (hNA _).mono ?_; rintro e w9 ⟨rfl, rfl⟩) | (go_at_call 47; with_reducible refine (hNB _).mono ?_; rintro e w9 ⟨rfl, rfl⟩) | ((with_reducible refine at_store 39 ?_); refine wpList_store_part rfl 39 _ _ rfl _ 0 _ rfl rfl _ _ (by repeat (first | (with_reducible assumption) | ((with_reducible refine blk_new _ _ _ ?_); focus (simp; done)) | ((with_reducible refine blk_old _ _ _ ?_ ?_); focus (simp; done)) | ((with_reducible refine blk_old _ _ _ ?_ ?_); focus (first | omega | (simp; omega))) | ((with_reducible apply blk_set); focus (simp; done)) | ((with_reducible refine blk_off _ _ _ _ ?_ ?_); focus (simp; done)) | ((with_reducible refine blk_offc _ _ _ _ ?_ ?_); focus (first | (simp; done) | omega | (simp; omega))) | ((with_reducible refine blk_off _ _ _ _ ?_ ?_); focus (first | omega | (simp; omega))) | (with_reducible refine blk_drew _ _ ?_) | ((with_reducible refine blk_below (by assumption) ?_ ?_); focus (simp; done)) | ((with_reducible refine blk_below (by assumption) ?_ ?_); focus (first | omega | (simp; omega))))) (by rw [row_size]; kernel_rfl) (by simp [row_size]) (row_cells _ _ _ rfl) _ (row_over _ _ 64 _ _ (by simp)) ?_))
          refine bodyPost_ret (v := .tuple #[.agg (plate 0 0 (fun _ => 0)), .int .i64 5]) ?_ ?_ ?_
          · refine results_row_tmp Tryd.results20 _ _ _ 39 (plate 0 0 (fun _ => 0)) (0, 0) _ _ rfl rfl ?_ Tryd.underlying39 rfl (by simp only [row_size]; kernel_rfl)
            exact (by repeat (first | (with_reducible assumption) | ((with_reducible refine blk_new _ _ _ ?_); focus (simp; done)) | ((with_reducible refine blk_old _ _ _ ?_ ?_); focus (simp; done)) | ((with_reducible refine blk_old _ _ _ ?_ ?_); focus (first | omega | (simp; omega))) | ((with_reducible apply blk_set); focus (simp; done)) | ((with_reducible refine blk_off _ _ _ _ ?_ ?_); focus (simp; done)) | ((with_reducible refine blk_offc _ _ _ _ ?_ ?_); focus (first | (simp; done) | omega | (simp; omega))) | ((with_reducible refine blk_off _ _ _ _ ?_ ?_); focus (first | omega | (simp; omega))) | (with_reducible refine blk_drew _ _ ?_) | ((with_reducible refine blk_below (by assumption) ?_ ?_); focus (simp; done)) | ((with_reducible refine blk_below (by assumption) ?_ ?_); focus (first | omega | (simp; omega)))))
          · rfl
          · exact ⟨by (rw [HF.out.1, HF.out.2] <;> rfl), (by repeat (first | (with_reducible assumption) | (with_reducible exact Below.refl _ _) | ((with_reducible refine bel_alloc _ ?_ ?_); focus (first | omega | (simp; done) | (simp; omega))) | ((with_reducible refine bel_row _ ?_ ?_); focus (first | omega | (simp; done) | (simp; omega))) | ((with_reducible refine bel_cell _ ?_ ?_); focus (first | omega | (simp; done) | (simp; omega))) | (with_reducible refine Below.drew ?_) | (with_reducible refine below_wideW _ ?_) | ((with_reducible refine bel_next (by assumption) ?_ ?_); focus (first | omega | (simp; done) | (simp; omega)))))⟩
        | some hg =>
          rw [hnb] at hNB
          replace hNB : ∀ w, Calls Tryd.prog 47 #[.string XB] w fun e w' => e = .returned (.tuple #[.int .i64 hg, .bool true]) ∧ w = w' := hNB
          have hIW := fun w => specIn_any (wd : Int) 1 8 w
          have hIH := fun w => specIn_any (hg : Int) 1 8 w
          by_cases hw8 : 1 ≤ wd ∧ wd < 9
          · rw [show inB (wd : Int) 1 8 = true by unfold inB; simp; omega] at hIW
            by_cases hh8 : 1 ≤ hg ∧ hg < 9
            · rw [show inB (hg : Int) 1 8 = true by unfold inB; simp; omega] at hIH
              have hw2 : IntKind.i64.wrap ((hg : Int) + 2) = (hg : Int) + 2 := by rw [IntKind.wrap_i64]; omega
              by_cases hnum : nl = hg + 1
              · subst hnum
                have hN3i : (N3 : Int) = (hg : Int) + 2 := by have := HN3.out; omega
                have hw8w : IntKind.i8.wrap (wd : Int) = wd := by simp [IntKind.wrap, IntKind.signed, IntKind.bits]; omega
                have hw8h : IntKind.i8.wrap (hg : Int) = hg := by simp [IntKind.wrap, IntKind.signed, IntKind.bits]; omega
                have hW9 : wd < 9 := hw8.2
                have hH9 : hg < 9 := hh8.2
                have HW8 := Lib.hid hw8
                have HH8 := Lib.hid hh8
                have HNA := Lib.hid hna
                have HNB := Lib.hid hnb
                clear hna hnb hw8 hh8
                go_wp2_with (first | (go_at_call 47; with_reducible refine (hNA _).mono ?_; rintro e w9 ⟨rfl, rfl⟩) | (go_at_call 47; with_reducible refine (hNB _).mono ?_; rintro e w9 ⟨rfl, rfl⟩) | (go_at_call 48; with_reducible refine (hIW _).mono ?_; rintro e w9 ⟨rfl, rfl⟩) | (go_at_call 48; with_reducible refine (hIH _).mono ?_; rintro e w9 ⟨rfl, rfl⟩) | ((with_reducible refine at_store 39 ?_); refine wpList_store_part rfl 39 _ _ rfl _ 0 _ rfl rfl _ _ (by repeat (first | (with_reducible assumption) | ((with_reducible refine blk_new _ _ _ ?_); focus (simp; done)) | ((with_reducible refine blk_old _ _ _ ?_ ?_); focus (simp; done)) | ((with_reducible refine blk_old _ _ _ ?_ ?_); focus (first | omega | (simp; omega))) | ((with_reducible apply blk_set); focus (simp; done)) | ((with_reducible refine blk_off _ _ _ _ ?_ ?_); focus (simp; done)) | ((with_reducible refine blk_offc _ _ _ _ ?_ ?_); focus (first | (simp; done) | omega | (simp; omega))) | ((with_reducible refine blk_off _ _ _ _ ?_ ?_); focus (first | omega | (simp; omega))) | (with_reducible refine blk_drew _ _ ?_) | ((with_reducible refine blk_below (by assumption) ?_ ?_); focus (simp; done)) | ((with_reducible refine blk_below (by assumption) ?_ ?_); focus (first | omega | (simp; omega))))) (by rw [row_size]; kernel_rfl) (by simp [row_size]) (row_cells _ _ _ rfl) _ (row_over _ _ 64 _ _ (by simp)) ?_))
                have hbN : Below w.heap.size w w2 := hbl2
                refine wp_nm (S := fun W => W.heap[w.heap.size]? = some (.cells (plate 0 0 (fun _ => 0)) 39 (0, 0)) ∧ W.heap[w2.heap.size]? = some (.cells (plate wd hg (fun _ => 0)) 39 (0, 0)) ∧ W.heap[g]? = some (.cells cs 9 (0, 0)) ∧ Below w.heap.size w W ∧ w2.heap.size + 1 ≤ W.heap.size) ⟨(by repeat (first | (with_reducible assumption) | ((with_reducible refine blk_new _ _ _ ?_); focus (simp; done)) | ((with_reducible refine blk_old _ _ _ ?_ ?_); focus (simp; done)) | ((with_reducible refine blk_old _ _ _ ?_ ?_); focus (first | omega | (simp; omega))) | ((with_reducible apply blk_set); focus (simp; done)) | ((with_reducible refine blk_off _ _ _ _ ?_ ?_); focus (simp; done)) | ((with_reducible refine blk_offc _ _ _ _ ?_ ?_); focus (first | (simp; done) | omega | (simp; omega))) | ((with_reducible refine blk_off _ _ _ _ ?_ ?_); focus (first | omega | (simp; omega))) | (with_reducible refine blk_drew _ _ ?_) | ((with_reducible refine blk_below (by assumption) ?_ ?_); focus (simp; done)) | ((with_reducible refine blk_below (by assumption) ?_ ?_); focus (first | omega | (simp; omega))))), (by repeat (first | (with_reducible assumption) | ((with_reducible refine blk_new _ _ _ ?_); focus (simp; done)) | ((with_reducible refine blk_old _ _ _ ?_ ?_); focus (simp; done)) | ((with_reducible refine blk_old _ _ _ ?_ ?_); focus (first | omega | (simp; omega))) | ((with_reducible apply blk_set); focus (simp; done)) | ((with_reducible refine blk_off _ _ _ _ ?_ ?_); focus (simp; done)) | ((with_reducible refine blk_offc _ _ _ _ ?_ ?_); focus (first | (simp; done) | omega | (simp; omega))) | ((with_reducible refine blk_off _ _ _ _ ?_ ?_); focus (first | omega | (simp; omega))) | (with_reducible refine blk_drew _ _ ?_) | ((with_reducible refine blk_below (by assumption) ?_ ?_); focus (simp; done)) | ((with_reducible refine blk_below (by assumption) ?_ ?_); focus (first | omega | (simp; omega))))), (by repeat (first | (with_reducible assumption) | ((with_reducible refine blk_new _ _ _ ?_); focus (simp; done)) | ((with_reducible refine blk_old _ _ _ ?_ ?_); focus (simp; done)) | ((with_reducible refine blk_old _ _ _ ?_ ?_); focus (first | omega | (simp; omega))) | ((with_reducible apply blk_set); focus (simp; done)) | ((with_reducible refine blk_off _ _ _ _ ?_ ?_); focus (simp; done)) | ((with_reducible refine blk_offc _ _ _ _ ?_ ?_); focus (first | (simp; done) | omega | (simp; omega))) | ((with_reducible refine blk_off _ _ _ _ ?_ ?_); focus (first | omega | (simp; omega))) | (with_reducible refine blk_drew _ _ ?_) | ((with_reducible refine blk_below (by assumption) ?_ ?_); focus (simp; done)) | ((with_reducible refine blk_below (by assumption) ?_ ?_); focus (first | omega | (simp; omega))))), (by repeat (first | (with_reducible assumption) | (with_reducible exact Below.refl _ _) | ((with_reducible refine bel_alloc _ ?_ ?_); focus (first | omega | (simp; done) | (simp; omega))) | ((with_reducible refine bel_row _ ?_ ?_); focus (first | omega | (simp; done) | (simp; omega))) | ((with_reducible refine bel_cell _ ?_ ?_); focus (first | omega | (simp; done) | (simp; omega))) | (with_reducible refine Below.drew ?_) | (with_reducible refine below_wideW _ ?_) | ((with_reducible refine bel_next (by assumption) ?_ ?_); focus (first | omega | (simp; done) | (simp; omega))))), (by first | omega | (simp; done) | (simp; omega) | (simp at *; omega))⟩ ?_
                rintro W ⟨e1, e2, e3, e4, e5⟩
                obtain ⟨b7, hb7⟩ : ∃ b7, b7 = w2.heap.size := ⟨_, rfl⟩
                have hgb : g < b7 := by omega
                have hwb : w.heap.size < b7 := by omega
                rw [← hb7] at e2 e5 ⊢
                replace e2 : W.heap[b7]? = some (.cells (plate wd hg (plF [])) 39 (0, 0)) := by rw [plF_zero]; exact e2
                clear hbN hbl2 hblk2 hcs' hb7 hz2 cl2 d0 d1 hNA hNB hIW hIH
                go_loopw [11] (fun vi wr => ∃ (k : Nat) (G : List (List Nat)), k ≤ hg ∧ vi = .int .i64 k ∧ wr.heap[w.heap.size]? = some (.cells (plate 0 0 (fun _ => 0)) 39 (0, 0)) ∧ wr.heap[b7]? = some (.cells (plate wd hg (plF G)) 39 (0, 0)) ∧ wr.heap[g]? = some (.cells cs 9 (0, 0)) ∧ Below w.heap.size w wr ∧ b7 + 1 ≤ wr.heap.size ∧ Hid (readRows wd (ls.take k) = some G ∧ G.length = k ∧ ∀ r ∈ G, r.length = wd ∧ ∀ v ∈ r, partB v = true)) (fun vi _ => 9 - (RowKit.intOf vi).toNat)
                case atStart => exact ⟨0, [], by omega, rfl, e1, e2, e3, e4, e5, Lib.hid ⟨rfl, rfl, fun r hr => nomatch hr⟩⟩
                case round =>
                  clear e1 e2 e3 e4 e5
                  obtain ⟨k, G, hk, rfl, e1, e2, e3, e4, e5, hh⟩ := hrel
                  have wk1 : IntKind.i64.wrap ((k : Int) + 1) = (k : Int) + 1 := by rw [IntKind.wrap_i64]; omega
                  by_cases hlt : k < hg
                  · have hkl : k < ls.length := by have := HNL.out; omega
                    obtain ⟨x, hx⟩ : ∃ x, ls[k]? = some x := ⟨_, List.getElem?_eq_getElem hkl⟩
                    obtain ⟨X, hXe⟩ : ∃ X : ByteArray, X = ⟨x.toArray⟩ := ⟨_, rfl⟩
                    have hXl : X.data.toList = x := by rw [hXe]
                    have hXs : X.size ≤ 1048576 := by rw [hXe, size_of_list]; exact HSUB.out x (by simp [List.mem_of_getElem? hx])
                    have cX : wr.cell? ⟨g, k + 1, none⟩ = some (.string X) := (cell_of_row wr g (k + 1) _ _ _ e3).trans (by rw [hXe]; exact HAT.out (k + 1) x (by simpa using hx))
                    have hSpX := specSplit X 32 hXs
                    rw [hXl] at hSpX
                    have HX := Lib.hid hx
                    have i1 : (k : Int) + 1 < (hg : Int) + 2 := by omega
                    have i2 : (k : Int) < (hg : Int) := by omega
                    have hgw : g < wr.heap.size := World.block_lt_of_cell? _ _ cX
                    clear hx hXe hXl hXs hkl
                    go_wp2_with fail
                    with_reducible refine calls_args (b := #[.string X, .int .u8 ((32 : UInt8).toNat : Int)]) (by kernel_rfl) ?_
                    with_reducible refine (hSpX _).mono ?_
                    rintro e w3 ⟨⟨v, rfl, g3, cap3, cs3, rfl, hg3, hcs3, hat3⟩, hb3⟩
                    have hz3 : wr.heap.size ≤ w3.heap.size := hb3.size
                    have f1 : w3.heap[w.heap.size]? = some (.cells (plate 0 0 (fun _ => 0)) 39 (0, 0)) := blk_below hb3 (by omega) e1
                    have f2 : w3.heap[b7]? = some (.cells (plate wd hg (plF (G ++ [[]]))) 39 (0, 0)) := by rw [plF_nil]; exact blk_below hb3 (by omega) e2
                    have f3 : w3.heap[g]? = some (.cells cs 9 (0, 0)) := blk_below hb3 (by omega) e3
                    have f4 : Below w.heap.size w w3 := e4.trans (hb3.mono (by omega))
                    have f5 : g3 < w3.heap.size := (Array.getElem?_eq_some_iff.1 hcs3).1
                    have hlN : (splitW 32 x).length = (splitL 32 x).length := by unfold splitW; rw [List.length_map]
                    obtain ⟨n3, hn3⟩ : ∃ n, n = (splitW 32 x).length := ⟨_, rfl⟩
                    have hat4 : ∀ (j : Nat) (z : List UInt8), (splitL 32 x)[j]? = some z → cs3[j]? = some (.string ⟨z.toArray⟩) := fun j z hz => hat3 j _ (by unfold splitW; rw [List.getElem?_map, hz]; rfl)
                    rw [← hn3]
                    have HAT4 := Lib.hid hat4
                    have hgg3 : b7 < g3 := by omega
                    clear hat3 hat4 e1 e2 e3 e4 hb3 hSpX cX
                    by_cases hnw : n3 = wd
                    · have HLN : Hid ((splitL 32 x).length = wd) := Lib.hid (by rw [← hlN, ← hn3, hnw])
                      subst hnw
                      clear hn3 hlN
                      go_wp2
                      go_loopw [13] (fun vx wx => ∃ (j : Nat) (H : List Nat), j ≤ n3 ∧ vx = .int .i64 j ∧ wx.heap[w.heap.size]? = some (.cells (plate 0 0 (fun _ => 0)) 39 (0, 0)) ∧ wx.heap[b7]? = some (.cells (plate n3 hg (plF (G ++ [H]))) 39 (0, 0)) ∧ wx.heap[g]? = some (.cells cs 9 (0, 0)) ∧ wx.heap[g3]? = some (.cells cs3 9 (0, 0)) ∧ Below w.heap.size w wx ∧ g3 + 1 ≤ wx.heap.size ∧ Hid (readAll ((splitL 32 x).take j) = some H ∧ H.length = j ∧ ∀ v ∈ H, partB v = true)) (fun vx _ => 9 - (RowKit.intOf vx).toNat)
                      case atStart => exact ⟨0, [], by omega, rfl, f1, f2, f3, hcs3, f4, by omega, Lib.hid ⟨rfl, rfl, fun r hr => nomatch hr⟩⟩
                      case round =>
                        clear f1 f2 f3 f4 hcs3
                        obtain ⟨j, H, hj, rfl, e1, e2, e3, e4, e6, e7, hi⟩ := hrel
                        by_cases hjt : j < n3
                        · obtain ⟨z, hz⟩ : ∃ z, (splitL 32 x)[j]? = some z := ⟨_, List.getElem?_eq_getElem (by rw [HLN.out]; exact hjt)⟩
                          obtain ⟨Z, hZe⟩ : ∃ Z : ByteArray, Z = ⟨z.toArray⟩ := ⟨_, rfl⟩
                          have hZl : Z.data.toList = z := by rw [hZe]
                          have cZ : wr.cell? ⟨g3, j, none⟩ = some (.string Z) := (cell_of_row wr g3 j _ _ _ e4).trans (by rw [hZe]; exact HAT4.out j z hz)
                          have hRd := fun w => specRead Z w
                          rw [hZl] at hRd
                          have j2 : (j : Int) < (n3 : Int) := by omega
                          cases hr : readOf z with
                          | none =>
                            rw [hr] at hRd
                            have hR' : ∀ w, Calls Tryd.prog 43 #[.string Z] w fun e w' => (∃ y, e = .returned (.tuple #[.float .f32 y, .bool false])) ∧ w = w' := fun w => (hRd w).mono fun e w' ⟨⟨v, h1, y, h2⟩, h3⟩ => ⟨⟨y, by rw [h1]; exact congrArg _ h2⟩, h3⟩
                            have HF : Hid (R = plate 0 0 (fun _ => 0) ∧ C = 5) := Lib.hid (by rw [HR.out, HC.out, readPL_row HS.out HAB.out HNA.out HNB.out hlt HX.out (Or.inl (numsOf_none hz hr))]; exact ⟨rfl, rfl⟩)
                            clear hi hz hZe hZl hr hRd hh
                            go_wp2_with (first | (go_at_call 43; with_reducible refine (hR' _).mono ?_; rintro e w9 ⟨⟨y, rfl⟩, rfl⟩) | ((with_reducible refine at_store 39 ?_); refine wpList_store_part rfl 39 _ _ rfl _ 0 _ rfl rfl _ _ (by repeat (first | (with_reducible assumption) | ((with_reducible refine blk_new _ _ _ ?_); focus (simp; done)) | ((with_reducible refine blk_old _ _ _ ?_ ?_); focus (simp; done)) | ((with_reducible refine blk_old _ _ _ ?_ ?_); focus (first | omega | (simp; omega))) | ((with_reducible apply blk_set); focus (simp; done)) | ((with_reducible refine blk_off _ _ _ _ ?_ ?_); focus (simp; done)) | ((with_reducible refine blk_offc _ _ _ _ ?_ ?_); focus (first | (simp; done) | omega | (simp; omega))) | ((with_reducible refine blk_off _ _ _ _ ?_ ?_); focus (first | omega | (simp; omega))) | (with_reducible refine blk_drew _ _ ?_) | ((with_reducible refine blk_below (by assumption) ?_ ?_); focus (simp; done)) | ((with_reducible refine blk_below (by assumption) ?_ ?_); focus (first | omega | (simp; omega))))) (by rw [row_size]; kernel_rfl) (by simp [row_size]) (row_cells _ _ _ rfl) _ (row_over _ _ 64 _ _ (by simp)) ?_))
                            refine bodyPost_ret (v := .tuple #[.agg (plate 0 0 (fun _ => 0)), .int .i64 5]) ?_ ?_ ?_
                            · refine results_row_tmp Tryd.results20 _ _ _ 39 (plate 0 0 (fun _ => 0)) (0, 0) _ _ rfl rfl ?_ Tryd.underlying39 rfl (by simp only [row_size]; kernel_rfl)
                              exact (by repeat (first | (with_reducible assumption) | ((with_reducible refine blk_new _ _ _ ?_); focus (simp; done)) | ((with_reducible refine blk_old _ _ _ ?_ ?_); focus (simp; done)) | ((with_reducible refine blk_old _ _ _ ?_ ?_); focus (first | omega | (simp; omega))) | ((with_reducible apply blk_set); focus (simp; done)) | ((with_reducible refine blk_off _ _ _ _ ?_ ?_); focus (simp; done)) | ((with_reducible refine blk_offc _ _ _ _ ?_ ?_); focus (first | (simp; done) | omega | (simp; omega))) | ((with_reducible refine blk_off _ _ _ _ ?_ ?_); focus (first | omega | (simp; omega))) | (with_reducible refine blk_drew _ _ ?_) | ((with_reducible refine blk_below (by assumption) ?_ ?_); focus (simp; done)) | ((with_reducible refine blk_below (by assumption) ?_ ?_); focus (first | omega | (simp; omega)))))
                            · rfl
                            · exact ⟨by (rw [HF.out.1, HF.out.2] <;> rfl), (by repeat (first | (with_reducible assumption) | (with_reducible exact Below.refl _ _) | ((with_reducible refine bel_alloc _ ?_ ?_); focus (first | omega | (simp; done) | (simp; omega))) | ((with_reducible refine bel_row _ ?_ ?_); focus (first | omega | (simp; done) | (simp; omega))) | ((with_reducible refine bel_cell _ ?_ ?_); focus (first | omega | (simp; done) | (simp; omega))) | (with_reducible refine Below.drew ?_) | (with_reducible refine below_wideW _ ?_) | ((with_reducible refine bel_next (by assumption) ?_ ?_); focus (first | omega | (simp; done) | (simp; omega)))))⟩
                          | some a =>
                            rw [hr] at hRd
                            have hR' : ∀ w, Calls Tryd.prog 43 #[.string Z] w fun e w' => e = .returned (.tuple #[.float .f32 a, .bool true]) ∧ w = w' := fun w => (hRd w).mono fun e w' ⟨⟨v, h1, h2⟩, h3⟩ => ⟨by rw [h1]; exact congrArg _ h2, h3⟩
                            have hPa := fun w => specPart_any a w
                            cases hp : partB a with
                            | false =>
                              rw [hp] at hPa
                              have HF : Hid (R = plate 0 0 (fun _ => 0) ∧ C = 5) := Lib.hid (by rw [HR.out, HC.out, readPL_row HS.out HAB.out HNA.out HNB.out hlt HX.out (numsOf_bad HLN.out hz hr hp)]; exact ⟨rfl, rfl⟩)
                              clear hi hz hZe hZl hr hRd hh hp
                              go_wp2_with (first | (go_at_call 43; with_reducible refine (hR' _).mono ?_; rintro e w9 ⟨rfl, rfl⟩) | (go_at_call 49; with_reducible refine (hPa _).mono ?_; rintro e w9 ⟨rfl, rfl⟩) | ((with_reducible refine at_store 39 ?_); refine wpList_store_part rfl 39 _ _ rfl _ 0 _ rfl rfl _ _ (by repeat (first | (with_reducible assumption) | ((with_reducible refine blk_new _ _ _ ?_); focus (simp; done)) | ((with_reducible refine blk_old _ _ _ ?_ ?_); focus (simp; done)) | ((with_reducible refine blk_old _ _ _ ?_ ?_); focus (first | omega | (simp; omega))) | ((with_reducible apply blk_set); focus (simp; done)) | ((with_reducible refine blk_off _ _ _ _ ?_ ?_); focus (simp; done)) | ((with_reducible refine blk_offc _ _ _ _ ?_ ?_); focus (first | (simp; done) | omega | (simp; omega))) | ((with_reducible refine blk_off _ _ _ _ ?_ ?_); focus (first | omega | (simp; omega))) | (with_reducible refine blk_drew _ _ ?_) | ((with_reducible refine blk_below (by assumption) ?_ ?_); focus (simp; done)) | ((with_reducible refine blk_below (by assumption) ?_ ?_); focus (first | omega | (simp; omega))))) (by rw [row_size]; kernel_rfl) (by simp [row_size]) (row_cells _ _ _ rfl) _ (row_over _ _ 64 _ _ (by simp)) ?_))
                              refine bodyPost_ret (v := .tuple #[.agg (plate 0 0 (fun _ => 0)), .int .i64 5]) ?_ ?_ ?_
                              · refine results_row_tmp Tryd.results20 _ _ _ 39 (plate 0 0 (fun _ => 0)) (0, 0) _ _ rfl rfl ?_ Tryd.underlying39 rfl (by simp only [row_size]; kernel_rfl)
                                exact (by repeat (first | (with_reducible assumption) | ((with_reducible refine blk_new _ _ _ ?_); focus (simp; done)) | ((with_reducible refine blk_old _ _ _ ?_ ?_); focus (simp; done)) | ((with_reducible refine blk_old _ _ _ ?_ ?_); focus (first | omega | (simp; omega))) | ((with_reducible apply blk_set); focus (simp; done)) | ((with_reducible refine blk_off _ _ _ _ ?_ ?_); focus (simp; done)) | ((with_reducible refine blk_offc _ _ _ _ ?_ ?_); focus (first | (simp; done) | omega | (simp; omega))) | ((with_reducible refine blk_off _ _ _ _ ?_ ?_); focus (first | omega | (simp; omega))) | (with_reducible refine blk_drew _ _ ?_) | ((with_reducible refine blk_below (by assumption) ?_ ?_); focus (simp; done)) | ((with_reducible refine blk_below (by assumption) ?_ ?_); focus (first | omega | (simp; omega)))))
                              · rfl
                              · exact ⟨by (rw [HF.out.1, HF.out.2] <;> rfl), (by repeat (first | (with_reducible assumption) | (with_reducible exact Below.refl _ _) | ((with_reducible refine bel_alloc _ ?_ ?_); focus (first | omega | (simp; done) | (simp; omega))) | ((with_reducible refine bel_row _ ?_ ?_); focus (first | omega | (simp; done) | (simp; omega))) | ((with_reducible refine bel_cell _ ?_ ?_); focus (first | omega | (simp; done) | (simp; omega))) | (with_reducible refine Below.drew ?_) | (with_reducible refine below_wideW _ ?_) | ((with_reducible refine bel_next (by assumption) ?_ ?_); focus (first | omega | (simp; done) | (simp; omega)))))⟩
                            | true =>
                              rw [hp] at hPa
                              have HN2 : Hid (readAll ((splitL 32 x).take (j + 1)) = some (H ++ [a]) ∧ (H ++ [a]).length = j + 1 ∧ ∀ v ∈ H ++ [a], partB v = true) := Lib.hid ⟨by rw [readAll_take hi.out.1 hz, hr]; rfl, by simp [hi.out.2.1], fun v hv => by
                                rcases List.mem_append.1 hv with h | h
                                · exact hi.out.2.2 v h
                                · rw [List.mem_singleton.1 h]; exact hp⟩
                              have h1 : (plate n3 hg (plF (G ++ [H]))).setIfInBounds (2 + (j + 8 * k)) (.float .f32 a) = plate n3 hg (plF (G ++ [H ++ [a]])) := by
                                have := plF_snoc G H a (by rw [hi.out.2.1]; omega)
                                rw [hi.out.2.1, hh.out.2.1] at this
                                rw [this]
                                exact row_set (ppre n3 hg) 64 _ (by omega)
                              have cB : wr.cell? ⟨b7, 2 + (j + 8 * k), none⟩ = some (.float .f32 (plF (G ++ [H]) (j + 8 * k))) := (cell_of_row wr b7 _ _ _ _ e2).trans (row_k2 _ _ _ _ (by omega))
                              have fB : wr.frozen? ⟨b7, 2 + (j + 8 * k), none⟩ = false := frozen_of_row wr _ _ _ _ e2
                              have E2' : Hid ((wr.setCell ⟨b7, 2 + (j + 8 * k), none⟩ (.float .f32 a)).heap[b7]? = some (.cells (plate n3 hg (plF (G ++ [H ++ [a]]))) 39 (0, 0))) := Lib.hid ((blk_ownc _ e2).trans (by rw [h1]))
                              have E1 := Lib.hid e1
                              have E3 := Lib.hid e3
                              have E4 := Lib.hid e4
                              have E6 := Lib.hid e6
                              have wm : IntKind.i64.wrap (8 * (k : Int)) = 8 * (k : Int) := by rw [IntKind.wrap_i64]; omega
                              have wa : IntKind.i64.wrap ((j : Int) + 8 * (k : Int)) = (j : Int) + 8 * (k : Int) := by rw [IntKind.wrap_i64]; omega
                              have wj : IntKind.i64.wrap ((j : Int) + 1) = (j : Int) + 1 := by rw [IntKind.wrap_i64]; omega
                              have t1 : ((j : Int) + 8 * (k : Int)).toNat = j + 8 * k := by omega
                              have q0 : (0 : Int) ≤ (j : Int) + 8 * (k : Int) := by omega
                              have q1 : (j : Int) + 8 * (k : Int) < 64 := by omega
                              have q2 : j + 8 * k < 64 := by omega
                              clear hi hz hZe hZl hr hRd hh hp h1 e1 e2 e3 e4 e6
                              go_wp2_with (first | (go_at_call 43; with_reducible refine (hR' _).mono ?_; rintro e w9 ⟨rfl, rfl⟩) | (go_at_call 49; with_reducible refine (hPa _).mono ?_; rintro e w9 ⟨rfl, rfl⟩))
                              refine ⟨⟨j + 1, H ++ [a], by omega, by (first | rfl | (simp; done) | (simp; omega)), blk_offc _ _ _ _ (by simp; omega) E1.out, E2'.out, blk_offc _ _ _ _ (by simp; omega) E3.out, blk_offc _ _ _ _ (by simp; omega) E4.out, bel_cell _ (by simp; omega) E6.out, (by simp; omega), HN2⟩, ?_⟩
                              simp [RowKit.intOf]
                              try omega
                        · obtain rfl : j = n3 := by omega
                          have j2 : ¬ ((j : Int) < (j : Int)) := by omega
                          have HN2 : Hid (readRows j (ls.take (k + 1)) = some (G ++ [H]) ∧ (G ++ [H]).length = k + 1 ∧ ∀ r ∈ G ++ [H], r.length = j ∧ ∀ v ∈ r, partB v = true) := by
                            have hall : readAll (splitL 32 x) = some H := by
                              have h1 := hi.out.1
                              rwa [List.take_of_length_le (by rw [HLN.out]; exact Nat.le_refl _)] at h1
                            refine Lib.hid ⟨?_, by simp [hh.out.2.1], fun r hr => ?_⟩
                            · rw [readRows_take hh.out.1 HX.out, numsOf_all HLN.out hall]; rfl
                            · rcases List.mem_append.1 hr with h | h
                              · exact hh.out.2.2 r h
                              · rw [List.mem_singleton.1 h]; exact ⟨hi.out.2.1, hi.out.2.2⟩
                          have wk : IntKind.i64.wrap ((k : Int) + 1) = (k : Int) + 1 := wk1
                          clear hi hh
                          go_wp2
                          refine ⟨⟨k + 1, G ++ [H], by omega, by (first | rfl | (simp; done) | (simp; omega)), e1, e2, e3, e6, by omega, HN2⟩, ?_⟩
                          simp [RowKit.intOf]
                          try omega
                    · have hN' : ((n3 : Int) != (wd : Int)) = true := by simp; omega
                      have HF : Hid (R = plate 0 0 (fun _ => 0) ∧ C = 5) := Lib.hid (by rw [HR.out, HC.out, readPL_row HS.out HAB.out HNA.out HNB.out hlt HX.out (Or.inl (numsOf_short (by rw [← hlN, ← hn3]; exact hnw)))]; exact ⟨rfl, rfl⟩)
                      clear hnw hn3 hlN hh
                      go_wp2_with (first | ((with_reducible refine at_store 39 ?_); refine wpList_store_part rfl 39 _ _ rfl _ 0 _ rfl rfl _ _ (by repeat (first | (with_reducible assumption) | ((with_reducible refine blk_new _ _ _ ?_); focus (simp; done)) | ((with_reducible refine blk_old _ _ _ ?_ ?_); focus (simp; done)) | ((with_reducible refine blk_old _ _ _ ?_ ?_); focus (first | omega | (simp; omega))) | ((with_reducible apply blk_set); focus (simp; done)) | ((with_reducible refine blk_off _ _ _ _ ?_ ?_); focus (simp; done)) | ((with_reducible refine blk_offc _ _ _ _ ?_ ?_); focus (first | (simp; done) | omega | (simp; omega))) | ((with_reducible refine blk_off _ _ _ _ ?_ ?_); focus (first | omega | (simp; omega))) | (with_reducible refine blk_drew _ _ ?_) | ((with_reducible refine blk_below (by assumption) ?_ ?_); focus (simp; done)) | ((with_reducible refine blk_below (by assumption) ?_ ?_); focus (first | omega | (simp; omega))))) (by rw [row_size]; kernel_rfl) (by simp [row_size]) (row_cells _ _ _ rfl) _ (row_over _ _ 64 _ _ (by simp)) ?_))
                      refine bodyPost_ret (v := .tuple #[.agg (plate 0 0 (fun _ => 0)), .int .i64 5]) ?_ ?_ ?_
                      · refine results_row_tmp Tryd.results20 _ _ _ 39 (plate 0 0 (fun _ => 0)) (0, 0) _ _ rfl rfl ?_ Tryd.underlying39 rfl (by simp only [row_size]; kernel_rfl)
                        exact (by repeat (first | (with_reducible assumption) | ((with_reducible refine blk_new _ _ _ ?_); focus (simp; done)) | ((with_reducible refine blk_old _ _ _ ?_ ?_); focus (simp; done)) | ((with_reducible refine blk_old _ _ _ ?_ ?_); focus (first | omega | (simp; omega))) | ((with_reducible apply blk_set); focus (simp; done)) | ((with_reducible refine blk_off _ _ _ _ ?_ ?_); focus (simp; done)) | ((with_reducible refine blk_offc _ _ _ _ ?_ ?_); focus (first | (simp; done) | omega | (simp; omega))) | ((with_reducible refine blk_off _ _ _ _ ?_ ?_); focus (first | omega | (simp; omega))) | (with_reducible refine blk_drew _ _ ?_) | ((with_reducible refine blk_below (by assumption) ?_ ?_); focus (simp; done)) | ((with_reducible refine blk_below (by assumption) ?_ ?_); focus (first | omega | (simp; omega)))))
                      · rfl
                      · exact ⟨by (rw [HF.out.1, HF.out.2] <;> rfl), (by repeat (first | (with_reducible assumption) | (with_reducible exact Below.refl _ _) | ((with_reducible refine bel_alloc _ ?_ ?_); focus (first | omega | (simp; done) | (simp; omega))) | ((with_reducible refine bel_row _ ?_ ?_); focus (first | omega | (simp; done) | (simp; omega))) | ((with_reducible refine bel_cell _ ?_ ?_); focus (first | omega | (simp; done) | (simp; omega))) | (with_reducible refine Below.drew ?_) | (with_reducible refine below_wideW _ ?_) | ((with_reducible refine bel_next (by assumption) ?_ ?_); focus (first | omega | (simp; done) | (simp; omega)))))⟩
                  · obtain rfl : k = hg := by omega
                    have i2 : ¬ ((k : Int) < (k : Int)) := by omega
                    have HF : Hid (R = plate wd k (plF G) ∧ C = 0) := by
                      have hc : (1 ≤ wd ∧ wd < 9) ∧ (1 ≤ k ∧ k < 9) ∧ ls.length = k + 1 ∧ ls.getD k [] = [] := by
                        refine ⟨HW8.out, HH8.out, HNL.out.symm, ?_⟩
                        have h1 := HLX.out
                        rw [← HNL.out, List.getElem?_cons_succ] at h1
                        simp [List.getD, h1]
                      refine Lib.hid ?_
                      rw [HR.out, HC.out, readPL_of HS.out HAB.out HNA.out HNB.out, if_pos hc, hh.out.1]
                      have hpl := plate_yes HW8.out.1 HW8.out.2 HH8.out.1 HH8.out.2 hh.out.2.1 hh.out.2.2
                      show rpRow (if plateB wd k (plF G) then _ else _) = _ ∧ rpCode (if plateB wd k (plF G) then _ else _) = _
                      rw [hpl]
                      exact ⟨rfl, rfl⟩
                    generalize plF G = fF at HF e2
                    clear hh
                    go_wp2_with (first | ((with_reducible refine at_load 39 ?_); refine wpList_load_part rfl 39 _ rfl _ 0 66 rfl _ _ _ _ (by repeat (first | (with_reducible assumption) | ((with_reducible refine blk_new _ _ _ ?_); focus (simp; done)) | ((with_reducible refine blk_old _ _ _ ?_ ?_); focus (simp; done)) | ((with_reducible refine blk_old _ _ _ ?_ ?_); focus (first | omega | (simp; omega))) | ((with_reducible apply blk_set); focus (simp; done)) | ((with_reducible refine blk_off _ _ _ _ ?_ ?_); focus (simp; done)) | ((with_reducible refine blk_offc _ _ _ _ ?_ ?_); focus (first | (simp; done) | omega | (simp; omega))) | ((with_reducible refine blk_off _ _ _ _ ?_ ?_); focus (first | omega | (simp; omega))) | (with_reducible refine blk_drew _ _ ?_) | ((with_reducible refine blk_below (by assumption) ?_ ?_); focus (simp; done)) | ((with_reducible refine blk_below (by assumption) ?_ ?_); focus (first | omega | (simp; omega))))) Tryd.underlying39 rfl (by kernel_rfl) (by simp [row_size]) _ (row_all [_, _] 64 _) ?_) | ((with_reducible refine at_store 39 ?_); refine wpList_store_part rfl 39 _ _ rfl _ 0 _ rfl rfl _ _ (by repeat (first | (with_reducible assumption) | ((with_reducible refine blk_new _ _ _ ?_); focus (simp; done)) | ((with_reducible refine blk_old _ _ _ ?_ ?_); focus (simp; done)) | ((with_reducible refine blk_old _ _ _ ?_ ?_); focus (first | omega | (simp; omega))) | ((with_reducible apply blk_set); focus (simp; done)) | ((with_reducible refine blk_off _ _ _ _ ?_ ?_); focus (simp; done)) | ((with_reducible refine blk_offc _ _ _ _ ?_ ?_); focus (first | (simp; done) | omega | (simp; omega))) | ((with_reducible refine blk_off _ _ _ _ ?_ ?_); focus (first | omega | (simp; omega))) | (with_reducible refine blk_drew _ _ ?_) | ((with_reducible refine blk_below (by assumption) ?_ ?_); focus (simp; done)) | ((with_reducible refine blk_below (by assumption) ?_ ?_); focus (first | omega | (simp; omega))))) (by rw [row_size]; kernel_rfl) (by simp [row_size]) (row_cells _ _ _ rfl) _ (row_over _ _ 64 _ _ (by simp)) ?_))
                    refine bodyPost_ret (v := .tuple #[.agg (plate wd k fF), .int .i64 0]) ?_ ?_ ?_
                    · refine results_row_tmp Tryd.results20 _ _ _ 39 (plate wd k fF) (0, 0) _ _ rfl rfl ?_ Tryd.underlying39 rfl (by simp only [row_size]; kernel_rfl)
                      exact (by repeat (first | (with_reducible assumption) | ((with_reducible refine blk_new _ _ _ ?_); focus (simp; done)) | ((with_reducible refine blk_old _ _ _ ?_ ?_); focus (simp; done)) | ((with_reducible refine blk_old _ _ _ ?_ ?_); focus (first | omega | (simp; omega))) | ((with_reducible apply blk_set); focus (simp; done)) | ((with_reducible refine blk_off _ _ _ _ ?_ ?_); focus (simp; done)) | ((with_reducible refine blk_offc _ _ _ _ ?_ ?_); focus (first | (simp; done) | omega | (simp; omega))) | ((with_reducible refine blk_off _ _ _ _ ?_ ?_); focus (first | omega | (simp; omega))) | (with_reducible refine blk_drew _ _ ?_) | ((with_reducible refine blk_below (by assumption) ?_ ?_); focus (simp; done)) | ((with_reducible refine blk_below (by assumption) ?_ ?_); focus (first | omega | (simp; omega)))))
                    · rfl
                    · exact ⟨by (rw [HF.out.1, HF.out.2] <;> rfl), (by repeat (first | (with_reducible assumption) | (with_reducible exact Below.refl _ _) | ((with_reducible refine bel_alloc _ ?_ ?_); focus (first | omega | (simp; done) | (simp; omega))) | ((with_reducible refine bel_row _ ?_ ?_); focus (first | omega | (simp; done) | (simp; omega))) | ((with_reducible refine bel_cell _ ?_ ?_); focus (first | omega | (simp; done) | (simp; omega))) | (with_reducible refine Below.drew ?_) | (with_reducible refine below_wideW _ ?_) | ((with_reducible refine bel_next (by assumption) ?_ ?_); focus (first | omega | (simp; done) | (simp; omega)))))⟩
              · have hN3i : ((N3 : Int) != (hg : Int) + 2) = true := by have := HN3.out; simp; omega
                have HF : Hid (R = plate 0 0 (fun _ => 0) ∧ C = 5) := Lib.hid (by rw [HR.out, HC.out, readPL_bad HS.out HAB.out hna hnb (fun h => hnum (by rw [HNL.out]; exact h.2.2.1))]; exact ⟨rfl, rfl⟩)
                clear hna hnb hnum
                go_wp2_with (first | (go_at_call 47; with_reducible refine (hNA _).mono ?_; rintro e w9 ⟨rfl, rfl⟩) | (go_at_call 47; with_reducible refine (hNB _).mono ?_; rintro e w9 ⟨rfl, rfl⟩) | (go_at_call 48; with_reducible refine (hIW _).mono ?_; rintro e w9 ⟨rfl, rfl⟩) | (go_at_call 48; with_reducible refine (hIH _).mono ?_; rintro e w9 ⟨rfl, rfl⟩) | ((with_reducible refine at_store 39 ?_); refine wpList_store_part rfl 39 _ _ rfl _ 0 _ rfl rfl _ _ (by repeat (first | (with_reducible assumption) | ((with_reducible refine blk_new _ _ _ ?_); focus (simp; done)) | ((with_reducible refine blk_old _ _ _ ?_ ?_); focus (simp; done)) | ((with_reducible refine blk_old _ _ _ ?_ ?_); focus (first | omega | (simp; omega))) | ((with_reducible apply blk_set); focus (simp; done)) | ((with_reducible refine blk_off _ _ _ _ ?_ ?_); focus (simp; done)) | ((with_reducible refine blk_offc _ _ _ _ ?_ ?_); focus (first | (simp; done) | omega | (simp; omega))) | ((with_reducible refine blk_off _ _ _ _ ?_ ?_); focus (first | omega | (simp; omega))) | (with_reducible refine blk_drew _ _ ?_) | ((with_reducible refine blk_below (by assumption) ?_ ?_); focus (simp; done)) | ((with_reducible refine blk_below (by assumption) ?_ ?_); focus (first | omega | (simp; omega))))) (by rw [row_size]; kernel_rfl) (by simp [row_size]) (row_cells _ _ _ rfl) _ (row_over _ _ 64 _ _ (by simp)) ?_))
                refine bodyPost_ret (v := .tuple #[.agg (plate 0 0 (fun _ => 0)), .int .i64 5]) ?_ ?_ ?_
                · refine results_row_tmp Tryd.results20 _ _ _ 39 (plate 0 0 (fun _ => 0)) (0, 0) _ _ rfl rfl ?_ Tryd.underlying39 rfl (by simp only [row_size]; kernel_rfl)
                  exact (by repeat (first | (with_reducible assumption) | ((with_reducible refine blk_new _ _ _ ?_); focus (simp; done)) | ((with_reducible refine blk_old _ _ _ ?_ ?_); focus (simp; done)) | ((with_reducible refine blk_old _ _ _ ?_ ?_); focus (first | omega | (simp; omega))) | ((with_reducible apply blk_set); focus (simp; done)) | ((with_reducible refine blk_off _ _ _ _ ?_ ?_); focus (simp; done)) | ((with_reducible refine blk_offc _ _ _ _ ?_ ?_); focus (first | (simp; done) | omega | (simp; omega))) | ((with_reducible refine blk_off _ _ _ _ ?_ ?_); focus (first | omega | (simp; omega))) | (with_reducible refine blk_drew _ _ ?_) | ((with_reducible refine blk_below (by assumption) ?_ ?_); focus (simp; done)) | ((with_reducible refine blk_below (by assumption) ?_ ?_); focus (first | omega | (simp; omega)))))
                · rfl
                · exact ⟨by (rw [HF.out.1, HF.out.2] <;> rfl), (by repeat (first | (with_reducible assumption) | (with_reducible exact Below.refl _ _) | ((with_reducible refine bel_alloc _ ?_ ?_); focus (first | omega | (simp; done) | (simp; omega))) | ((with_reducible refine bel_row _ ?_ ?_); focus (first | omega | (simp; done) | (simp; omega))) | ((with_reducible refine bel_cell _ ?_ ?_); focus (first | omega | (simp; done) | (simp; omega))) | (with_reducible refine Below.drew ?_) | (with_reducible refine below_wideW _ ?_) | ((with_reducible refine bel_next (by assumption) ?_ ?_); focus (first | omega | (simp; done) | (simp; omega)))))⟩
            · rw [show inB (hg : Int) 1 8 = false by unfold inB; simp; omega] at hIH
              have HF : Hid (R = plate 0 0 (fun _ => 0) ∧ C = 5) := Lib.hid (by rw [HR.out, HC.out, readPL_bad HS.out HAB.out hna hnb (fun h => hh8 h.2.1)]; exact ⟨rfl, rfl⟩)
              clear hna hnb hh8
              go_wp2_with (first | (go_at_call 47; with_reducible refine (hNA _).mono ?_; rintro e w9 ⟨rfl, rfl⟩) | (go_at_call 47; with_reducible refine (hNB _).mono ?_; rintro e w9 ⟨rfl, rfl⟩) | (go_at_call 48; with_reducible refine (hIW _).mono ?_; rintro e w9 ⟨rfl, rfl⟩) | (go_at_call 48; with_reducible refine (hIH _).mono ?_; rintro e w9 ⟨rfl, rfl⟩) | ((with_reducible refine at_store 39 ?_); refine wpList_store_part rfl 39 _ _ rfl _ 0 _ rfl rfl _ _ (by repeat (first | (with_reducible assumption) | ((with_reducible refine blk_new _ _ _ ?_); focus (simp; done)) | ((with_reducible refine blk_old _ _ _ ?_ ?_); focus (simp; done)) | ((with_reducible refine blk_old _ _ _ ?_ ?_); focus (first | omega | (simp; omega))) | ((with_reducible apply blk_set); focus (simp; done)) | ((with_reducible refine blk_off _ _ _ _ ?_ ?_); focus (simp; done)) | ((with_reducible refine blk_offc _ _ _ _ ?_ ?_); focus (first | (simp; done) | omega | (simp; omega))) | ((with_reducible refine blk_off _ _ _ _ ?_ ?_); focus (first | omega | (simp; omega))) | (with_reducible refine blk_drew _ _ ?_) | ((with_reducible refine blk_below (by assumption) ?_ ?_); focus (simp; done)) | ((with_reducible refine blk_below (by assumption) ?_ ?_); focus (first | omega | (simp; omega))))) (by rw [row_size]; kernel_rfl) (by simp [row_size]) (row_cells _ _ _ rfl) _ (row_over _ _ 64 _ _ (by simp)) ?_))
              refine bodyPost_ret (v := .tuple #[.agg (plate 0 0 (fun _ => 0)), .int .i64 5]) ?_ ?_ ?_
              · refine results_row_tmp Tryd.results20 _ _ _ 39 (plate 0 0 (fun _ => 0)) (0, 0) _ _ rfl rfl ?_ Tryd.underlying39 rfl (by simp only [row_size]; kernel_rfl)
                exact (by repeat (first | (with_reducible assumption) | ((with_reducible refine blk_new _ _ _ ?_); focus (simp; done)) | ((with_reducible refine blk_old _ _ _ ?_ ?_); focus (simp; done)) | ((with_reducible refine blk_old _ _ _ ?_ ?_); focus (first | omega | (simp; omega))) | ((with_reducible apply blk_set); focus (simp; done)) | ((with_reducible refine blk_off _ _ _ _ ?_ ?_); focus (simp; done)) | ((with_reducible refine blk_offc _ _ _ _ ?_ ?_); focus (first | (simp; done) | omega | (simp; omega))) | ((with_reducible refine blk_off _ _ _ _ ?_ ?_); focus (first | omega | (simp; omega))) | (with_reducible refine blk_drew _ _ ?_) | ((with_reducible refine blk_below (by assumption) ?_ ?_); focus (simp; done)) | ((with_reducible refine blk_below (by assumption) ?_ ?_); focus (first | omega | (simp; omega)))))
              · rfl
              · exact ⟨by (rw [HF.out.1, HF.out.2] <;> rfl), (by repeat (first | (with_reducible assumption) | (with_reducible exact Below.refl _ _) | ((with_reducible refine bel_alloc _ ?_ ?_); focus (first | omega | (simp; done) | (simp; omega))) | ((with_reducible refine bel_row _ ?_ ?_); focus (first | omega | (simp; done) | (simp; omega))) | ((with_reducible refine bel_cell _ ?_ ?_); focus (first | omega | (simp; done) | (simp; omega))) | (with_reducible refine Below.drew ?_) | (with_reducible refine below_wideW _ ?_) | ((with_reducible refine bel_next (by assumption) ?_ ?_); focus (first | omega | (simp; done) | (simp; omega)))))⟩
          · rw [show inB (wd : Int) 1 8 = false by unfold inB; simp; omega] at hIW
            have HF : Hid (R = plate 0 0 (fun _ => 0) ∧ C = 5) := Lib.hid (by rw [HR.out, HC.out, readPL_bad HS.out HAB.out hna hnb (fun h => hw8 h.1)]; exact ⟨rfl, rfl⟩)
            clear hna hnb hw8
            go_wp2_with (first | (go_at_call 47; with_reducible refine (hNA _).mono ?_; rintro e w9 ⟨rfl, rfl⟩) | (go_at_call 47; with_reducible refine (hNB _).mono ?_; rintro e w9 ⟨rfl, rfl⟩) | (go_at_call 48; with_reducible refine (hIW _).mono ?_; rintro e w9 ⟨rfl, rfl⟩) | (go_at_call 48; with_reducible refine (hIH _).mono ?_; rintro e w9 ⟨rfl, rfl⟩) | ((with_reducible refine at_store 39 ?_); refine wpList_store_part rfl 39 _ _ rfl _ 0 _ rfl rfl _ _ (by repeat (first | (with_reducible assumption) | ((with_reducible refine blk_new _ _ _ ?_); focus (simp; done)) | ((with_reducible refine blk_old _ _ _ ?_ ?_); focus (simp; done)) | ((with_reducible refine blk_old _ _ _ ?_ ?_); focus (first | omega | (simp; omega))) | ((with_reducible apply blk_set); focus (simp; done)) | ((with_reducible refine blk_off _ _ _ _ ?_ ?_); focus (simp; done)) | ((with_reducible refine blk_offc _ _ _ _ ?_ ?_); focus (first | (simp; done) | omega | (simp; omega))) | ((with_reducible refine blk_off _ _ _ _ ?_ ?_); focus (first | omega | (simp; omega))) | (with_reducible refine blk_drew _ _ ?_) | ((with_reducible refine blk_below (by assumption) ?_ ?_); focus (simp; done)) | ((with_reducible refine blk_below (by assumption) ?_ ?_); focus (first | omega | (simp; omega))))) (by rw [row_size]; kernel_rfl) (by simp [row_size]) (row_cells _ _ _ rfl) _ (row_over _ _ 64 _ _ (by simp)) ?_))
            refine bodyPost_ret (v := .tuple #[.agg (plate 0 0 (fun _ => 0)), .int .i64 5]) ?_ ?_ ?_
            · refine results_row_tmp Tryd.results20 _ _ _ 39 (plate 0 0 (fun _ => 0)) (0, 0) _ _ rfl rfl ?_ Tryd.underlying39 rfl (by simp only [row_size]; kernel_rfl)
              exact (by repeat (first | (with_reducible assumption) | ((with_reducible refine blk_new _ _ _ ?_); focus (simp; done)) | ((with_reducible refine blk_old _ _ _ ?_ ?_); focus (simp; done)) | ((with_reducible refine blk_old _ _ _ ?_ ?_); focus (first | omega | (simp; omega))) | ((with_reducible apply blk_set); focus (simp; done)) | ((with_reducible refine blk_off _ _ _ _ ?_ ?_); focus (simp; done)) | ((with_reducible refine blk_offc _ _ _ _ ?_ ?_); focus (first | (simp; done) | omega | (simp; omega))) | ((with_reducible refine blk_off _ _ _ _ ?_ ?_); focus (first | omega | (simp; omega))) | (with_reducible refine blk_drew _ _ ?_) | ((with_reducible refine blk_below (by assumption) ?_ ?_); focus (simp; done)) | ((with_reducible refine blk_below (by assumption) ?_ ?_); focus (first | omega | (simp; omega)))))
            · rfl
            · exact ⟨by (rw [HF.out.1, HF.out.2] <;> rfl), (by repeat (first | (with_reducible assumption) | (with_reducible exact Below.refl _ _) | ((with_reducible refine bel_alloc _ ?_ ?_); focus (first | omega | (simp; done) | (simp; omega))) | ((with_reducible refine bel_row _ ?_ ?_); focus (first | omega | (simp; done) | (simp; omega))) | ((with_reducible refine bel_cell _ ?_ ?_); focus (first | omega | (simp; done) | (simp; omega))) | (with_reducible refine Below.drew ?_) | (with_reducible refine below_wideW _ ?_) | ((with_reducible refine bel_next (by assumption) ?_ ?_); focus (first | omega | (simp; done) | (simp; omega)))))⟩
    · obtain ⟨XL, hXL⟩ : ∃ X : ByteArray, X = ⟨lx.toArray⟩ := ⟨_, rfl⟩
      rw [← hXL] at cl2
      have hne : XL.toList.isEmpty = false := by rw [ByteArray.toList_eq, hXL]; simp; exact hlast
      have HF : Hid (R = plate 0 0 (fun _ => 0) ∧ C = 5) := Lib.hid (by rw [HR.out, HC.out, readPL_last HS.out HAB.out HLX.out hlast]; exact ⟨rfl, rfl⟩)
      clear hXL hlast
      go_wp2_with (first | ((with_reducible refine at_store 39 ?_); refine wpList_store_part rfl 39 _ _ rfl _ 0 _ rfl rfl _ _ (by repeat (first | (with_reducible assumption) | ((with_reducible refine blk_new _ _ _ ?_); focus (simp; done)) | ((with_reducible refine blk_old _ _ _ ?_ ?_); focus (simp; done)) | ((with_reducible refine blk_old _ _ _ ?_ ?_); focus (first | omega | (simp; omega))) | ((with_reducible apply blk_set); focus (simp; done)) | ((with_reducible refine blk_off _ _ _ _ ?_ ?_); focus (simp; done)) | ((with_reducible refine blk_offc _ _ _ _ ?_ ?_); focus (first | (simp; done) | omega | (simp; omega))) | ((with_reducible refine blk_off _ _ _ _ ?_ ?_); focus (first | omega | (simp; omega))) | (with_reducible refine blk_drew _ _ ?_) | ((with_reducible refine blk_below (by assumption) ?_ ?_); focus (simp; done)) | ((with_reducible refine blk_below (by assumption) ?_ ?_); focus (first | omega | (simp; omega))))) (by rw [row_size]; kernel_rfl) (by simp [row_size]) (row_cells _ _ _ rfl) _ (row_over _ _ 64 _ _ (by simp)) ?_))
      refine bodyPost_ret (v := .tuple #[.agg (plate 0 0 (fun _ => 0)), .int .i64 5]) ?_ ?_ ?_
      · refine results_row_tmp Tryd.results20 _ _ _ 39 (plate 0 0 (fun _ => 0)) (0, 0) _ _ rfl rfl ?_ Tryd.underlying39 rfl (by simp only [row_size]; kernel_rfl)
        exact (by repeat (first | (with_reducible assumption) | ((with_reducible refine blk_new _ _ _ ?_); focus (simp; done)) | ((with_reducible refine blk_old _ _ _ ?_ ?_); focus (simp; done)) | ((with_reducible refine blk_old _ _ _ ?_ ?_); focus (first | omega | (simp; omega))) | ((with_reducible apply blk_set); focus (simp; done)) | ((with_reducible refine blk_off _ _ _ _ ?_ ?_); focus (simp; done)) | ((with_reducible refine blk_offc _ _ _ _ ?_ ?_); focus (first | (simp; done) | omega | (simp; omega))) | ((with_reducible refine blk_off _ _ _ _ ?_ ?_); focus (first | omega | (simp; omega))) | (with_reducible refine blk_drew _ _ ?_) | ((with_reducible refine blk_below (by assumption) ?_ ?_); focus (simp; done)) | ((with_reducible refine blk_below (by assumption) ?_ ?_); focus (first | omega | (simp; omega)))))
      · rfl
      · exact ⟨by (rw [HF.out.1, HF.out.2] <;> rfl), (by repeat (first | (with_reducible assumption) | (with_reducible exact Below.refl _ _) | ((with_reducible refine bel_alloc _ ?_ ?_); focus (first | omega | (simp; done) | (simp; omega))) | ((with_reducible refine bel_row _ ?_ ?_); focus (first | omega | (simp; done) | (simp; omega))) | ((with_reducible refine bel_cell _ ?_ ?_); focus (first | omega | (simp; done) | (simp; omega))) | (with_reducible refine Below.drew ?_) | (with_reducible refine below_wideW _ ?_) | ((with_reducible refine bel_next (by assumption) ?_ ?_); focus (first | omega | (simp; done) | (simp; omega)))))⟩
  · have hN' : ¬ (N2 : Int) = 2 := by omega
    have HF : Hid (R = plate 0 0 (fun _ => 0) ∧ C = 5) := Lib.hid (by rw [HR.out, HC.out, readPL_two HS.out (by rw [← hlN2, ← hN2]; exact hN)]; exact ⟨rfl, rfl⟩)
    clear hN hN2 hlN2 hat2
    go_wp2_with (first | ((with_reducible refine at_store 39 ?_); refine wpList_store_part rfl 39 _ _ rfl _ 0 _ rfl rfl _ _ (by repeat (first | (with_reducible assumption) | ((with_reducible refine blk_new _ _ _ ?_); focus (simp; done)) | ((with_reducible refine blk_old _ _ _ ?_ ?_); focus (simp; done)) | ((with_reducible refine blk_old _ _ _ ?_ ?_); focus (first | omega | (simp; omega))) | ((with_reducible apply blk_set); focus (simp; done)) | ((with_reducible refine blk_off _ _ _ _ ?_ ?_); focus (simp; done)) | ((with_reducible refine blk_offc _ _ _ _ ?_ ?_); focus (first | (simp; done) | omega | (simp; omega))) | ((with_reducible refine blk_off _ _ _ _ ?_ ?_); focus (first | omega | (simp; omega))) | (with_reducible refine blk_drew _ _ ?_) | ((with_reducible refine blk_below (by assumption) ?_ ?_); focus (simp; done)) | ((with_reducible refine blk_below (by assumption) ?_ ?_); focus (first | omega | (simp; omega))))) (by rw [row_size]; kernel_rfl) (by simp [row_size]) (row_cells _ _ _ rfl) _ (row_over _ _ 64 _ _ (by simp)) ?_))
    refine bodyPost_ret (v := .tuple #[.agg (plate 0 0 (fun _ => 0)), .int .i64 5]) ?_ ?_ ?_
    · refine results_row_tmp Tryd.results20 _ _ _ 39 (plate 0 0 (fun _ => 0)) (0, 0) _ _ rfl rfl ?_ Tryd.underlying39 rfl (by simp only [row_size]; kernel_rfl)
      exact (by repeat (first | (with_reducible assumption) | ((with_reducible refine blk_new _ _ _ ?_); focus (simp; done)) | ((with_reducible refine blk_old _ _ _ ?_ ?_); focus (simp; done)) | ((with_reducible refine blk_old _ _ _ ?_ ?_); focus (first | omega | (simp; omega))) | ((with_reducible apply blk_set); focus (simp; done)) | ((with_reducible refine blk_off _ _ _ _ ?_ ?_); focus (simp; done)) | ((with_reducible refine blk_offc _ _ _ _ ?_ ?_); focus (first | (simp; done) | omega | (simp; omega))) | ((with_reducible refine blk_off _ _ _ _ ?_ ?_); focus (first | omega | (simp; omega))) | (with_reducible refine blk_drew _ _ ?_) | ((with_reducible refine blk_below (by assumption) ?_ ?_); focus (simp; done)) | ((with_reducible refine blk_below (by assumption) ?_ ?_); focus (first | omega | (simp; omega)))))
    · rfl
    · exact ⟨by (rw [HF.out.1, HF.out.2] <;> rfl), (by repeat (first | (with_reducible assumption) | (with_reducible exact Below.refl _ _) | ((with_reducible refine bel_alloc _ ?_ ?_); focus (first | omega | (simp; done) | (simp; omega))) | ((with_reducible refine bel_row _ ?_ ?_); focus (first | omega | (simp; done) | (simp; omega))) | ((with_reducible refine bel_cell _ ?_ ?_); focus (first | omega | (simp; done) | (simp; omega))) | (with_reducible refine Below.drew ?_) | (with_reducible refine below_wideW _ ?_) | ((with_reducible refine bel_next (by assumption) ?_ ?_); focus (first | omega | (simp; done) | (simp; omega)))))⟩
end Go.Proofs.YtckcngmbbnilnaaDoor
