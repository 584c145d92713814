/- The train of a text, as the reference reads it. -/
import Derived.Test.YtckcngmbbnilnaaDoorReadTP
import Derived.Test.YtckcngmbbnilnaaDoorForm
set_option linter.unusedVariables false
set_option linter.unusedSimpArgs false
namespace Go.Proofs.YtckcngmbbnilnaaDoor
open Go.RowKit Go.Lib

theorem blk_ownc {w : World} {b i : Nat} {cs : Array Value} {t : TypeId} {fr : Nat × Nat} (v : Value) (h : w.heap[b]? = some (.cells cs t fr)) : (w.setCell ⟨b, i, none⟩ v).heap[b]? = some (.cells (cs.setIfInBounds i v) t fr) := by
  rw [Go.Sort.setCell_eq]
  unfold Go.Sort.mapBlock
  simp [Array.getElem?_modify, h, Go.Sort.onCells]

set_option maxHeartbeats 4000000 in
set_option maxRecDepth 100000 in
theorem specReadTrain (t : ByteArray) (hmax : t.size ≤ 1048576) (w : World) (R : Array Value) (C : Int) (hR : R = rtRow (readTR t.data.toList)) (hC : C = rtCode (readTR t.data.toList)) :
    Calls Tryd.prog 23 #[.string t] w fun e w' => e = .returned (.tuple #[.agg R, .int .i64 C]) ∧ Below w.heap.size w w' := by
  have hz : (#[Value.int IntKind.i8 0, Value.float FloatKind.f32 0, Value.float FloatKind.f32 0, Value.float FloatKind.f32 0, Value.float FloatKind.f32 0, Value.float FloatKind.f32 0, Value.float FloatKind.f32 0, Value.float FloatKind.f32 0, Value.float FloatKind.f32 0, Value.float FloatKind.f32 0, Value.float FloatKind.f32 0, Value.float FloatKind.f32 0, Value.float FloatKind.f32 0, Value.float FloatKind.f32 0, Value.float FloatKind.f32 0] : Array Value) = row [Value.int IntKind.i8 0, Value.float FloatKind.f32 0, Value.float FloatKind.f32 0] 12 (fun _ => 0) := rfl
  have hlen : t.data.toList.length = t.size := by rw [Lib.size_eq]
  have hSp := fun w => specSplit t 32 hmax w
  obtain ⟨L, hL⟩ : ∃ L, L = t.data.toList := ⟨_, rfl⟩
  rw [← hL] at hR hC hlen hSp
  obtain ⟨w0, ws, hs⟩ := splitL_cons 32 L
  have hW : splitW 32 L = ⟨w0.toArray⟩ :: ws.map fun x => ⟨x.toArray⟩ := by unfold splitW; rw [hs]; rfl
  have hTR := readTR_cons hs
  obtain ⟨X0, hX0⟩ : ∃ X0 : ByteArray, X0 = ⟨w0.toArray⟩ := ⟨_, rfl⟩
  have hX0l : X0.data.toList = w0 := by rw [hX0]
  have hNum := fun w => specNumber X0 w
  rw [hX0l] at hNum
  rw [hW, ← hX0] at hSp
  obtain ⟨nw, hnw⟩ : ∃ nw, nw = ws.length := ⟨_, rfl⟩
  have hnw20 : nw ≤ 1048577 := by
    have h1 := splitL_lt 32 L
    rw [hs] at h1
    simp at h1
    omega
  have HLEN := Lib.hid hlen
  have HR := Lib.hid hR
  have HC := Lib.hid hC
  have HTR := Lib.hid hTR
  have HNW := Lib.hid hnw
  have HS := Lib.hid hs
  clear hL hW hX0 hX0l hlen hR hC hTR hs
  go_enter Tryd.func23, Tryd.ntmps23
  go_wp2_with fail
  go_at_call 46
  with_reducible refine calls_args (b := #[.string t, .int .u8 ((32 : UInt8).toNat : Int)]) (by kernel_rfl) ?_
  with_reducible refine (hSp _).mono ?_
  rintro e w1 ⟨⟨v, rfl, g, cap, cs, rfl, hg, hcs, hat⟩, hb1⟩
  rw [List.length_cons, List.length_map, ← hnw]
  obtain ⟨N3, hN3⟩ : ∃ N3, N3 = nw + 1 := ⟨_, rfl⟩
  rw [← hN3]
  have hN3p : (0 : Int) < (N3 : Int) := by omega
  have HN3 := Lib.hid hN3
  clear hN3
  have c0 : w1.cell? ⟨g, 0, none⟩ = some (.string X0) := (cell_of_row w1 g 0 _ _ _ hcs).trans (hat 0 X0 rfl)
  have hatw : ∀ k x, ws[k]? = some x → cs[k + 1]? = some (.string ⟨x.toArray⟩) := fun k x hx => hat (k + 1) _ (by simp [hx])
  have HAT := Lib.hid hatw
  have hz1 := hb1.size
  simp at hz1
  have hgz : w.heap.size + 1 ≤ g := by simpa using hg
  have hgl : g < w1.heap.size := World.block_lt_of_cell? _ _ c0
  have hblk0 : w1.heap[w.heap.size]? = some (.cells (train 0 0 0 (fun _ => 0)) 30 (0, 0)) := blk_below hb1 (by simp) (by repeat (first | (with_reducible assumption) | ((with_reducible refine blk_new _ _ _ ?_); focus (simp; done)) | ((with_reducible refine blk_old _ _ _ ?_ ?_); focus (simp; done)) | ((with_reducible refine blk_old _ _ _ ?_ ?_); focus (first | omega | (simp; omega))) | ((with_reducible apply blk_set); focus (simp; done)) | ((with_reducible refine blk_off _ _ _ _ ?_ ?_); focus (simp; done)) | ((with_reducible refine blk_offc _ _ _ _ ?_ ?_); focus (first | (simp; done) | omega | (simp; omega))) | ((with_reducible refine blk_off _ _ _ _ ?_ ?_); focus (first | omega | (simp; omega))) | (with_reducible refine blk_drew _ _ ?_) | ((with_reducible refine blk_below (by assumption) ?_ ?_); focus (simp; done)) | ((with_reducible refine blk_below (by assumption) ?_ ?_); focus (first | omega | (simp; omega)))))
  have hbl1 : Below w.heap.size w w1 := bel_next hb1 (by simp) (Below.alloc (Below.refl _ _) (Nat.le_refl _) _)
  clear hat hSp hg hb1 hnw
  cases hn : numOf w0 with
  | none =>
    rw [hn] at hNum
    replace hNum : ∀ w, Calls Tryd.prog 47 #[.string X0] w fun e w' => e = .returned (.tuple #[.int .i64 0, .bool false]) ∧ w = w' := hNum
    have HF : Hid (R = train 0 0 0 (fun _ => 0) ∧ C = 5) := Lib.hid (by rw [HR.out, HC.out, HTR.out, hn]; exact ⟨rfl, rfl⟩)
    go_wp2_with (first | (go_at_call 47; with_reducible refine (hNum _).mono ?_; rintro e w2 ⟨rfl, rfl⟩) | ((with_reducible refine at_store 30 ?_); refine wpList_store_part rfl 30 _ _ rfl _ 0 _ rfl rfl _ _ (by repeat (first | (with_reducible assumption) | ((with_reducible refine blk_new _ _ _ ?_); focus (simp; done)) | ((with_reducible refine blk_old _ _ _ ?_ ?_); focus (simp; done)) | ((with_reducible refine blk_old _ _ _ ?_ ?_); focus (first | omega | (simp; omega))) | ((with_reducible apply blk_set); focus (simp; done)) | ((with_reducible refine blk_off _ _ _ _ ?_ ?_); focus (simp; done)) | ((with_reducible refine blk_offc _ _ _ _ ?_ ?_); focus (first | (simp; done) | omega | (simp; omega))) | ((with_reducible refine blk_off _ _ _ _ ?_ ?_); focus (first | omega | (simp; omega))) | (with_reducible refine blk_drew _ _ ?_) | ((with_reducible refine blk_below (by assumption) ?_ ?_); focus (simp; done)) | ((with_reducible refine blk_below (by assumption) ?_ ?_); focus (first | omega | (simp; omega))))) (by rw [row_size]; kernel_rfl) (by simp [row_size]) (row_cells _ _ _ rfl) _ (row_over _ _ 12 _ _ (by simp)) ?_))
    refine bodyPost_ret (v := .tuple #[.agg (train 0 0 0 (fun _ => 0)), .int .i64 5]) ?_ ?_ ?_
    · refine results_row_tmp Tryd.results23 _ _ _ 30 (train 0 0 0 (fun _ => 0)) (0, 0) _ _ rfl rfl ?_ Tryd.underlying30 rfl (by simp only [row_size]; kernel_rfl)
      exact (by repeat (first | (with_reducible assumption) | ((with_reducible refine blk_new _ _ _ ?_); focus (simp; done)) | ((with_reducible refine blk_old _ _ _ ?_ ?_); focus (simp; done)) | ((with_reducible refine blk_old _ _ _ ?_ ?_); focus (first | omega | (simp; omega))) | ((with_reducible apply blk_set); focus (simp; done)) | ((with_reducible refine blk_off _ _ _ _ ?_ ?_); focus (simp; done)) | ((with_reducible refine blk_offc _ _ _ _ ?_ ?_); focus (first | (simp; done) | omega | (simp; omega))) | ((with_reducible refine blk_off _ _ _ _ ?_ ?_); focus (first | omega | (simp; omega))) | (with_reducible refine blk_drew _ _ ?_) | ((with_reducible refine blk_below (by assumption) ?_ ?_); focus (simp; done)) | ((with_reducible refine blk_below (by assumption) ?_ ?_); focus (first | omega | (simp; omega)))))
    · rfl
    · exact ⟨by (rw [HF.out.1, HF.out.2] <;> rfl), (by repeat (first | (with_reducible assumption) | (with_reducible exact Below.refl _ _) | ((with_reducible refine bel_alloc _ ?_ ?_); focus (first | omega | (simp; done) | (simp; omega))) | ((with_reducible refine bel_row _ ?_ ?_); focus (first | omega | (simp; done) | (simp; omega))) | ((with_reducible refine bel_cell _ ?_ ?_); focus (first | omega | (simp; done) | (simp; omega))) | (with_reducible refine Below.drew ?_) | (with_reducible refine below_wideW _ ?_) | ((with_reducible refine bel_next (by assumption) ?_ ?_); focus (first | omega | (simp; done) | (simp; omega)))))⟩
  | some n =>
    rw [hn] at hNum
    replace hNum : ∀ w, Calls Tryd.prog 47 #[.string X0] w fun e w' => e = .returned (.tuple #[.int .i64 n, .bool true]) ∧ w = w' := hNum
    by_cases hn12 : n < 13
    · have n12 : (n : Int) ≤ 12 := by omega
      by_cases hnn : nw = n + 2
      · have hN3i : (N3 : Int) = (n : Int) + 3 := by have := HN3.out; omega
        subst hnn
        have hw25 : IntKind.i8.wrap (n : Int) = n := by simp [IntKind.wrap, IntKind.signed, IntKind.bits]; omega
        go_wp2_with (first | (go_at_call 47; with_reducible refine (hNum _).mono ?_; rintro e w2 ⟨rfl, rfl⟩) | ((with_reducible refine at_store 30 ?_); refine wpList_store_part rfl 30 _ _ rfl _ 0 _ rfl rfl _ _ (by repeat (first | (with_reducible assumption) | ((with_reducible refine blk_new _ _ _ ?_); focus (simp; done)) | ((with_reducible refine blk_old _ _ _ ?_ ?_); focus (simp; done)) | ((with_reducible refine blk_old _ _ _ ?_ ?_); focus (first | omega | (simp; omega))) | ((with_reducible apply blk_set); focus (simp; done)) | ((with_reducible refine blk_off _ _ _ _ ?_ ?_); focus (simp; done)) | ((with_reducible refine blk_offc _ _ _ _ ?_ ?_); focus (first | (simp; done) | omega | (simp; omega))) | ((with_reducible refine blk_off _ _ _ _ ?_ ?_); focus (first | omega | (simp; omega))) | (with_reducible refine blk_drew _ _ ?_) | ((with_reducible refine blk_below (by assumption) ?_ ?_); focus (simp; done)) | ((with_reducible refine blk_below (by assumption) ?_ ?_); focus (first | omega | (simp; omega))))) (by rw [row_size]; kernel_rfl) (by simp [row_size]) (row_cells _ _ _ rfl) _ (row_over _ _ 12 _ _ (by simp)) ?_))
        have hbN : Below w.heap.size w w1 := hbl1
        refine wp_nm (S := fun W => W.heap[w.heap.size]? = some (.cells (train 0 0 0 (fun _ => 0)) 30 (0, 0)) ∧ W.heap[w1.heap.size]? = some (.cells (row [Value.int IntKind.i8 n, Value.float FloatKind.f32 0, Value.float FloatKind.f32 0] 12 (fun _ => 0)) 30 (0, 0)) ∧ W.heap[g]? = some (.cells cs 9 (0, 0)) ∧ Below w.heap.size w W ∧ w1.heap.size + 1 ≤ W.heap.size) ⟨(by repeat (first | (with_reducible assumption) | ((with_reducible refine blk_new _ _ _ ?_); focus (simp; done)) | ((with_reducible refine blk_old _ _ _ ?_ ?_); focus (simp; done)) | ((with_reducible refine blk_old _ _ _ ?_ ?_); focus (first | omega | (simp; omega))) | ((with_reducible apply blk_set); focus (simp; done)) | ((with_reducible refine blk_off _ _ _ _ ?_ ?_); focus (simp; done)) | ((with_reducible refine blk_offc _ _ _ _ ?_ ?_); focus (first | (simp; done) | omega | (simp; omega))) | ((with_reducible refine blk_off _ _ _ _ ?_ ?_); focus (first | omega | (simp; omega))) | (with_reducible refine blk_drew _ _ ?_) | ((with_reducible refine blk_below (by assumption) ?_ ?_); focus (simp; done)) | ((with_reducible refine blk_below (by assumption) ?_ ?_); focus (first | omega | (simp; omega))))), (by repeat (first | (with_reducible assumption) | ((with_reducible refine blk_new _ _ _ ?_); focus (simp; done)) | ((with_reducible refine blk_old _ _ _ ?_ ?_); focus (simp; done)) | ((with_reducible refine blk_old _ _ _ ?_ ?_); focus (first | omega | (simp; omega))) | ((with_reducible apply blk_set); focus (simp; done)) | ((with_reducible refine blk_off _ _ _ _ ?_ ?_); focus (simp; done)) | ((with_reducible refine blk_offc _ _ _ _ ?_ ?_); focus (first | (simp; done) | omega | (simp; omega))) | ((with_reducible refine blk_off _ _ _ _ ?_ ?_); focus (first | omega | (simp; omega))) | (with_reducible refine blk_drew _ _ ?_) | ((with_reducible refine blk_below (by assumption) ?_ ?_); focus (simp; done)) | ((with_reducible refine blk_below (by assumption) ?_ ?_); focus (first | omega | (simp; omega))))), (by repeat (first | (with_reducible assumption) | ((with_reducible refine blk_new _ _ _ ?_); focus (simp; done)) | ((with_reducible refine blk_old _ _ _ ?_ ?_); focus (simp; done)) | ((with_reducible refine blk_old _ _ _ ?_ ?_); focus (first | omega | (simp; omega))) | ((with_reducible apply blk_set); focus (simp; done)) | ((with_reducible refine blk_off _ _ _ _ ?_ ?_); focus (simp; done)) | ((with_reducible refine blk_offc _ _ _ _ ?_ ?_); focus (first | (simp; done) | omega | (simp; omega))) | ((with_reducible refine blk_off _ _ _ _ ?_ ?_); focus (first | omega | (simp; omega))) | (with_reducible refine blk_drew _ _ ?_) | ((with_reducible refine blk_below (by assumption) ?_ ?_); focus (simp; done)) | ((with_reducible refine blk_below (by assumption) ?_ ?_); focus (first | omega | (simp; omega))))), (by repeat (first | (with_reducible assumption) | (with_reducible exact Below.refl _ _) | ((with_reducible refine bel_alloc _ ?_ ?_); focus (first | omega | (simp; done) | (simp; omega))) | ((with_reducible refine bel_row _ ?_ ?_); focus (first | omega | (simp; done) | (simp; omega))) | ((with_reducible refine bel_cell _ ?_ ?_); focus (first | omega | (simp; done) | (simp; omega))) | (with_reducible refine Below.drew ?_) | (with_reducible refine below_wideW _ ?_) | ((with_reducible refine bel_next (by assumption) ?_ ?_); focus (first | omega | (simp; done) | (simp; omega))))), (by first | omega | (simp; done) | (simp; omega) | (simp at *; omega))⟩ ?_
        rintro W ⟨d1, d2, d3, d4, d5⟩
        obtain ⟨b7, hb7⟩ : ∃ b7, b7 = w1.heap.size := ⟨_, rfl⟩
        rw [← hb7] at d2 d5 hgl hz1 ⊢
        replace d2 : W.heap[b7]? = some (.cells (trainG n []) 30 (0, 0)) := d2
        clear hbN hbl1 hblk0 hcs c0 hb7 hNum
        have HNN := Lib.hid hn12
        have HN := Lib.hid hn
        clear hn hn12
        go_loopw [8] (fun vi wr => ∃ (k : Nat) (G : List Nat), k ≤ n + 2 ∧ vi = .int .i64 ((k : Int) + 1) ∧ wr.heap[w.heap.size]? = some (.cells (train 0 0 0 (fun _ => 0)) 30 (0, 0)) ∧ wr.heap[b7]? = some (.cells (trainG n G) 30 (0, 0)) ∧ wr.heap[g]? = some (.cells cs 9 (0, 0)) ∧ Below w.heap.size w wr ∧ b7 + 1 ≤ wr.heap.size ∧ Hid (readAll (ws.take k) = some G ∧ G.length = k)) (fun vi _ => 16 - (RowKit.intOf vi).toNat)
        case atStart => exact ⟨0, [], by omega, rfl, d1, d2, d3, d4, d5, Lib.hid ⟨rfl, rfl⟩⟩
        case round =>
          clear d1 d2 d3 d4 d5
          obtain ⟨k, G, hk, rfl, e1, e2, e3, e4, e5, hh⟩ := hrel
          by_cases hlt : k < n + 2
          · have hkl : k < ws.length := by have := HNW.out; omega
            obtain ⟨x, hx⟩ : ∃ x, ws[k]? = some x := ⟨_, List.getElem?_eq_getElem hkl⟩
            obtain ⟨X, hXe⟩ : ∃ X : ByteArray, X = ⟨x.toArray⟩ := ⟨_, rfl⟩
            have hXl : X.data.toList = x := by rw [hXe]
            have cX : wr.cell? ⟨g, k + 1, none⟩ = some (.string X) := (cell_of_row wr g (k + 1) _ _ _ e3).trans (by rw [hXe]; exact HAT.out k x hx)
            have hR := fun w => specRead X w
            rw [hXl] at hR
            have i1 : (k : Int) + 1 < (n : Int) + 3 := by omega
            cases hr : readOf x with
            | none =>
              rw [hr] at hR
              have hR' : ∀ w, Calls Tryd.prog 43 #[.string X] w fun e w' => (∃ y, e = .returned (.tuple #[.float .f32 y, .bool false])) ∧ w = w' := fun w => (hR w).mono fun e w' ⟨⟨v, h1, y, h2⟩, h3⟩ => ⟨⟨y, by rw [h1]; exact congrArg _ h2⟩, h3⟩
              have HF : Hid (R = train 0 0 0 (fun _ => 0) ∧ C = 5) := Lib.hid (by
                have e2 : readTR L = none := by rw [HTR.out, HN.out]; show (if n < 13 ∧ ws.length = n + 2 then _ else _) = _; rw [if_pos ⟨HNN.out, HNW.out.symm⟩, readAll_none hx hr]; rfl
                rw [HR.out, HC.out, e2]; exact ⟨rfl, rfl⟩)
              clear hh hx hXe hXl hr hR
              go_wp2_with (first | (go_at_call 43; with_reducible refine (hR' _).mono ?_; rintro e w2 ⟨⟨y, rfl⟩, rfl⟩) | ((with_reducible refine at_store 30 ?_); refine wpList_store_part rfl 30 _ _ rfl _ 0 _ rfl rfl _ _ (by repeat (first | (with_reducible assumption) | ((with_reducible refine blk_new _ _ _ ?_); focus (simp; done)) | ((with_reducible refine blk_old _ _ _ ?_ ?_); focus (simp; done)) | ((with_reducible refine blk_old _ _ _ ?_ ?_); focus (first | omega | (simp; omega))) | ((with_reducible apply blk_set); focus (simp; done)) | ((with_reducible refine blk_off _ _ _ _ ?_ ?_); focus (simp; done)) | ((with_reducible refine blk_offc _ _ _ _ ?_ ?_); focus (first | (simp; done) | omega | (simp; omega))) | ((with_reducible refine blk_off _ _ _ _ ?_ ?_); focus (first | omega | (simp; omega))) | (with_reducible refine blk_drew _ _ ?_) | ((with_reducible refine blk_below (by assumption) ?_ ?_); focus (simp; done)) | ((with_reducible refine blk_below (by assumption) ?_ ?_); focus (first | omega | (simp; omega))))) (by rw [row_size]; kernel_rfl) (by simp [row_size]) (row_cells _ _ _ rfl) _ (row_over _ _ 12 _ _ (by simp)) ?_))
              refine bodyPost_ret (v := .tuple #[.agg (train 0 0 0 (fun _ => 0)), .int .i64 5]) ?_ ?_ ?_
              · refine results_row_tmp Tryd.results23 _ _ _ 30 (train 0 0 0 (fun _ => 0)) (0, 0) _ _ rfl rfl ?_ Tryd.underlying30 rfl (by simp only [row_size]; kernel_rfl)
                exact (by repeat (first | (with_reducible assumption) | ((with_reducible refine blk_new _ _ _ ?_); focus (simp; done)) | ((with_reducible refine blk_old _ _ _ ?_ ?_); focus (simp; done)) | ((with_reducible refine blk_old _ _ _ ?_ ?_); focus (first | omega | (simp; omega))) | ((with_reducible apply blk_set); focus (simp; done)) | ((with_reducible refine blk_off _ _ _ _ ?_ ?_); focus (simp; done)) | ((with_reducible refine blk_offc _ _ _ _ ?_ ?_); focus (first | (simp; done) | omega | (simp; omega))) | ((with_reducible refine blk_off _ _ _ _ ?_ ?_); focus (first | omega | (simp; omega))) | (with_reducible refine blk_drew _ _ ?_) | ((with_reducible refine blk_below (by assumption) ?_ ?_); focus (simp; done)) | ((with_reducible refine blk_below (by assumption) ?_ ?_); focus (first | omega | (simp; omega)))))
              · rfl
              · exact ⟨by (rw [HF.out.1, HF.out.2] <;> rfl), (by repeat (first | (with_reducible assumption) | (with_reducible exact Below.refl _ _) | ((with_reducible refine bel_alloc _ ?_ ?_); focus (first | omega | (simp; done) | (simp; omega))) | ((with_reducible refine bel_row _ ?_ ?_); focus (first | omega | (simp; done) | (simp; omega))) | ((with_reducible refine bel_cell _ ?_ ?_); focus (first | omega | (simp; done) | (simp; omega))) | (with_reducible refine Below.drew ?_) | (with_reducible refine below_wideW _ ?_) | ((with_reducible refine bel_next (by assumption) ?_ ?_); focus (first | omega | (simp; done) | (simp; omega)))))⟩
            | some a =>
              rw [hr] at hR
              have hR' : ∀ w, Calls Tryd.prog 43 #[.string X] w fun e w' => e = .returned (.tuple #[.float .f32 a, .bool true]) ∧ w = w' := fun w => (hR w).mono fun e w' ⟨⟨v, h1, h2⟩, h3⟩ => ⟨by rw [h1]; exact congrArg _ h2, h3⟩
              have HN2 : Hid (readAll (ws.take (k + 1)) = some (G ++ [a]) ∧ (G ++ [a]).length = k + 1) := Lib.hid ⟨by rw [readAll_take hh.out.1 hx, hr]; rfl, by simp [hh.out.2]⟩
              have hlG := hh.out.2
              have hsn := trainG_snoc n G a
              rw [hlG] at hsn
              clear hh hx hXe hXl hr hR
              have E1 := Lib.hid e1
              have E2 := Lib.hid e2
              have E3 := Lib.hid e3
              have E4 := Lib.hid e4
              match k, hsn with
              | 0, hsn =>
                dsimp only at hsn
                have h1 : (trainG n G).setIfInBounds (1) (.float .f32 a) = trainG n (G ++ [a]) := by rw [hsn]; exact row_s1 _ _ _ _ _ _
                have E2' : Hid ((wr.setCell ⟨b7, 1, none⟩ (.float .f32 a)).heap[b7]? = some (.cells (trainG n (G ++ [a])) 30 (0, 0))) := Lib.hid ((blk_ownc _ E2.out).trans (by rw [h1]))
                have cB : wr.cell? ⟨b7, 1, none⟩ = some (.float .f32 (G.getD 0 0)) := (cell_of_row wr b7 _ _ _ _ E2.out).trans (row_g1 _ _ _ _ _)
                have fB : wr.frozen? ⟨b7, 1, none⟩ = false := frozen_of_row wr _ _ _ _ E2.out
                clear hsn h1 e1 e2 e3 e4
                go_wp2_with (first | (go_at_call 43; with_reducible refine (hR' _).mono ?_; rintro e w2 ⟨rfl, rfl⟩) | ((with_reducible refine at_store 30 ?_); refine wpList_store_part rfl 30 _ _ rfl _ 0 _ rfl rfl _ _ (by repeat (first | (with_reducible assumption) | ((with_reducible refine blk_new _ _ _ ?_); focus (simp; done)) | ((with_reducible refine blk_old _ _ _ ?_ ?_); focus (simp; done)) | ((with_reducible refine blk_old _ _ _ ?_ ?_); focus (first | omega | (simp; omega))) | ((with_reducible apply blk_set); focus (simp; done)) | ((with_reducible refine blk_off _ _ _ _ ?_ ?_); focus (simp; done)) | ((with_reducible refine blk_offc _ _ _ _ ?_ ?_); focus (first | (simp; done) | omega | (simp; omega))) | ((with_reducible refine blk_off _ _ _ _ ?_ ?_); focus (first | omega | (simp; omega))) | (with_reducible refine blk_drew _ _ ?_) | ((with_reducible refine blk_below (by assumption) ?_ ?_); focus (simp; done)) | ((with_reducible refine blk_below (by assumption) ?_ ?_); focus (first | omega | (simp; omega))))) (by rw [row_size]; kernel_rfl) (by simp [row_size]) (row_cells _ _ _ rfl) _ (row_over _ _ 12 _ _ (by simp)) ?_))
                refine ⟨⟨1, G ++ [a], by omega, by (first | rfl | (simp; done) | (simp; omega)), blk_offc _ _ _ _ (by simp; omega) E1.out, E2'.out, blk_offc _ _ _ _ (by simp; omega) E3.out, bel_cell _ (by simp; omega) E4.out, (by simp; omega), HN2⟩, ?_⟩
                simp [RowKit.intOf]
                try omega
              | 1, hsn =>
                dsimp only at hsn
                have h1 : (trainG n G).setIfInBounds (2) (.float .f32 a) = trainG n (G ++ [a]) := by rw [hsn]; exact row_s2 _ _ _ _ _ _ _
                have E2' : Hid ((wr.setCell ⟨b7, 2, none⟩ (.float .f32 a)).heap[b7]? = some (.cells (trainG n (G ++ [a])) 30 (0, 0))) := Lib.hid ((blk_ownc _ E2.out).trans (by rw [h1]))
                have cB : wr.cell? ⟨b7, 2, none⟩ = some (.float .f32 (G.getD 1 0)) := (cell_of_row wr b7 _ _ _ _ E2.out).trans (row_g2 _ _ _ _ _ _)
                have fB : wr.frozen? ⟨b7, 2, none⟩ = false := frozen_of_row wr _ _ _ _ E2.out
                clear hsn h1 e1 e2 e3 e4
                go_wp2_with (first | (go_at_call 43; with_reducible refine (hR' _).mono ?_; rintro e w2 ⟨rfl, rfl⟩) | ((with_reducible refine at_store 30 ?_); refine wpList_store_part rfl 30 _ _ rfl _ 0 _ rfl rfl _ _ (by repeat (first | (with_reducible assumption) | ((with_reducible refine blk_new _ _ _ ?_); focus (simp; done)) | ((with_reducible refine blk_old _ _ _ ?_ ?_); focus (simp; done)) | ((with_reducible refine blk_old _ _ _ ?_ ?_); focus (first | omega | (simp; omega))) | ((with_reducible apply blk_set); focus (simp; done)) | ((with_reducible refine blk_off _ _ _ _ ?_ ?_); focus (simp; done)) | ((with_reducible refine blk_offc _ _ _ _ ?_ ?_); focus (first | (simp; done) | omega | (simp; omega))) | ((with_reducible refine blk_off _ _ _ _ ?_ ?_); focus (first | omega | (simp; omega))) | (with_reducible refine blk_drew _ _ ?_) | ((with_reducible refine blk_below (by assumption) ?_ ?_); focus (simp; done)) | ((with_reducible refine blk_below (by assumption) ?_ ?_); focus (first | omega | (simp; omega))))) (by rw [row_size]; kernel_rfl) (by simp [row_size]) (row_cells _ _ _ rfl) _ (row_over _ _ 12 _ _ (by simp)) ?_))
                refine ⟨⟨2, G ++ [a], by omega, by (first | rfl | (simp; done) | (simp; omega)), blk_offc _ _ _ _ (by simp; omega) E1.out, E2'.out, blk_offc _ _ _ _ (by simp; omega) E3.out, bel_cell _ (by simp; omega) E4.out, (by simp; omega), HN2⟩, ?_⟩
                simp [RowKit.intOf]
                try omega
              | j + 2, hsn =>
                dsimp only at hsn
                have h1 : (trainG n G).setIfInBounds (3 + j) (.float .f32 a) = trainG n (G ++ [a]) := by rw [hsn]; exact (row_set _ _ _ (i := j) (by omega))
                have E2' : Hid ((wr.setCell ⟨b7, 3 + j, none⟩ (.float .f32 a)).heap[b7]? = some (.cells (trainG n (G ++ [a])) 30 (0, 0))) := Lib.hid ((blk_ownc _ E2.out).trans (by rw [h1]))
                have cB : wr.cell? ⟨b7, 3 + j, none⟩ = some (.float .f32 (trF G j)) := (cell_of_row wr b7 _ _ _ _ E2.out).trans (row_k3 _ _ _ _ _ (by omega))
                have fB : wr.frozen? ⟨b7, 3 + j, none⟩ = false := frozen_of_row wr _ _ _ _ E2.out
                clear hsn h1 e1 e2 e3 e4
                have i3 : IntKind.i64.wrap ((j : Int) + 3 - 3) = j := by rw [IntKind.wrap_i64]; omega
                go_wp2_with (first | (go_at_call 43; with_reducible refine (hR' _).mono ?_; rintro e w2 ⟨rfl, rfl⟩) | ((with_reducible refine at_store 30 ?_); refine wpList_store_part rfl 30 _ _ rfl _ 0 _ rfl rfl _ _ (by repeat (first | (with_reducible assumption) | ((with_reducible refine blk_new _ _ _ ?_); focus (simp; done)) | ((with_reducible refine blk_old _ _ _ ?_ ?_); focus (simp; done)) | ((with_reducible refine blk_old _ _ _ ?_ ?_); focus (first | omega | (simp; omega))) | ((with_reducible apply blk_set); focus (simp; done)) | ((with_reducible refine blk_off _ _ _ _ ?_ ?_); focus (simp; done)) | ((with_reducible refine blk_offc _ _ _ _ ?_ ?_); focus (first | (simp; done) | omega | (simp; omega))) | ((with_reducible refine blk_off _ _ _ _ ?_ ?_); focus (first | omega | (simp; omega))) | (with_reducible refine blk_drew _ _ ?_) | ((with_reducible refine blk_below (by assumption) ?_ ?_); focus (simp; done)) | ((with_reducible refine blk_below (by assumption) ?_ ?_); focus (first | omega | (simp; omega))))) (by rw [row_size]; kernel_rfl) (by simp [row_size]) (row_cells _ _ _ rfl) _ (row_over _ _ 12 _ _ (by simp)) ?_))
                refine ⟨⟨j + 3, G ++ [a], by omega, by (first | rfl | (simp; done) | (simp; omega)), blk_offc _ _ _ _ (by simp; omega) E1.out, E2'.out, blk_offc _ _ _ _ (by simp; omega) E3.out, bel_cell _ (by simp; omega) E4.out, (by simp; omega), HN2⟩, ?_⟩
                simp [RowKit.intOf]
                try omega
          · obtain rfl : k = n + 2 := by omega
            have i1 : ¬ ((n + 2 : Nat) : Int) + 1 < (n : Int) + 3 := by omega
            have hall : readAll ws = some G := by
              have h1 := hh.out.1
              rwa [List.take_of_length_le (by have := HNW.out; omega)] at h1
            have E2 := Lib.hid e2
            cases hbb : trainGB n G with
            | false =>
              have HF : Hid (R = train 0 0 0 (fun _ => 0) ∧ C = 5) := Lib.hid (by
                have e2 : readTR L = none := by
                  rw [HTR.out, HN.out]; show (if n < 13 ∧ ws.length = n + 2 then _ else _) = _; rw [if_pos ⟨HNN.out, HNW.out.symm⟩, hall]; show (if trainGB n G then _ else _) = _; rw [hbb]; rfl
                rw [HR.out, HC.out, e2]; exact ⟨rfl, rfl⟩)
              replace hbb : trainB n (G.getD 0 0) (G.getD 1 0) (trF G) = false := hbb
              clear hall hh
              go_wp2_with (first | (go_at_call 30; with_reducible refine (specOk_any (n : Int) (G.getD 0 0) (G.getD 1 0) (trF G) _ (by omega) (by omega) b7 E2.out).mono ?_; rintro e w' ⟨rfl, rfl⟩; rw [hbb]) | ((with_reducible refine at_store 30 ?_); refine wpList_store_part rfl 30 _ _ rfl _ 0 _ rfl rfl _ _ (by repeat (first | (with_reducible assumption) | ((with_reducible refine blk_new _ _ _ ?_); focus (simp; done)) | ((with_reducible refine blk_old _ _ _ ?_ ?_); focus (simp; done)) | ((with_reducible refine blk_old _ _ _ ?_ ?_); focus (first | omega | (simp; omega))) | ((with_reducible apply blk_set); focus (simp; done)) | ((with_reducible refine blk_off _ _ _ _ ?_ ?_); focus (simp; done)) | ((with_reducible refine blk_offc _ _ _ _ ?_ ?_); focus (first | (simp; done) | omega | (simp; omega))) | ((with_reducible refine blk_off _ _ _ _ ?_ ?_); focus (first | omega | (simp; omega))) | (with_reducible refine blk_drew _ _ ?_) | ((with_reducible refine blk_below (by assumption) ?_ ?_); focus (simp; done)) | ((with_reducible refine blk_below (by assumption) ?_ ?_); focus (first | omega | (simp; omega))))) (by rw [row_size]; kernel_rfl) (by simp [row_size]) (row_cells _ _ _ rfl) _ (row_over _ _ 12 _ _ (by simp)) ?_))
              refine bodyPost_ret (v := .tuple #[.agg (train 0 0 0 (fun _ => 0)), .int .i64 5]) ?_ ?_ ?_
              · refine results_row_tmp Tryd.results23 _ _ _ 30 (train 0 0 0 (fun _ => 0)) (0, 0) _ _ rfl rfl ?_ Tryd.underlying30 rfl (by simp only [row_size]; kernel_rfl)
                exact (by repeat (first | (with_reducible assumption) | ((with_reducible refine blk_new _ _ _ ?_); focus (simp; done)) | ((with_reducible refine blk_old _ _ _ ?_ ?_); focus (simp; done)) | ((with_reducible refine blk_old _ _ _ ?_ ?_); focus (first | omega | (simp; omega))) | ((with_reducible apply blk_set); focus (simp; done)) | ((with_reducible refine blk_off _ _ _ _ ?_ ?_); focus (simp; done)) | ((with_reducible refine blk_offc _ _ _ _ ?_ ?_); focus (first | (simp; done) | omega | (simp; omega))) | ((with_reducible refine blk_off _ _ _ _ ?_ ?_); focus (first | omega | (simp; omega))) | (with_reducible refine blk_drew _ _ ?_) | ((with_reducible refine blk_below (by assumption) ?_ ?_); focus (simp; done)) | ((with_reducible refine blk_below (by assumption) ?_ ?_); focus (first | omega | (simp; omega)))))
              · rfl
              · exact ⟨by (rw [HF.out.1, HF.out.2] <;> rfl), (by repeat (first | (with_reducible assumption) | (with_reducible exact Below.refl _ _) | ((with_reducible refine bel_alloc _ ?_ ?_); focus (first | omega | (simp; done) | (simp; omega))) | ((with_reducible refine bel_row _ ?_ ?_); focus (first | omega | (simp; done) | (simp; omega))) | ((with_reducible refine bel_cell _ ?_ ?_); focus (first | omega | (simp; done) | (simp; omega))) | (with_reducible refine Below.drew ?_) | (with_reducible refine below_wideW _ ?_) | ((with_reducible refine bel_next (by assumption) ?_ ?_); focus (first | omega | (simp; done) | (simp; omega)))))⟩
            | true =>
              have HF : Hid (R = trainG n G ∧ C = 0) := Lib.hid (by
                have e2 : readTR L = some (n, G) := by
                  rw [HTR.out, HN.out]; show (if n < 13 ∧ ws.length = n + 2 then _ else _) = _; rw [if_pos ⟨HNN.out, HNW.out.symm⟩, hall]; show (if trainGB n G then _ else _) = _; rw [hbb]; rfl
                rw [HR.out, HC.out, e2]; exact ⟨rfl, rfl⟩)
              replace hbb : trainB n (G.getD 0 0) (G.getD 1 0) (trF G) = true := hbb
              clear hall hh e2
              replace HF : Hid (R = train n (G.getD 0 0) (G.getD 1 0) (trF G) ∧ C = 0) := HF
              replace E2 : Hid (wr.heap[b7]? = some (.cells (train n (G.getD 0 0) (G.getD 1 0) (trF G)) 30 (0, 0))) := E2
              generalize G.getD 0 0 = sh at HF hbb E2
              generalize G.getD 1 0 = tk at HF hbb E2
              generalize trF G = fF at HF hbb E2
              have e2 := E2.out
              go_wp2_with (first | (go_at_call 30; with_reducible refine (specOk_any (n : Int) _ _ _ _ (by omega) (by omega) b7 E2.out).mono ?_; rintro e w' ⟨rfl, rfl⟩; rw [hbb]) | ((with_reducible refine at_load 30 ?_); refine wpList_load_part rfl 30 _ rfl _ 0 15 rfl _ _ _ _ (by repeat (first | (with_reducible assumption) | ((with_reducible refine blk_new _ _ _ ?_); focus (simp; done)) | ((with_reducible refine blk_old _ _ _ ?_ ?_); focus (simp; done)) | ((with_reducible refine blk_old _ _ _ ?_ ?_); focus (first | omega | (simp; omega))) | ((with_reducible apply blk_set); focus (simp; done)) | ((with_reducible refine blk_off _ _ _ _ ?_ ?_); focus (simp; done)) | ((with_reducible refine blk_offc _ _ _ _ ?_ ?_); focus (first | (simp; done) | omega | (simp; omega))) | ((with_reducible refine blk_off _ _ _ _ ?_ ?_); focus (first | omega | (simp; omega))) | (with_reducible refine blk_drew _ _ ?_) | ((with_reducible refine blk_below (by assumption) ?_ ?_); focus (simp; done)) | ((with_reducible refine blk_below (by assumption) ?_ ?_); focus (first | omega | (simp; omega))))) Tryd.underlying30 rfl (by kernel_rfl) (by simp [row_size]) _ (row_all [_, _, _] 12 _) ?_) | ((with_reducible refine at_store 30 ?_); refine wpList_store_part rfl 30 _ _ rfl _ 0 _ rfl rfl _ _ (by repeat (first | (with_reducible assumption) | ((with_reducible refine blk_new _ _ _ ?_); focus (simp; done)) | ((with_reducible refine blk_old _ _ _ ?_ ?_); focus (simp; done)) | ((with_reducible refine blk_old _ _ _ ?_ ?_); focus (first | omega | (simp; omega))) | ((with_reducible apply blk_set); focus (simp; done)) | ((with_reducible refine blk_off _ _ _ _ ?_ ?_); focus (simp; done)) | ((with_reducible refine blk_offc _ _ _ _ ?_ ?_); focus (first | (simp; done) | omega | (simp; omega))) | ((with_reducible refine blk_off _ _ _ _ ?_ ?_); focus (first | omega | (simp; omega))) | (with_reducible refine blk_drew _ _ ?_) | ((with_reducible refine blk_below (by assumption) ?_ ?_); focus (simp; done)) | ((with_reducible refine blk_below (by assumption) ?_ ?_); focus (first | omega | (simp; omega))))) (by rw [row_size]; kernel_rfl) (by simp [row_size]) (row_cells _ _ _ rfl) _ (row_over _ _ 12 _ _ (by simp)) ?_))
              refine bodyPost_ret (v := .tuple #[.agg (train n sh tk fF), .int .i64 0]) ?_ ?_ ?_
              · refine results_row_tmp Tryd.results23 _ _ _ 30 (train n sh tk fF) (0, 0) _ _ rfl rfl ?_ Tryd.underlying30 rfl (by simp only [row_size]; kernel_rfl)
                exact (by repeat (first | (with_reducible assumption) | ((with_reducible refine blk_new _ _ _ ?_); focus (simp; done)) | ((with_reducible refine blk_old _ _ _ ?_ ?_); focus (simp; done)) | ((with_reducible refine blk_old _ _ _ ?_ ?_); focus (first | omega | (simp; omega))) | ((with_reducible apply blk_set); focus (simp; done)) | ((with_reducible refine blk_off _ _ _ _ ?_ ?_); focus (simp; done)) | ((with_reducible refine blk_offc _ _ _ _ ?_ ?_); focus (first | (simp; done) | omega | (simp; omega))) | ((with_reducible refine blk_off _ _ _ _ ?_ ?_); focus (first | omega | (simp; omega))) | (with_reducible refine blk_drew _ _ ?_) | ((with_reducible refine blk_below (by assumption) ?_ ?_); focus (simp; done)) | ((with_reducible refine blk_below (by assumption) ?_ ?_); focus (first | omega | (simp; omega)))))
              · rfl
              · exact ⟨by (rw [HF.out.1, HF.out.2] <;> rfl), (by repeat (first | (with_reducible assumption) | (with_reducible exact Below.refl _ _) | ((with_reducible refine bel_alloc _ ?_ ?_); focus (first | omega | (simp; done) | (simp; omega))) | ((with_reducible refine bel_row _ ?_ ?_); focus (first | omega | (simp; done) | (simp; omega))) | ((with_reducible refine bel_cell _ ?_ ?_); focus (first | omega | (simp; done) | (simp; omega))) | (with_reducible refine Below.drew ?_) | (with_reducible refine below_wideW _ ?_) | ((with_reducible refine bel_next (by assumption) ?_ ?_); focus (first | omega | (simp; done) | (simp; omega)))))⟩
      · have HF : Hid (R = train 0 0 0 (fun _ => 0) ∧ C = 5) := Lib.hid (by
          have e : ¬ (n < 13 ∧ ws.length = n + 2) := fun h => hnn (by rw [HNW.out]; exact h.2)
          have e2 : readTR L = none := by rw [HTR.out, hn]; exact if_neg e
          rw [HR.out, HC.out, e2]; exact ⟨rfl, rfl⟩)
        have hnn2 : ((N3 : Int) != (n : Int) + 3) = true := by have := HN3.out; simp; omega
        clear hnn hn12
        go_wp2_with (first | (go_at_call 47; with_reducible refine (hNum _).mono ?_; rintro e w2 ⟨rfl, rfl⟩) | ((with_reducible refine at_store 30 ?_); refine wpList_store_part rfl 30 _ _ rfl _ 0 _ rfl rfl _ _ (by repeat (first | (with_reducible assumption) | ((with_reducible refine blk_new _ _ _ ?_); focus (simp; done)) | ((with_reducible refine blk_old _ _ _ ?_ ?_); focus (simp; done)) | ((with_reducible refine blk_old _ _ _ ?_ ?_); focus (first | omega | (simp; omega))) | ((with_reducible apply blk_set); focus (simp; done)) | ((with_reducible refine blk_off _ _ _ _ ?_ ?_); focus (simp; done)) | ((with_reducible refine blk_offc _ _ _ _ ?_ ?_); focus (first | (simp; done) | omega | (simp; omega))) | ((with_reducible refine blk_off _ _ _ _ ?_ ?_); focus (first | omega | (simp; omega))) | (with_reducible refine blk_drew _ _ ?_) | ((with_reducible refine blk_below (by assumption) ?_ ?_); focus (simp; done)) | ((with_reducible refine blk_below (by assumption) ?_ ?_); focus (first | omega | (simp; omega))))) (by rw [row_size]; kernel_rfl) (by simp [row_size]) (row_cells _ _ _ rfl) _ (row_over _ _ 12 _ _ (by simp)) ?_))
        refine bodyPost_ret (v := .tuple #[.agg (train 0 0 0 (fun _ => 0)), .int .i64 5]) ?_ ?_ ?_
        · refine results_row_tmp Tryd.results23 _ _ _ 30 (train 0 0 0 (fun _ => 0)) (0, 0) _ _ rfl rfl ?_ Tryd.underlying30 rfl (by simp only [row_size]; kernel_rfl)
          exact (by repeat (first | (with_reducible assumption) | ((with_reducible refine blk_new _ _ _ ?_); focus (simp; done)) | ((with_reducible refine blk_old _ _ _ ?_ ?_); focus (simp; done)) | ((with_reducible refine blk_old _ _ _ ?_ ?_); focus (first | omega | (simp; omega))) | ((with_reducible apply blk_set); focus (simp; done)) | ((with_reducible refine blk_off _ _ _ _ ?_ ?_); focus (simp; done)) | ((with_reducible refine blk_offc _ _ _ _ ?_ ?_); focus (first | (simp; done) | omega | (simp; omega))) | ((with_reducible refine blk_off _ _ _ _ ?_ ?_); focus (first | omega | (simp; omega))) | (with_reducible refine blk_drew _ _ ?_) | ((with_reducible refine blk_below (by assumption) ?_ ?_); focus (simp; done)) | ((with_reducible refine blk_below (by assumption) ?_ ?_); focus (first | omega | (simp; omega)))))
        · rfl
        · exact ⟨by (rw [HF.out.1, HF.out.2] <;> rfl), (by repeat (first | (with_reducible assumption) | (with_reducible exact Below.refl _ _) | ((with_reducible refine bel_alloc _ ?_ ?_); focus (first | omega | (simp; done) | (simp; omega))) | ((with_reducible refine bel_row _ ?_ ?_); focus (first | omega | (simp; done) | (simp; omega))) | ((with_reducible refine bel_cell _ ?_ ?_); focus (first | omega | (simp; done) | (simp; omega))) | (with_reducible refine Below.drew ?_) | (with_reducible refine below_wideW _ ?_) | ((with_reducible refine bel_next (by assumption) ?_ ?_); focus (first | omega | (simp; done) | (simp; omega)))))⟩
    · have n12 : (12 : Int) < n := by omega
      have HF : Hid (R = train 0 0 0 (fun _ => 0) ∧ C = 5) := Lib.hid (by
        have e : ¬ (n < 13 ∧ ws.length = n + 2) := fun h => hn12 h.1
        have e2 : readTR L = none := by rw [HTR.out, hn]; exact if_neg e
        rw [HR.out, HC.out, e2]; exact ⟨rfl, rfl⟩)
      clear hn12
      go_wp2_with (first | (go_at_call 47; with_reducible refine (hNum _).mono ?_; rintro e w2 ⟨rfl, rfl⟩) | ((with_reducible refine at_store 30 ?_); refine wpList_store_part rfl 30 _ _ rfl _ 0 _ rfl rfl _ _ (by repeat (first | (with_reducible assumption) | ((with_reducible refine blk_new _ _ _ ?_); focus (simp; done)) | ((with_reducible refine blk_old _ _ _ ?_ ?_); focus (simp; done)) | ((with_reducible refine blk_old _ _ _ ?_ ?_); focus (first | omega | (simp; omega))) | ((with_reducible apply blk_set); focus (simp; done)) | ((with_reducible refine blk_off _ _ _ _ ?_ ?_); focus (simp; done)) | ((with_reducible refine blk_offc _ _ _ _ ?_ ?_); focus (first | (simp; done) | omega | (simp; omega))) | ((with_reducible refine blk_off _ _ _ _ ?_ ?_); focus (first | omega | (simp; omega))) | (with_reducible refine blk_drew _ _ ?_) | ((with_reducible refine blk_below (by assumption) ?_ ?_); focus (simp; done)) | ((with_reducible refine blk_below (by assumption) ?_ ?_); focus (first | omega | (simp; omega))))) (by rw [row_size]; kernel_rfl) (by simp [row_size]) (row_cells _ _ _ rfl) _ (row_over _ _ 12 _ _ (by simp)) ?_))
      refine bodyPost_ret (v := .tuple #[.agg (train 0 0 0 (fun _ => 0)), .int .i64 5]) ?_ ?_ ?_
      · refine results_row_tmp Tryd.results23 _ _ _ 30 (train 0 0 0 (fun _ => 0)) (0, 0) _ _ rfl rfl ?_ Tryd.underlying30 rfl (by simp only [row_size]; kernel_rfl)
        exact (by repeat (first | (with_reducible assumption) | ((with_reducible refine blk_new _ _ _ ?_); focus (simp; done)) | ((with_reducible refine blk_old _ _ _ ?_ ?_); focus (simp; done)) | ((with_reducible refine blk_old _ _ _ ?_ ?_); focus (first | omega | (simp; omega))) | ((with_reducible apply blk_set); focus (simp; done)) | ((with_reducible refine blk_off _ _ _ _ ?_ ?_); focus (simp; done)) | ((with_reducible refine blk_offc _ _ _ _ ?_ ?_); focus (first | (simp; done) | omega | (simp; omega))) | ((with_reducible refine blk_off _ _ _ _ ?_ ?_); focus (first | omega | (simp; omega))) | (with_reducible refine blk_drew _ _ ?_) | ((with_reducible refine blk_below (by assumption) ?_ ?_); focus (simp; done)) | ((with_reducible refine blk_below (by assumption) ?_ ?_); focus (first | omega | (simp; omega)))))
      · rfl
      · exact ⟨by (rw [HF.out.1, HF.out.2] <;> rfl), (by repeat (first | (with_reducible assumption) | (with_reducible exact Below.refl _ _) | ((with_reducible refine bel_alloc _ ?_ ?_); focus (first | omega | (simp; done) | (simp; omega))) | ((with_reducible refine bel_row _ ?_ ?_); focus (first | omega | (simp; done) | (simp; omega))) | ((with_reducible refine bel_cell _ ?_ ?_); focus (first | omega | (simp; done) | (simp; omega))) | (with_reducible refine Below.drew ?_) | (with_reducible refine below_wideW _ ?_) | ((with_reducible refine bel_next (by assumption) ?_ ?_); focus (first | omega | (simp; done) | (simp; omega)))))⟩
end Go.Proofs.YtckcngmbbnilnaaDoor
