/- The train of a text, as the program reads it. -/
import Derived.Test.YtckcngmbbnilnaaDoorReadTQ
import Derived.Test.YtckcngmbbnilnaaDoorReadTS
import Derived.Test.YtckcngmbbnilnaaDoorLaidKit2
set_option linter.unusedVariables false
set_option linter.unusedSimpArgs false
namespace Go.Proofs.YtckcngmbbnilnaaDoor
open Go.RowKit Go.Lib

theorem norm_actR {Q : Exit → Act → World → Prop} {a a1 : Act} {w : World} (h : a = a1) (hq : Q .normal a1 w) : Q .normal a w := h ▸ hq
theorem KeptS.row {B : Nat} {w0 wr W : World} (h : KeptS B w0 wr W) (hB : B ≤ wr.heap.size) {g : Nat} (hg : wr.heap.size ≤ g) (cs : Array Value) : KeptS B w0 wr (W.setRow g cs) :=
  ⟨fun i hi => (setRow_other W g i cs (by omega)).trans (h.1 i hi), by rw [size_setRow]; exact h.2.1, Below.trans h.2.2 ⟨rfl, rfl, rfl, by rw [size_setRow]; exact Nat.le_refl _, fun k hk => setRow_other W g k cs (by omega)⟩⟩
theorem below_drewN (w : World) (k : Nat) : Below w.heap.size w (w.drewN k) := ⟨rfl, rfl, rfl, Nat.le_refl _, fun i hi => rfl⟩
theorem isRollers_any (n : Int) (b : Bool) (hb : (decide (2 ≤ n) && decide (n ≤ 12)) = b) (w : World) : Calls Tryd.prog 56 #[.int .i64 n] w fun e w' => e = .returned (.bool b) ∧ w = w' := by
  subst hb
  go_enter Tryd.func56, Tryd.ntmps56
  by_cases h1 : 2 ≤ n
  · by_cases h2 : n ≤ 12
    · go_wp2
      go_ret
      simp [h1, h2]
    · go_wp2
      go_ret
      simp [h1, h2]
  · go_wp2
    go_ret
    simp [h1]
    try omega

set_option maxHeartbeats 4000000 in
set_option maxRecDepth 100000 in
theorem implReadTrain (t : ByteArray) (hmax : t.size ≤ 1048576) (w : World) (hL : Libs w) (htab : Lib.TabIs Tryd.prog w "internal/strconv.uint64pow10" .u64 Lib.pow10Tab) (m0 : Int) (hml : w.cell? ⟨4, 0, none⟩ = some (.int .i64 m0)) (R : Array Value) (C : Int) (hR : R = rtRow (readTR t.data.toList)) (hC : C = rtCode (readTR t.data.toList)) :
    Calls Tryd.prog 24 #[.string t] w fun e w' => e = .returned (.tuple #[.agg R, .int .i64 C]) ∧ Below w.heap.size w w' := by
  have hz : (#[Value.int IntKind.i8 0, Value.float FloatKind.f32 0, Value.float FloatKind.f32 0, Value.float FloatKind.f32 0, Value.float FloatKind.f32 0, Value.float FloatKind.f32 0, Value.float FloatKind.f32 0, Value.float FloatKind.f32 0, Value.float FloatKind.f32 0, Value.float FloatKind.f32 0, Value.float FloatKind.f32 0, Value.float FloatKind.f32 0, Value.float FloatKind.f32 0, Value.float FloatKind.f32 0, Value.float FloatKind.f32 0] : Array Value) = row [Value.int IntKind.i8 0, Value.float FloatKind.f32 0, Value.float FloatKind.f32 0] 12 (fun _ => 0) := rfl
  have hMlt : 4 < w.heap.size := World.block_lt_of_cell? _ _ hml
  obtain ⟨X, hX⟩ : ∃ X : ByteArray, X = ⟨(Lib.cut t.data.toList [32]).1.toArray⟩ := ⟨_, rfl⟩
  obtain ⟨Y, hY⟩ : ∃ Y : ByteArray, Y = ⟨(Lib.cut t.data.toList [32]).2.1.toArray⟩ := ⟨_, rfl⟩
  have hXl : X.data.toList = (Lib.cut t.data.toList [32]).1 := by rw [hX]
  have hYl : Y.data.toList = (Lib.cut t.data.toList [32]).2.1 := by rw [hY]
  have hlen : t.data.toList.length = t.size := by rw [Lib.size_eq]
  have hXs : X.size ≤ 1048576 := by
    rw [hX, size_of_list]
    unfold Lib.cut
    split
    · simp; omega
    · simp; omega
  have hYs : Y.size ≤ 1048576 := by
    rw [hY, size_of_list]
    unfold Lib.cut
    split
    · simp; omega
    · simp
  obtain ⟨bb, hbb⟩ : ∃ bb, bb = (Lib.cut t.data.toList [32]).2.2 := ⟨_, rfl⟩
  have hCut : ∀ w1, Below w.heap.size w w1 → Calls Tryd.prog 51 #[.string t, .string ⟨#[32]⟩] w1 fun e w' => e = .returned (.tuple #[.string X, .string Y, .bool bb]) ∧ Below w1.heap.size w1 w' := fun w1 hb => by
    rw [hX, hY, hbb]
    exact (Tryd.strings_Cut t ⟨#[32]⟩ m0 w1 (by omega) ((hb.cell (p := ⟨4, 0, none⟩) hMlt).trans hml)).mono fun e w' ⟨h, k, hw⟩ => ⟨h, by rw [hw]; exact below_drewN _ _⟩
  have hDig : ∀ w1, Below w.heap.size w w1 → _ := fun w1 hb => implDigit X hXs w1 (hL.on hb (Nat.le_refl _)) (Go.Joins.tab_stays (g := 1) (by kernel_rfl) htab hb (Nat.le_refl _))
  have hNum : ∀ w1, Below w.heap.size w w1 → ∀ many, 1 ≤ many → many ≤ 14 → _ := fun w1 hb many h1 h2 => readNumbers_any Y hYs many h1 h2 w1 (hL.on hb (Nat.le_refl _)) m0 ((hb.cell (p := ⟨4, 0, none⟩) hMlt).trans hml)
  rw [hXl] at hDig
  rw [hYl] at hNum
  obtain ⟨L, hLL⟩ : ∃ L, L = t.data.toList := ⟨_, rfl⟩
  rw [← hLL] at hR hC hDig hNum
  have HR := Lib.hid hR
  have HC := Lib.hid hC
  have HN := Lib.hid hNum
  clear hR hC hX hY hXl hYl hlen hXs hYs hbb hL htab hml hMlt hLL hNum
  go_enter Tryd.func24, Tryd.ntmps24
  go_wp2_with (first | (go_at_call 51; with_reducible refine calls_args (b := #[.string t, .string ⟨#[32]⟩]) (by kernel_rfl) ?_; with_reducible refine (hCut _ (Below.alloc (Below.refl _ w) (Nat.le_refl _) _)).mono ?_; rintro e w1 ⟨rfl, hb1⟩))
  have B1 : Below w.heap.size w w1 := (Below.alloc (Below.refl _ w) (Nat.le_refl _) _).trans (hb1.mono (by simp))
  have hblk1 : w1.heap[w.heap.size]? = some (.cells (train 0 0 0 (fun _ => 0)) 30 (0, 0)) := blk_below hb1 (by simp) (by repeat (first | (with_reducible assumption) | ((with_reducible refine blk_new _ _ _ ?_); focus (simp; done)) | ((with_reducible refine blk_old _ _ _ ?_ ?_); focus (simp; done)) | ((with_reducible refine blk_old _ _ _ ?_ ?_); focus (first | omega | (simp; omega))) | ((with_reducible apply blk_set); focus (simp; done)) | ((with_reducible refine blk_off _ _ _ _ ?_ ?_); focus (simp; done)) | ((with_reducible refine blk_offc _ _ _ _ ?_ ?_); focus (first | (simp; done) | omega | (simp; omega))) | ((with_reducible refine blk_off _ _ _ _ ?_ ?_); focus (first | omega | (simp; omega))) | (with_reducible refine blk_drew _ _ ?_) | ((with_reducible refine blk_below (by assumption) ?_ ?_); focus (simp; done)) | ((with_reducible refine blk_below (by assumption) ?_ ?_); focus (first | omega | (simp; omega)))))
  have hz1 : w.heap.size + 1 ≤ w1.heap.size := by have := hb1.size; simpa using this
  clear hb1 hCut
  with_reducible refine (hDig _ B1).mono ?_
  rintro e w2 ⟨⟨v, rfl, n, ok, rfl, q1, q2⟩, hb2⟩
  have B2 : Below w.heap.size w w2 := B1.trans (hb2.mono B1.size)
  have hblk2 : w2.heap[w.heap.size]? = some (.cells (train 0 0 0 (fun _ => 0)) 30 (0, 0)) := blk_below hb2 (by omega) hblk1
  have hz2 : w.heap.size + 1 ≤ w2.heap.size := by have := hb2.size; omega
  have hroll := dig_roll q1 q2
  clear q1 q2 hb2 hblk1 hz1 hDig B1
  rcases hroll with ⟨m, h2, h12, rfl, rfl, hw⟩ | ⟨hno, hne⟩
  · have hIR := isRollers_any (m : Int) true (by simp; omega)
    have w2' : IntKind.i64.wrap ((m : Int) + 2) = (m : Int) + 2 := by rw [IntKind.wrap_i64]; omega
    have w8 : IntKind.i8.wrap (m : Int) = m := by simp [IntKind.wrap, IntKind.signed, IntKind.bits]; omega
    have HW := Lib.hid hw
    have hNum := fun w1 hb => HN.out w1 hb (m + 2) (by omega) (by omega)
    clear hw
    go_wp2_with (first | (go_at_call 56; with_reducible refine (hIR _).mono ?_; rintro e w3 ⟨rfl, rfl⟩))
    with_reducible refine calls_args (b := #[.string Y, .int .i64 ((m + 2 : Nat) : Int)]) (by first | kernel_rfl | simp) ?_
    with_reducible refine (hNum _ B2).mono ?_
    rintro e w3 ⟨⟨v, rfl, hv⟩, hb3⟩
    have B3 : Below w.heap.size w w3 := B2.trans (hb3.mono B2.size)
    have hblk3 : w3.heap[w.heap.size]? = some (.cells (train 0 0 0 (fun _ => 0)) 30 (0, 0)) := blk_below hb3 (by omega) hblk2
    have hz3 : w.heap.size + 1 ≤ w3.heap.size := by have := hb3.size; omega
    have hk2 : w.heap.size + 1 ≤ w2.heap.size := hz2
    clear hb3 hblk2 hz2 hNum B2
    cases hq : numsOf (Lib.cut L [32]).2.1 (m + 2) with
    | none =>
      have HF : Hid (R = train 0 0 0 (fun _ => 0) ∧ C = 5) := Lib.hid (by rw [HR.out, HC.out, readTR_none h2 h12 HW.out hq]; exact ⟨rfl, rfl⟩)
      rw [hq] at hv
      obtain ⟨sl, rfl⟩ : ∃ sl, v = .tuple #[sl, .bool false] := hv
      clear hq
      go_wp2_with (first | ((with_reducible refine at_store 30 ?_); refine wpList_store_part rfl 30 _ _ rfl _ 0 _ rfl rfl _ _ (by repeat (first | (with_reducible assumption) | ((with_reducible refine blk_new _ _ _ ?_); focus (simp; done)) | ((with_reducible refine blk_old _ _ _ ?_ ?_); focus (simp; done)) | ((with_reducible refine blk_old _ _ _ ?_ ?_); focus (first | omega | (simp; omega))) | ((with_reducible apply blk_set); focus (simp; done)) | ((with_reducible refine blk_off _ _ _ _ ?_ ?_); focus (simp; done)) | ((with_reducible refine blk_offc _ _ _ _ ?_ ?_); focus (first | (simp; done) | omega | (simp; omega))) | ((with_reducible refine blk_off _ _ _ _ ?_ ?_); focus (first | omega | (simp; omega))) | (with_reducible refine blk_drew _ _ ?_) | ((with_reducible refine blk_below (by assumption) ?_ ?_); focus (simp; done)) | ((with_reducible refine blk_below (by assumption) ?_ ?_); focus (first | omega | (simp; omega))))) (by rw [row_size]; kernel_rfl) (by simp [row_size]) (row_cells _ _ _ rfl) _ (row_over _ _ 12 _ _ (by simp)) ?_))
      refine bodyPost_ret (v := .tuple #[.agg (train 0 0 0 (fun _ => 0)), .int .i64 5]) ?_ ?_ ?_
      · refine results_row_tmp Tryd.results24 _ _ _ 30 (train 0 0 0 (fun _ => 0)) (0, 0) _ _ rfl rfl ?_ Tryd.underlying30 rfl (by simp only [row_size]; kernel_rfl)
        exact (by repeat (first | (with_reducible assumption) | ((with_reducible refine blk_new _ _ _ ?_); focus (simp; done)) | ((with_reducible refine blk_old _ _ _ ?_ ?_); focus (simp; done)) | ((with_reducible refine blk_old _ _ _ ?_ ?_); focus (first | omega | (simp; omega))) | ((with_reducible apply blk_set); focus (simp; done)) | ((with_reducible refine blk_off _ _ _ _ ?_ ?_); focus (simp; done)) | ((with_reducible refine blk_offc _ _ _ _ ?_ ?_); focus (first | (simp; done) | omega | (simp; omega))) | ((with_reducible refine blk_off _ _ _ _ ?_ ?_); focus (first | omega | (simp; omega))) | (with_reducible refine blk_drew _ _ ?_) | ((with_reducible refine blk_below (by assumption) ?_ ?_); focus (simp; done)) | ((with_reducible refine blk_below (by assumption) ?_ ?_); focus (first | omega | (simp; omega)))))
      · rfl
      · exact ⟨by (rw [HF.out.1, HF.out.2] <;> rfl), (by repeat (first | (with_reducible assumption) | (with_reducible exact Below.refl _ _) | ((with_reducible refine bel_alloc _ ?_ ?_); focus (first | omega | (simp; done) | (simp; omega))) | ((with_reducible refine bel_row _ ?_ ?_); focus (first | omega | (simp; done) | (simp; omega))) | ((with_reducible refine bel_cell _ ?_ ?_); focus (first | omega | (simp; done) | (simp; omega))) | (with_reducible refine Below.drew ?_) | (with_reducible refine below_wideW _ ?_) | ((with_reducible refine bel_next (by assumption) ?_ ?_); focus (first | omega | (simp; done) | (simp; omega)))))⟩
    | some G =>
      have hTR := Lib.hid (readTR_some h2 h12 HW.out hq)
      have hGl := (numsOf_len hq).2.1
      rw [hq] at hv
      obtain ⟨sl, rfl, hown⟩ : ∃ sl, v = .tuple #[sl, .bool true] ∧ w3.ownsRow w2.heap.size 22 1 sl (m + 2) (G.map (Value.float .f32)) := hv
      rcases hown.2 with ⟨_, h0⟩ | ⟨gl, cap, cur, rfl, hgl, hgb, hcap, hmx, hcs, htk⟩
      · exact absurd h0 (by omega)
      rw [Nat.mul_one] at htk hcs
      clear hq hown HW HN
      have hcur : ∀ j, j < m + 2 → cur[j]? = some (.float .f32 (G.getD j 0)) := fun j hj => by
        have e : cur.toList[j]? = (G.map (Value.float .f32))[j]? := by rw [← htk, List.getElem?_take, if_pos hj]
        rw [← Array.getElem?_toList, e]
        simp [List.getD, show j < G.length by omega]
      have hcl : ∀ j, j < m + 2 → w3.cell? ⟨gl, j, none⟩ = some (.float .f32 (G.getD j 0)) := fun j hj => (cell_of_row w3 gl j _ _ _ hgb).trans (hcur j hj)
      have hgl3 : gl < w3.heap.size := World.block_lt_of_cell? _ _ (hcl 0 (by omega))
      have k0 := hcl 0 (by omega)
      have k1 := hcl 1 (by omega)
      obtain ⟨s0, hs0⟩ : ∃ x, x = G.getD 0 0 := ⟨_, rfl⟩
      obtain ⟨t0, ht0⟩ : ∃ x, x = G.getD 1 0 := ⟨_, rfl⟩
      obtain ⟨fF, hfF⟩ : ∃ x, x = trF G := ⟨_, rfl⟩
      rw [← hs0] at k0
      rw [← ht0] at k1
      have hpaste : ((train m s0 t0 (fun _ => 0)).toList.take 3 ++ ((G.drop 2).map (Value.float .f32) ++ (train m s0 t0 (fun _ => 0)).toList.drop (3 + ((G.drop 2).map (Value.float .f32)).length))).toArray = train m s0 t0 fF := by
        have := row_paste (tpre m s0 t0) 12 (fun _ => 0) 0 (G.drop 2) (by simp; omega)
        refine this.trans (row_congr _ _ _ fun i hi => ?_)
        rw [hfF]
        unfold trF
        by_cases h : i < (G.drop 2).length
        · rw [if_pos ⟨by omega, by omega⟩]
          simp [List.getD, List.getElem?_drop, Nat.add_comm]
        · rw [if_neg (by omega)]
          simp at h
          simp [List.getD, List.getElem?_eq_none (show G.length ≤ i + 2 by omega)]
      have hRC : ∀ b, trainB m s0 t0 fF = b → R = (if b then train m s0 t0 fF else train 0 0 0 (fun _ => 0)) ∧ C = (if b then 0 else 5) := by
        intro b hb
        rw [hs0, ht0, hfF] at hb
        rw [HR.out, HC.out, hTR.out, show trainGB m G = b from hb]
        cases b
        · exact ⟨rfl, rfl⟩
        · exact ⟨by rw [hs0, ht0, hfF]; rfl, rfl⟩
      have hlen2 : ((G.drop 2).map (Value.float .f32)).length = m := by simp; omega
      have hsrc : ∀ j v, ((G.drop 2).map (Value.float .f32))[j]? = some v → w3.cell? ⟨gl, 2 + j, none⟩ = some v := fun j v hj => by
        have hjm : j < m := by
          have := (List.getElem?_eq_some_iff.1 hj).1
          omega
        rw [hcl (2 + j) (by omega), ← hj]
        simp [List.getD, show 2 + j < G.length by omega]
      obtain ⟨cs, hcsd⟩ : ∃ cs, cs = (G.drop 2).map (Value.float .f32) := ⟨_, rfl⟩
      rw [← hcsd] at hpaste hlen2 hsrc
      have hone : ∀ v ∈ cs, v.oneCell' = true := by
        intro v hv
        rw [hcsd] at hv
        obtain ⟨y, _, rfl⟩ := List.mem_map.1 hv
        rfl
      have HP := Lib.hid hpaste
      have HRC := Lib.hid hRC
      have HSRC := Lib.hid hsrc
      have HLEN := Lib.hid hlen2
      have hBB : w.heap.size ≤ w3.heap.size := B3.size
      have hBlt : w.heap.size < w3.heap.size := by omega
      have hm2 : 2 ≤ m + 2 := by omega
      have hrow2 : ¬ (row [Value.int IntKind.i8 0, Value.float FloatKind.f32 0, Value.float FloatKind.f32 0] 12 (fun _ => 0)).size < 2 := by rw [row_size]; simp
      have hrow3 : ¬ (row [Value.int IntKind.i8 0, Value.float FloatKind.f32 0, Value.float FloatKind.f32 0] 12 (fun _ => 0)).size < 3 := by rw [row_size]; simp
      have hrow : ¬ (row [Value.int IntKind.i8 0, Value.float FloatKind.f32 0, Value.float FloatKind.f32 0] 12 (fun _ => 0)) = #[] := fun h => by have := congrArg Array.size h; simp [row_size] at this
      clear hpaste hcur htk hcl hRC hsrc hlen2 hcsd hs0 ht0 hfF HR HC hTR hGl hcs hmx
      go_wp2
      refine wp_region_held_drew (S := fun w' => KeptS w.heap.size w w3 w') (by kernel_rfl) (KeptS.refl B3).drew (fun hS => ?_)
      refine held_yield 0 rfl rfl (by kernel_rfl) (by kernel_rfl) (by kernel_rfl) (fun _ _ _ _ h => h) (.int .i64 m) (fun w' hw' => by go_simp) hS ?_
      refine held_yield 1 rfl rfl (by kernel_rfl) (by kernel_rfl) (by kernel_rfl) (fun _ _ _ _ h => h) (.int .i8 m) (fun w' hw' => by go_simp) hS ?_
      refine held_yield 2 rfl rfl (by kernel_rfl) (by kernel_rfl) (by kernel_rfl) (fun _ _ _ _ h => h) (.slice (some ⟨gl, 0, none⟩) (m + 2) cap) (fun w' hw' => by go_simp) hS ?_
      refine held_yield 3 rfl rfl (by kernel_rfl) (by kernel_rfl) (by kernel_rfl) (fun _ _ _ _ h => h) (.pointer (some ⟨gl, 0, none⟩)) (fun w' hw' => by (go_simp; intro h; omega)) hS ?_
      refine held_yield 4 rfl rfl (by kernel_rfl) (by kernel_rfl) (by kernel_rfl) (fun _ _ _ _ h => h) (.float .f32 s0) (fun w' hw' => by (have c := (hw'.cell (p := ⟨gl, 0, none⟩) hgl3).trans k0; go_simp)) hS ?_
      refine held_yield 5 rfl rfl (by kernel_rfl) (by kernel_rfl) (by kernel_rfl) (fun _ _ _ _ h => h) (.slice (some ⟨gl, 0, none⟩) (m + 2) cap) (fun w' hw' => by go_simp) hS ?_
      refine held_yield 6 rfl rfl (by kernel_rfl) (by kernel_rfl) (by kernel_rfl) (fun _ _ _ _ h => h) (.pointer (some ⟨gl, 1, none⟩)) (fun w' hw' => by (go_simp; intro h; omega)) hS ?_
      refine held_yield 7 rfl rfl (by kernel_rfl) (by kernel_rfl) (by kernel_rfl) (fun _ _ _ _ h => h) (.float .f32 t0) (fun w' hw' => by (have c := (hw'.cell (p := ⟨gl, 1, none⟩) hgl3).trans k1; go_simp)) hS ?_
      refine held_yield 8 rfl rfl (by kernel_rfl) (by kernel_rfl) (by kernel_rfl) (fun _ _ _ _ h => h) (.agg (train m s0 t0 (fun _ => 0))) (fun w' hw' => by (have hne := hrow; have hne2 := hrow2; have hne3 := hrow3; go_simp)) hS ?_
      refine held_one 9 (by kernel_rfl) rfl rfl ?_
      with_reducible refine oper_value (.pointer (some ⟨w3.drew.heap.size, 0, none⟩)) (w1 := w3.drew.alloc (.cells (train 0 0 0 (fun _ => 0)) 30 (0, 0))) ?he ?_
      case he => first | kernel_rfl | go_simp
      have hk0 := hS.alloc hBB (.cells (train 0 0 0 (fun _ => 0)) 30 (0, 0))
      obtain ⟨bk0, hbk0⟩ : ∃ b, b = w3.drew.heap.size := ⟨_, rfl⟩
      obtain ⟨V0, hV0⟩ : ∃ V, V = w3.drew.alloc (.cells (train 0 0 0 (fun _ => 0)) 30 (0, 0)) := ⟨_, rfl⟩
      have hn0 : V0.heap[bk0]? = some (.cells (train 0 0 0 (fun _ => 0)) 30 (0, 0)) := by rw [hV0, hbk0]; exact heap_alloc_new _ _
      have hz0 : bk0 < V0.heap.size := by rw [hV0, hbk0]; simp
      rw [← hV0] at hk0 ⊢
      rw [← hbk0]
      have hge0 : w3.heap.size ≤ bk0 := by rw [hbk0]; exact hS.2.1
      clear hV0 hbk0
      refine ⟨hk0, ?_⟩
      refine held_store 10 (by kernel_rfl) rfl rfl 30 (.tmp 11) (.tmp 49) rfl bk0 0 (train m s0 t0 (fun _ => 0)) (by kernel_rfl) (by kernel_rfl) _ (train 0 0 0 (fun _ => 0)) hn0 (by rw [row_size]; kernel_rfl) (by simp [row_size]) (row_cells _ _ _ rfl) _ (row_over _ _ 12 _ _ (by simp)) (hk0.row hBB hge0 _) ?_
      have hk1 := hk0.row hBB hge0 (train m s0 t0 (fun _ => 0))
      have hn1 : (V0.setRow bk0 (train m s0 t0 (fun _ => 0))).heap[bk0]? = some (.cells (train m s0 t0 (fun _ => 0)) 30 (0, 0)) := setRow_heap V0 bk0 _ _ _ _ hn0
      have hz1 : bk0 < (V0.setRow bk0 (train m s0 t0 (fun _ => 0))).heap.size := (Array.getElem?_eq_some_iff.1 hn1).1
      generalize V0.setRow bk0 (train m s0 t0 (fun _ => 0)) = W5 at hk1 hn1 hz1 ⊢
      clear hn0 hk0 hz0
      refine wpAnyH_done (by kernel_rfl) ?_ _
      refine norm_actR (a1 := ({ tmps := ((Value.string t) :: undef :: (Value.pointer (some ⟨w.heap.size, 0, none⟩)) :: (Value.int .i64 0) :: (Value.string X) :: (Value.string Y) :: (Value.bool bb) :: (Value.int .i64 m) :: (Value.bool true) :: (Value.slice (some ⟨gl, 0, none⟩) (m + 2) cap) :: (Value.bool true) :: (Value.pointer (some ⟨bk0, 0, none⟩)) :: (Value.tuple #[.string X, .string Y, .bool bb]) :: (Value.string t) :: (Value.tuple #[.string X, .string Y, .bool bb]) :: (Value.string X) :: (Value.string Y) :: (Value.bool bb) :: (Value.tuple #[.int .i64 m, .bool true]) :: (Value.string X) :: (Value.tuple #[.int .i64 m, .bool true]) :: (Value.int .i64 m) :: (Value.bool true) :: (Value.bool true) :: (Value.bool false) :: (Value.bool false) :: (Value.int .i64 m) :: (Value.bool true) :: (Value.bool false) :: (Value.bool false) :: undef :: (Value.tuple #[.slice (some ⟨gl, 0, none⟩) (m + 2) cap, .bool true]) :: (Value.string Y) :: (Value.int .i64 m) :: (Value.int .i64 ((m : Int) + 2)) :: (Value.tuple #[.slice (some ⟨gl, 0, none⟩) (m + 2) cap, .bool true]) :: (Value.slice (some ⟨gl, 0, none⟩) (m + 2) cap) :: (Value.bool true) :: (Value.bool true) :: (Value.bool false) :: undef :: (Value.int .i64 m) :: (Value.int .i8 m) :: (Value.slice (some ⟨gl, 0, none⟩) (m + 2) cap) :: (Value.pointer (some ⟨gl, 0, none⟩)) :: (Value.float .f32 s0) :: (Value.slice (some ⟨gl, 0, none⟩) (m + 2) cap) :: (Value.pointer (some ⟨gl, 1, none⟩)) :: (Value.float .f32 t0) :: (Value.agg (train m s0 t0 (fun _ => 0))) :: undef :: undef :: undef :: undef :: undef :: undef :: undef :: undef :: undef :: undef :: []).toArray, defers := [] } : Act)) (by kernel_rfl) ?_
      go_wp2
      refine wp_region_held_drew (S := fun w' => KeptS w.heap.size w w3 w') (by kernel_rfl) hk1.drew (fun hS => ?_)
      refine held_yield 0 rfl rfl (by kernel_rfl) (by kernel_rfl) (by kernel_rfl) (fun _ _ _ _ h => h) (.pointer (some ⟨bk0, 3, none⟩)) (fun w' hw' => by go_simp) hS ?_
      refine held_yield 1 rfl rfl (by kernel_rfl) (by kernel_rfl) (by kernel_rfl) (fun _ _ _ _ h => h) (.slice (some ⟨bk0, 3, none⟩) 12 12) (fun w' hw' => by go_simp) hS ?_
      refine held_yield 2 rfl rfl (by kernel_rfl) (by kernel_rfl) (by kernel_rfl) (fun _ _ _ _ h => h) (.slice (some ⟨gl, 0, none⟩) (m + 2) cap) (fun w' hw' => by go_simp) hS ?_
      refine held_yield 3 rfl rfl (by kernel_rfl) (by kernel_rfl) (by kernel_rfl) (fun _ _ _ _ h => h) (.slice (some ⟨gl, 2, none⟩) m (cap - 2)) (fun w' hw' => by (have e1 : ¬ cap = 2 := (by omega); have e2 : (2 : Int) ≤ (m : Int) + 2 := (by omega); have e3 : (m : Int) + 2 ≤ (cap : Int) := (by omega); go_simp)) hS ?_
      refine held_one 4 (by kernel_rfl) rfl rfl ?_
      refine oper_copy (.tmp 51) (.tmp 53) _ _ rfl 22 Tryd.underlying64 (by kernel_rfl) bk0 3 12 12 ⟨gl, 2, none⟩ m (cap - 2) (by kernel_rfl) (by kernel_rfl) _ _ (blk_drew _ _ hn1) cs (by rw [HLEN.out]; exact (Nat.min_eq_left h12).symm) (fun j v hj => by have h := (hS.cell (p := ⟨gl, 2 + j, none⟩) hgl3).trans (HSRC.out j v hj); rw [show ((⟨gl, 2, none⟩ : Addr).add j) = ⟨gl, 2 + j, none⟩ from by cases j <;> simp [Addr.add]]; exact h) (by rw [HLEN.out, row_size]; simp; omega) hone ?_
      rw [HP.out]
      have hk2 := hS.row hBB hge0 (train m s0 t0 fF)
      have hn2 : (W5.drew.setRow bk0 (train m s0 t0 fF)).heap[bk0]? = some (.cells (train m s0 t0 fF) 30 (0, 0)) := setRow_heap _ bk0 _ _ _ _ (blk_drew _ _ hn1)
      refine ⟨hk2, ?_⟩
      generalize W5.drew.setRow bk0 (train m s0 t0 fF) = W6 at hk2 hn2 ⊢
      have hz2 : bk0 < W6.heap.size := (Array.getElem?_eq_some_iff.1 hn2).1
      have B6 : Below w.heap.size w W6 := hk2.2.2
      have hblk6 : W6.heap[w.heap.size]? = some (.cells (train 0 0 0 (fun _ => 0)) 30 (0, 0)) := (hk2.1 _ hBlt).trans hblk3
      clear hn1 hk1 hz1 hk2 hS hblk3 B3 k0 k1 hgb hcap hgl hone HP HSRC
      refine wpAnyH_done (by kernel_rfl) ?_ _
      rw [HLEN.out]
      refine norm_actR (a1 := ({ tmps := ((Value.string t) :: undef :: (Value.pointer (some ⟨w.heap.size, 0, none⟩)) :: (Value.int .i64 0) :: (Value.string X) :: (Value.string Y) :: (Value.bool bb) :: (Value.int .i64 m) :: (Value.bool true) :: (Value.slice (some ⟨gl, 0, none⟩) (m + 2) cap) :: (Value.bool true) :: (Value.pointer (some ⟨bk0, 0, none⟩)) :: (Value.tuple #[.string X, .string Y, .bool bb]) :: (Value.string t) :: (Value.tuple #[.string X, .string Y, .bool bb]) :: (Value.string X) :: (Value.string Y) :: (Value.bool bb) :: (Value.tuple #[.int .i64 m, .bool true]) :: (Value.string X) :: (Value.tuple #[.int .i64 m, .bool true]) :: (Value.int .i64 m) :: (Value.bool true) :: (Value.bool true) :: (Value.bool false) :: (Value.bool false) :: (Value.int .i64 m) :: (Value.bool true) :: (Value.bool false) :: (Value.bool false) :: undef :: (Value.tuple #[.slice (some ⟨gl, 0, none⟩) (m + 2) cap, .bool true]) :: (Value.string Y) :: (Value.int .i64 m) :: (Value.int .i64 ((m : Int) + 2)) :: (Value.tuple #[.slice (some ⟨gl, 0, none⟩) (m + 2) cap, .bool true]) :: (Value.slice (some ⟨gl, 0, none⟩) (m + 2) cap) :: (Value.bool true) :: (Value.bool true) :: (Value.bool false) :: undef :: (Value.int .i64 m) :: (Value.int .i8 m) :: (Value.slice (some ⟨gl, 0, none⟩) (m + 2) cap) :: (Value.pointer (some ⟨gl, 0, none⟩)) :: (Value.float .f32 s0) :: (Value.slice (some ⟨gl, 0, none⟩) (m + 2) cap) :: (Value.pointer (some ⟨gl, 1, none⟩)) :: (Value.float .f32 t0) :: (Value.agg (train m s0 t0 (fun _ => 0))) :: (Value.pointer (some ⟨bk0, 3, none⟩)) :: (Value.slice (some ⟨bk0, 3, none⟩) 12 12) :: (Value.slice (some ⟨gl, 0, none⟩) (m + 2) cap) :: (Value.slice (some ⟨gl, 2, none⟩) m (cap - 2)) :: (Value.int .i64 m) :: undef :: undef :: undef :: undef :: undef :: []).toArray, defers := [] } : Act)) (by kernel_rfl) ?_
      cases hv : trainB m s0 t0 fF with
      | false =>
        have HF : Hid (R = train 0 0 0 (fun _ => 0) ∧ C = 5) := Lib.hid (HRC.out false hv)
        go_wp2_with (first | (go_at_call 34; (with_reducible refine (implOk_any (m : Int) s0 t0 fF _ (by omega) (by omega)).mono ?_); rintro e w7 ⟨rfl, hb7⟩; rw [hv]; have hz7 := hb7.size; (try simp at hz7); obtain ⟨hc7, hf7⟩ := bcell hb7) | ((with_reducible refine at_load 30 ?_); refine wpList_load_part rfl 30 _ rfl _ 0 15 rfl _ _ _ _ (by repeat (first | (with_reducible assumption) | ((with_reducible refine blk_new _ _ _ ?_); focus (simp; done)) | ((with_reducible refine blk_old _ _ _ ?_ ?_); focus (simp; done)) | ((with_reducible refine blk_old _ _ _ ?_ ?_); focus (first | omega | (simp; omega))) | ((with_reducible apply blk_set); focus (simp; done)) | ((with_reducible refine blk_off _ _ _ _ ?_ ?_); focus (simp; done)) | ((with_reducible refine blk_offc _ _ _ _ ?_ ?_); focus (first | (simp; done) | omega | (simp; omega))) | ((with_reducible refine blk_off _ _ _ _ ?_ ?_); focus (first | omega | (simp; omega))) | (with_reducible refine blk_drew _ _ ?_) | ((with_reducible refine blk_below (by assumption) ?_ ?_); focus (simp; done)) | ((with_reducible refine blk_below (by assumption) ?_ ?_); focus (first | omega | (simp; omega))))) Tryd.underlying30 rfl (by kernel_rfl) (by simp [row_size]) _ (row_all [_, _, _] 12 _) ?_) | ((with_reducible refine at_store 30 ?_); refine wpList_store_part rfl 30 _ _ rfl _ 0 _ rfl rfl _ _ (by repeat (first | (with_reducible assumption) | ((with_reducible refine blk_new _ _ _ ?_); focus (simp; done)) | ((with_reducible refine blk_old _ _ _ ?_ ?_); focus (simp; done)) | ((with_reducible refine blk_old _ _ _ ?_ ?_); focus (first | omega | (simp; omega))) | ((with_reducible apply blk_set); focus (simp; done)) | ((with_reducible refine blk_off _ _ _ _ ?_ ?_); focus (simp; done)) | ((with_reducible refine blk_offc _ _ _ _ ?_ ?_); focus (first | (simp; done) | omega | (simp; omega))) | ((with_reducible refine blk_off _ _ _ _ ?_ ?_); focus (first | omega | (simp; omega))) | (with_reducible refine blk_drew _ _ ?_) | ((with_reducible refine blk_below (by assumption) ?_ ?_); focus (simp; done)) | ((with_reducible refine blk_below (by assumption) ?_ ?_); focus (first | omega | (simp; omega))))) (by rw [row_size]; kernel_rfl) (by simp [row_size]) (row_cells _ _ _ rfl) _ (row_over _ _ 12 _ _ (by simp)) ?_))
        refine bodyPost_ret (v := .tuple #[.agg (train 0 0 0 (fun _ => 0)), .int .i64 5]) ?_ ?_ ?_
        · refine results_row_tmp Tryd.results24 _ _ _ 30 (train 0 0 0 (fun _ => 0)) (0, 0) _ _ rfl rfl ?_ Tryd.underlying30 rfl (by simp only [row_size]; kernel_rfl)
          exact (by repeat (first | (with_reducible assumption) | ((with_reducible refine blk_new _ _ _ ?_); focus (simp; done)) | ((with_reducible refine blk_old _ _ _ ?_ ?_); focus (simp; done)) | ((with_reducible refine blk_old _ _ _ ?_ ?_); focus (first | omega | (simp; omega))) | ((with_reducible apply blk_set); focus (simp; done)) | ((with_reducible refine blk_off _ _ _ _ ?_ ?_); focus (simp; done)) | ((with_reducible refine blk_offc _ _ _ _ ?_ ?_); focus (first | (simp; done) | omega | (simp; omega))) | ((with_reducible refine blk_off _ _ _ _ ?_ ?_); focus (first | omega | (simp; omega))) | (with_reducible refine blk_drew _ _ ?_) | ((with_reducible refine blk_below (by assumption) ?_ ?_); focus (simp; done)) | ((with_reducible refine blk_below (by assumption) ?_ ?_); focus (first | omega | (simp; omega)))))
        · rfl
        · exact ⟨by (rw [HF.out.1, HF.out.2] <;> rfl), (by repeat (first | (with_reducible assumption) | (with_reducible exact Below.refl _ _) | ((with_reducible refine bel_alloc _ ?_ ?_); focus (first | omega | (simp; done) | (simp; omega))) | ((with_reducible refine bel_row _ ?_ ?_); focus (first | omega | (simp; done) | (simp; omega))) | ((with_reducible refine bel_cell _ ?_ ?_); focus (first | omega | (simp; done) | (simp; omega))) | (with_reducible refine Below.drew ?_) | (with_reducible refine below_wideW _ ?_) | ((with_reducible refine bel_next (by assumption) ?_ ?_); focus (first | omega | (simp; done) | (simp; omega)))))⟩
      | true =>
        have HF : Hid (R = train m s0 t0 fF ∧ C = 0) := Lib.hid (HRC.out true hv)
        go_wp2_with (first | (go_at_call 34; (with_reducible refine (implOk_any (m : Int) s0 t0 fF _ (by omega) (by omega)).mono ?_); rintro e w7 ⟨rfl, hb7⟩; rw [hv]; have hz7 := hb7.size; (try simp at hz7); obtain ⟨hc7, hf7⟩ := bcell hb7) | ((with_reducible refine at_load 30 ?_); refine wpList_load_part rfl 30 _ rfl _ 0 15 rfl _ _ _ _ (by repeat (first | (with_reducible assumption) | ((with_reducible refine blk_new _ _ _ ?_); focus (simp; done)) | ((with_reducible refine blk_old _ _ _ ?_ ?_); focus (simp; done)) | ((with_reducible refine blk_old _ _ _ ?_ ?_); focus (first | omega | (simp; omega))) | ((with_reducible apply blk_set); focus (simp; done)) | ((with_reducible refine blk_off _ _ _ _ ?_ ?_); focus (simp; done)) | ((with_reducible refine blk_offc _ _ _ _ ?_ ?_); focus (first | (simp; done) | omega | (simp; omega))) | ((with_reducible refine blk_off _ _ _ _ ?_ ?_); focus (first | omega | (simp; omega))) | (with_reducible refine blk_drew _ _ ?_) | ((with_reducible refine blk_below (by assumption) ?_ ?_); focus (simp; done)) | ((with_reducible refine blk_below (by assumption) ?_ ?_); focus (first | omega | (simp; omega))))) Tryd.underlying30 rfl (by kernel_rfl) (by simp [row_size]) _ (row_all [_, _, _] 12 _) ?_) | ((with_reducible refine at_store 30 ?_); refine wpList_store_part rfl 30 _ _ rfl _ 0 _ rfl rfl _ _ (by repeat (first | (with_reducible assumption) | ((with_reducible refine blk_new _ _ _ ?_); focus (simp; done)) | ((with_reducible refine blk_old _ _ _ ?_ ?_); focus (simp; done)) | ((with_reducible refine blk_old _ _ _ ?_ ?_); focus (first | omega | (simp; omega))) | ((with_reducible apply blk_set); focus (simp; done)) | ((with_reducible refine blk_off _ _ _ _ ?_ ?_); focus (simp; done)) | ((with_reducible refine blk_offc _ _ _ _ ?_ ?_); focus (first | (simp; done) | omega | (simp; omega))) | ((with_reducible refine blk_off _ _ _ _ ?_ ?_); focus (first | omega | (simp; omega))) | (with_reducible refine blk_drew _ _ ?_) | ((with_reducible refine blk_below (by assumption) ?_ ?_); focus (simp; done)) | ((with_reducible refine blk_below (by assumption) ?_ ?_); focus (first | omega | (simp; omega))))) (by rw [row_size]; kernel_rfl) (by simp [row_size]) (row_cells _ _ _ rfl) _ (row_over _ _ 12 _ _ (by simp)) ?_))
        refine bodyPost_ret (v := .tuple #[.agg (train m s0 t0 fF), .int .i64 0]) ?_ ?_ ?_
        · refine results_row_tmp Tryd.results24 _ _ _ 30 (train m s0 t0 fF) (0, 0) _ _ rfl rfl ?_ Tryd.underlying30 rfl (by simp only [row_size]; kernel_rfl)
          exact (by repeat (first | (with_reducible assumption) | ((with_reducible refine blk_new _ _ _ ?_); focus (simp; done)) | ((with_reducible refine blk_old _ _ _ ?_ ?_); focus (simp; done)) | ((with_reducible refine blk_old _ _ _ ?_ ?_); focus (first | omega | (simp; omega))) | ((with_reducible apply blk_set); focus (simp; done)) | ((with_reducible refine blk_off _ _ _ _ ?_ ?_); focus (simp; done)) | ((with_reducible refine blk_offc _ _ _ _ ?_ ?_); focus (first | (simp; done) | omega | (simp; omega))) | ((with_reducible refine blk_off _ _ _ _ ?_ ?_); focus (first | omega | (simp; omega))) | (with_reducible refine blk_drew _ _ ?_) | ((with_reducible refine blk_below (by assumption) ?_ ?_); focus (simp; done)) | ((with_reducible refine blk_below (by assumption) ?_ ?_); focus (first | omega | (simp; omega)))))
        · rfl
        · exact ⟨by (rw [HF.out.1, HF.out.2] <;> rfl), (by repeat (first | (with_reducible assumption) | (with_reducible exact Below.refl _ _) | ((with_reducible refine bel_alloc _ ?_ ?_); focus (first | omega | (simp; done) | (simp; omega))) | ((with_reducible refine bel_row _ ?_ ?_); focus (first | omega | (simp; done) | (simp; omega))) | ((with_reducible refine bel_cell _ ?_ ?_); focus (first | omega | (simp; done) | (simp; omega))) | (with_reducible refine Below.drew ?_) | (with_reducible refine below_wideW _ ?_) | ((with_reducible refine bel_next (by assumption) ?_ ?_); focus (first | omega | (simp; done) | (simp; omega)))))⟩
  · have HF : Hid (R = train 0 0 0 (fun _ => 0) ∧ C = 5) := Lib.hid (by rw [HR.out, HC.out, readTR_no hne]; exact ⟨rfl, rfl⟩)
    clear hne HN
    cases ok with
    | false =>
      clear hno
      go_wp2_with (first | ((with_reducible refine at_store 30 ?_); refine wpList_store_part rfl 30 _ _ rfl _ 0 _ rfl rfl _ _ (by repeat (first | (with_reducible assumption) | ((with_reducible refine blk_new _ _ _ ?_); focus (simp; done)) | ((with_reducible refine blk_old _ _ _ ?_ ?_); focus (simp; done)) | ((with_reducible refine blk_old _ _ _ ?_ ?_); focus (first | omega | (simp; omega))) | ((with_reducible apply blk_set); focus (simp; done)) | ((with_reducible refine blk_off _ _ _ _ ?_ ?_); focus (simp; done)) | ((with_reducible refine blk_offc _ _ _ _ ?_ ?_); focus (first | (simp; done) | omega | (simp; omega))) | ((with_reducible refine blk_off _ _ _ _ ?_ ?_); focus (first | omega | (simp; omega))) | (with_reducible refine blk_drew _ _ ?_) | ((with_reducible refine blk_below (by assumption) ?_ ?_); focus (simp; done)) | ((with_reducible refine blk_below (by assumption) ?_ ?_); focus (first | omega | (simp; omega))))) (by rw [row_size]; kernel_rfl) (by simp [row_size]) (row_cells _ _ _ rfl) _ (row_over _ _ 12 _ _ (by simp)) ?_))
      refine bodyPost_ret (v := .tuple #[.agg (train 0 0 0 (fun _ => 0)), .int .i64 5]) ?_ ?_ ?_
      · refine results_row_tmp Tryd.results24 _ _ _ 30 (train 0 0 0 (fun _ => 0)) (0, 0) _ _ rfl rfl ?_ Tryd.underlying30 rfl (by simp only [row_size]; kernel_rfl)
        exact (by repeat (first | (with_reducible assumption) | ((with_reducible refine blk_new _ _ _ ?_); focus (simp; done)) | ((with_reducible refine blk_old _ _ _ ?_ ?_); focus (simp; done)) | ((with_reducible refine blk_old _ _ _ ?_ ?_); focus (first | omega | (simp; omega))) | ((with_reducible apply blk_set); focus (simp; done)) | ((with_reducible refine blk_off _ _ _ _ ?_ ?_); focus (simp; done)) | ((with_reducible refine blk_offc _ _ _ _ ?_ ?_); focus (first | (simp; done) | omega | (simp; omega))) | ((with_reducible refine blk_off _ _ _ _ ?_ ?_); focus (first | omega | (simp; omega))) | (with_reducible refine blk_drew _ _ ?_) | ((with_reducible refine blk_below (by assumption) ?_ ?_); focus (simp; done)) | ((with_reducible refine blk_below (by assumption) ?_ ?_); focus (first | omega | (simp; omega)))))
      · rfl
      · exact ⟨by (rw [HF.out.1, HF.out.2] <;> rfl), (by repeat (first | (with_reducible assumption) | (with_reducible exact Below.refl _ _) | ((with_reducible refine bel_alloc _ ?_ ?_); focus (first | omega | (simp; done) | (simp; omega))) | ((with_reducible refine bel_row _ ?_ ?_); focus (first | omega | (simp; done) | (simp; omega))) | ((with_reducible refine bel_cell _ ?_ ?_); focus (first | omega | (simp; done) | (simp; omega))) | (with_reducible refine Below.drew ?_) | (with_reducible refine below_wideW _ ?_) | ((with_reducible refine bel_next (by assumption) ?_ ?_); focus (first | omega | (simp; done) | (simp; omega)))))⟩
    | true =>
      have hIR := isRollers_any n false (by
        have : n < 2 ∨ 12 < n := by simpa using hno
        rw [Bool.and_eq_false_iff]
        rcases this with h | h
        · exact Or.inl (by simp; omega)
        · exact Or.inr (by simp; omega))
      clear hno
      go_wp2_with (first | (go_at_call 56; with_reducible refine (hIR _).mono ?_; rintro e w3 ⟨rfl, rfl⟩) | ((with_reducible refine at_store 30 ?_); refine wpList_store_part rfl 30 _ _ rfl _ 0 _ rfl rfl _ _ (by repeat (first | (with_reducible assumption) | ((with_reducible refine blk_new _ _ _ ?_); focus (simp; done)) | ((with_reducible refine blk_old _ _ _ ?_ ?_); focus (simp; done)) | ((with_reducible refine blk_old _ _ _ ?_ ?_); focus (first | omega | (simp; omega))) | ((with_reducible apply blk_set); focus (simp; done)) | ((with_reducible refine blk_off _ _ _ _ ?_ ?_); focus (simp; done)) | ((with_reducible refine blk_offc _ _ _ _ ?_ ?_); focus (first | (simp; done) | omega | (simp; omega))) | ((with_reducible refine blk_off _ _ _ _ ?_ ?_); focus (first | omega | (simp; omega))) | (with_reducible refine blk_drew _ _ ?_) | ((with_reducible refine blk_below (by assumption) ?_ ?_); focus (simp; done)) | ((with_reducible refine blk_below (by assumption) ?_ ?_); focus (first | omega | (simp; omega))))) (by rw [row_size]; kernel_rfl) (by simp [row_size]) (row_cells _ _ _ rfl) _ (row_over _ _ 12 _ _ (by simp)) ?_))
      refine bodyPost_ret (v := .tuple #[.agg (train 0 0 0 (fun _ => 0)), .int .i64 5]) ?_ ?_ ?_
      · refine results_row_tmp Tryd.results24 _ _ _ 30 (train 0 0 0 (fun _ => 0)) (0, 0) _ _ rfl rfl ?_ Tryd.underlying30 rfl (by simp only [row_size]; kernel_rfl)
        exact (by repeat (first | (with_reducible assumption) | ((with_reducible refine blk_new _ _ _ ?_); focus (simp; done)) | ((with_reducible refine blk_old _ _ _ ?_ ?_); focus (simp; done)) | ((with_reducible refine blk_old _ _ _ ?_ ?_); focus (first | omega | (simp; omega))) | ((with_reducible apply blk_set); focus (simp; done)) | ((with_reducible refine blk_off _ _ _ _ ?_ ?_); focus (simp; done)) | ((with_reducible refine blk_offc _ _ _ _ ?_ ?_); focus (first | (simp; done) | omega | (simp; omega))) | ((with_reducible refine blk_off _ _ _ _ ?_ ?_); focus (first | omega | (simp; omega))) | (with_reducible refine blk_drew _ _ ?_) | ((with_reducible refine blk_below (by assumption) ?_ ?_); focus (simp; done)) | ((with_reducible refine blk_below (by assumption) ?_ ?_); focus (first | omega | (simp; omega)))))
      · rfl
      · exact ⟨by (rw [HF.out.1, HF.out.2] <;> rfl), (by repeat (first | (with_reducible assumption) | (with_reducible exact Below.refl _ _) | ((with_reducible refine bel_alloc _ ?_ ?_); focus (first | omega | (simp; done) | (simp; omega))) | ((with_reducible refine bel_row _ ?_ ?_); focus (first | omega | (simp; done) | (simp; omega))) | ((with_reducible refine bel_cell _ ?_ ?_); focus (first | omega | (simp; done) | (simp; omega))) | (with_reducible refine Below.drew ?_) | (with_reducible refine below_wideW _ ?_) | ((with_reducible refine bel_next (by assumption) ?_ ?_); focus (first | omega | (simp; done) | (simp; omega)))))⟩
end Go.Proofs.YtckcngmbbnilnaaDoor
