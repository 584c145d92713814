/- The text of a plate, as the program makes it, and the law on PlateText. -/
import Derived.Test.YtckcngmbbnilnaaDoorPlateS
set_option linter.unusedVariables false
set_option linter.unusedSimpArgs false
namespace Go.Proofs.YtckcngmbbnilnaaDoor
open Go.RowKit Go.Lib

theorem allZ_ex {G : Nat → Nat} {n : Nat} (h : allZ G n = false) : ∃ k, k < n ∧ G k ≠ 0 := by
  induction n with
  | zero => simp [allZ] at h
  | succ m ih =>
    unfold allZ at h
    by_cases e : G m = 0
    · simp [e] at h
      obtain ⟨k, h1, h2⟩ := ih h
      exact ⟨k, by omega, h2⟩
    · exact ⟨m, by omega, e⟩

set_option maxHeartbeats 4000000 in
set_option maxRecDepth 100000 in
theorem implPlateTx (a b : Nat) (F : Nat → Nat) (ha1 : 1 ≤ a) (ha : a < 9) (hb1 : 1 ≤ b) (hb : b < 9) (hF : ∀ i, i < 64 → F i < 2 ^ 32) (hz : ∀ i, i < 64 → isC a b i = false → F i = 0 ∨ F i = 2147483648) (hv : plateB a b F = true) (w : World) (hdb : w.cell? ⟨6, 15, none⟩ = some (.int .u8 4)) (V : ByteArray) (hV : V = ⟨(if bareTo a b F 64 then plateTx a b F else []).toArray⟩) :
    Calls Tryd.prog 16 #[.agg (plate a b F)] w fun e w' => e = .returned (.string V) ∧ Below w.heap.size w w' := by
  have hDlt : 6 < w.heap.size := World.block_lt_of_cell? _ _ hdb
  have itoaC : ∀ n, n < 100 → ∃ D : ByteArray, D = ⟨(Lib.decDigits n).toArray⟩ ∧ D.size ≤ 2 ∧ ∀ w, Calls Tryd.prog 36 #[.int .i64 n] w fun e w' => ∃ v, e = .returned v ∧ v = .string D ∧ Below w.heap.size w w' :=
    fun n hn => ⟨_, rfl, (dec_len n hn).1, fun w => (Tryd.strconv_Itoa_small n hn w).mono fun e w' ⟨h1, h2⟩ => ⟨_, h1, rfl, by rw [h2]; exact Below.refl _ _⟩⟩
  obtain ⟨D1, e1, z1, h1⟩ := itoaC a (by omega)
  obtain ⟨D2, e2, z2, h2⟩ := itoaC b (by omega)
  have zB : (⟨#[32]⟩ : ByteArray).size = 1 := rfl
  have zN : (⟨#[10]⟩ : ByteArray).size = 1 := rfl
  have l1 : D1.size + (⟨#[32]⟩ : ByteArray).size ≤ maxLen := by unfold maxLen; omega
  have l2 : (D1 ++ ⟨#[32]⟩).size + D2.size ≤ maxLen := by simp only [ByteArray.size_append]; unfold maxLen; omega
  have l3 : (D1 ++ ⟨#[32]⟩ ++ D2).size + (⟨#[10]⟩ : ByteArray).size ≤ maxLen := by simp only [ByteArray.size_append]; unfold maxLen; omega
  have hT : (D1 ++ ⟨#[32]⟩ ++ D2 ++ ⟨#[10]⟩) = ⟨(Lib.decDigits a ++ (32 :: Lib.decDigits b) ++ [10]).toArray⟩ := by
    rw [e1, e2, show (⟨#[32]⟩ : ByteArray) = ⟨[(32 : UInt8)].toArray⟩ from rfl, show (⟨#[10]⟩ : ByteArray) = ⟨[(10 : UInt8)].toArray⟩ from rfl, str_app, str_app, str_app]
    congr 2
    simp
  have na : IntKind.i64.wrap (a : Int) = a := by rw [IntKind.wrap_i64]; omega
  have nb : IntKind.i64.wrap (b : Int) = b := by rw [IntKind.wrap_i64]; omega
  have HT := Lib.hid hT
  have HVV := Lib.hid hV
  have HZ := Lib.hid hz
  have HF := Lib.hid hF
  have HV := Lib.hid hv
  have HDB := Lib.hid hdb
  clear e1 e2 hT hV hz hF hv hdb itoaC
  go_enter Tryd.func16, Tryd.ntmps16
  go_upto_region 3 with (first | ((with_reducible refine at_load 39 ?_); refine wpList_load_part rfl 39 _ rfl _ 0 66 rfl _ _ _ _ (by repeat (first | (with_reducible assumption) | ((with_reducible refine blk_new _ _ _ ?_); focus (simp; done)) | ((with_reducible refine blk_old _ _ _ ?_ ?_); focus (simp; done)) | ((with_reducible refine blk_old _ _ _ ?_ ?_); focus (first | omega | (simp; omega))) | ((with_reducible apply blk_set); focus (simp; done)) | ((with_reducible refine blk_off _ _ _ _ ?_ ?_); focus (simp; done)) | ((with_reducible refine blk_offc _ _ _ _ ?_ ?_); focus (first | (simp; done) | omega | (simp; omega))) | ((with_reducible refine blk_off _ _ _ _ ?_ ?_); focus (first | omega | (simp; omega))) | (with_reducible refine blk_drew _ _ ?_) | ((with_reducible refine blk_below (by assumption) ?_ ?_); focus (simp; done)) | ((with_reducible refine blk_below (by assumption) ?_ ?_); focus (first | omega | (simp; omega))))) Tryd.underlying39 rfl (by kernel_rfl) (by simp [row_size]) _ (row_all [_, _] 64 _) ?_) | (go_at_call 42; (with_reducible refine (implPOk_any a b F _ (by omega) (by omega) (by omega) (by omega)).mono ?_); rintro e w1 ⟨rfl, hb1⟩; have hz1 := hb1.size; (try simp at hz1); obtain ⟨hc1, hf1⟩ := bcell hb1; rw [HV.out]))
  refine wp_nm (S := fun W => W.heap[w.heap.size]? = some (.cells (plate a b F) 39 (0, 0)) ∧ Below w.heap.size w W ∧ w.heap.size + 1 ≤ W.heap.size) ⟨(by repeat (first | (with_reducible assumption) | ((with_reducible refine blk_new _ _ _ ?_); focus (simp; done)) | ((with_reducible refine blk_old _ _ _ ?_ ?_); focus (simp; done)) | ((with_reducible refine blk_old _ _ _ ?_ ?_); focus (first | omega | (simp; omega))) | ((with_reducible apply blk_set); focus (simp; done)) | ((with_reducible refine blk_off _ _ _ _ ?_ ?_); focus (simp; done)) | ((with_reducible refine blk_offc _ _ _ _ ?_ ?_); focus (first | (simp; done) | omega | (simp; omega))) | ((with_reducible refine blk_off _ _ _ _ ?_ ?_); focus (first | omega | (simp; omega))) | (with_reducible refine blk_drew _ _ ?_) | ((with_reducible refine blk_below (by assumption) ?_ ?_); focus (simp; done)) | ((with_reducible refine blk_below (by assumption) ?_ ?_); focus (first | omega | (simp; omega))))), (by repeat (first | (with_reducible assumption) | (with_reducible exact Below.refl _ _) | ((with_reducible refine bel_alloc _ ?_ ?_); focus (first | omega | (simp; done) | (simp; omega))) | ((with_reducible refine bel_row _ ?_ ?_); focus (first | omega | (simp; done) | (simp; omega))) | ((with_reducible refine bel_cell _ ?_ ?_); focus (first | omega | (simp; done) | (simp; omega))) | (with_reducible refine Below.drew ?_) | (with_reducible refine below_wideW _ ?_) | ((with_reducible refine bel_next (by assumption) ?_ ?_); focus (first | omega | (simp; done) | (simp; omega))))), (by first | omega | (simp; done) | (simp; omega) | (simp at *; omega))⟩ ?_
  rintro W ⟨hB, hbW, hsW⟩
  have c0 : W.cell? ⟨w.heap.size, 0, none⟩ = some (.int .i8 a) := (cell_of_row W _ 0 _ _ _ hB).trans rfl
  have c1 : W.cell? ⟨w.heap.size, 1, none⟩ = some (.int .i8 b) := (cell_of_row W _ 1 _ _ _ hB).trans rfl
  have hBlt : w.heap.size < W.heap.size := by omega
  have hBB : w.heap.size ≤ W.heap.size := by omega
  have hK : KeptS w.heap.size w W W := KeptS.refl hbW
  refine region_merge (fun a0 a' W' => a' = ({ tmps := ((Value.agg (plate a b F)) :: (Value.pointer (some ⟨w.heap.size, 0, none⟩)) :: (Value.string { data := #[] }) :: (Value.string (D1 ++ ⟨#[32]⟩ ++ D2 ++ ⟨#[10]⟩)) :: undef :: undef :: undef :: (Value.agg (plate a b F)) :: (Value.bool true) :: (Value.bool false) :: (Value.pointer (some ⟨w.heap.size, 0, none⟩)) :: (Value.int .i8 a) :: (Value.int .i64 a) :: (Value.string D1) :: (Value.string (D1 ++ ⟨#[32]⟩)) :: (Value.pointer (some ⟨w.heap.size, 1, none⟩)) :: (Value.int .i8 b) :: (Value.int .i64 b) :: (Value.string D2) :: (Value.string (D1 ++ ⟨#[32]⟩ ++ D2)) :: (Value.string (D1 ++ ⟨#[32]⟩ ++ D2 ++ ⟨#[10]⟩)) :: undef :: undef :: undef :: undef :: undef :: undef :: undef :: undef :: undef :: undef :: undef :: undef :: undef :: undef :: undef :: undef :: undef :: undef :: undef :: undef :: undef :: undef :: undef :: undef :: undef :: undef :: undef :: undef :: undef :: undef :: undef :: undef :: undef :: []).toArray, defers := [] } : Act) ∧ W'.heap[w.heap.size]? = some (.cells (plate a b F) 39 (0, 0)) ∧ Below w.heap.size w W') ?_ ?_
  · refine wp_region_held_drew (S := fun w' => KeptS w.heap.size w W w') (by kernel_rfl) hK.drew (fun hS => ?_)
    refine held_yield 0 rfl rfl (by kernel_rfl) (by kernel_rfl) (by kernel_rfl) (fun _ _ _ _ h => nomatch h.1) (.pointer (some ⟨w.heap.size, 0, none⟩)) (fun w' hw' => by go_simp) hS ?_
    refine held_yield 1 rfl rfl (by kernel_rfl) (by kernel_rfl) (by kernel_rfl) (fun _ _ _ _ h => nomatch h.1) (.int .i8 a) (fun w' hw' => by (have c := (hw'.cell (p := ⟨w.heap.size, 0, none⟩) hBlt).trans c0; go_simp)) hS ?_
    refine held_yield 2 rfl rfl (by kernel_rfl) (by kernel_rfl) (by kernel_rfl) (fun _ _ _ _ h => nomatch h.1) (.int .i64 a) (fun w' hw' => by go_simp) hS ?_
    refine held_yield 5 rfl rfl (by kernel_rfl) (by kernel_rfl) (by kernel_rfl) (fun _ _ _ _ h => nomatch h.1) (.pointer (some ⟨w.heap.size, 1, none⟩)) (fun w' hw' => by go_simp) hS ?_
    refine held_yield 6 rfl rfl (by kernel_rfl) (by kernel_rfl) (by kernel_rfl) (fun _ _ _ _ h => nomatch h.1) (.int .i8 b) (fun w' hw' => by (have c := (hw'.cell (p := ⟨w.heap.size, 1, none⟩) hBlt).trans c1; go_simp)) hS ?_
    refine held_yield 7 rfl rfl (by kernel_rfl) (by kernel_rfl) (by kernel_rfl) (fun _ _ _ _ h => nomatch h.1) (.int .i64 b) (fun w' hw' => by go_simp) hS ?_
    refine held_one 3 (by kernel_rfl) rfl rfl ?_
    with_reducible refine oper_call 36 #[.int .i64 a] ?he (h1 _) (fun v0 W0 hR => ?_)
    case he => first | kernel_rfl | go_simp
    obtain ⟨rfl, hb0⟩ := hR
    have hk0 := hS.call hBB hb0
    have hs0 := hb0.size
    refine ⟨hk0, ?_⟩
    refine held_yield 4 rfl rfl (by kernel_rfl) (by kernel_rfl) (by kernel_rfl) (fun _ _ _ _ h => nomatch h.1) (.string (D1 ++ ⟨#[32]⟩)) (fun w' hw' => by exact exec_cat 9 9 (.tmp 13) (.const (.string ⟨#[32]⟩)) (by kernel_rfl) (D1) (⟨#[32]⟩) (by kernel_rfl) (by kernel_rfl) l1 w') hk0 ?_
    refine held_one 8 (by kernel_rfl) rfl rfl ?_
    with_reducible refine oper_call 36 #[.int .i64 b] ?he (h2 _) (fun v0 W1 hR => ?_)
    case he => first | kernel_rfl | go_simp
    obtain ⟨rfl, hb1⟩ := hR
    have hk1 := hk0.call hBB hb1
    have hs1 := hb1.size
    refine ⟨hk1, ?_⟩
    refine held_yield 9 rfl rfl (by kernel_rfl) (by kernel_rfl) (by kernel_rfl) (fun _ _ _ _ h => nomatch h.1) (.string (D1 ++ ⟨#[32]⟩ ++ D2)) (fun w' hw' => by exact exec_cat 9 9 (.tmp 14) (.tmp 18) (by kernel_rfl) (D1 ++ ⟨#[32]⟩) (D2) (by kernel_rfl) (by kernel_rfl) l2 w') hk1 ?_
    refine held_yield 10 rfl rfl (by kernel_rfl) (by kernel_rfl) (by kernel_rfl) (fun _ _ _ _ h => nomatch h.1) (.string (D1 ++ ⟨#[32]⟩ ++ D2 ++ ⟨#[10]⟩)) (fun w' hw' => by exact exec_cat 9 9 (.tmp 19) (.const (.string ⟨#[10]⟩)) (by kernel_rfl) (D1 ++ ⟨#[32]⟩ ++ D2) (⟨#[10]⟩) (by kernel_rfl) (by kernel_rfl) l3 w') hk1 ?_
    refine held_yield 11 rfl rfl (by kernel_rfl) (by kernel_rfl) (by kernel_rfl) (fun _ _ _ _ h => nomatch h.1) (.string (D1 ++ ⟨#[32]⟩ ++ D2 ++ ⟨#[10]⟩)) (fun w' hw' => by (first | kernel_rfl | go_simp)) hk1 ?_
    refine wpAnyH_done (by kernel_rfl) ⟨rfl, by kernel_rfl, (hk1.1 _ hBlt).trans hB, hk1.2.2⟩ _
  · rintro a' W' ⟨rfl, hB', hb'⟩
    obtain ⟨A0, hA0⟩ : ∃ A0, A0 = D1 ++ ⟨#[32]⟩ ++ D2 ++ ⟨#[10]⟩ := ⟨_, rfl⟩
    have hT := HT.out
    rw [← hA0] at hT ⊢
    have HA0 := Lib.hid hT
    have HB' := Lib.hid hB'
    have Hb' := Lib.hid hb'
    clear HT hA0 l1 l2 l3 hT hB hbW hsW c0 c1 hBlt hBB hK h1 h2 hB' hb' na nb
    have hda := dec_len a (by omega)
    have hdb2 := dec_len b (by omega)
    have hap : plate a b F = row [.int .i8 a, .int .i8 b] 64 F := rfl
    go_wp2
    go_loopw [3, 21] (fun v i wr => ∃ (k : Nat) (A : ByteArray), k ≤ 8 ∧ i = .int .i64 k ∧ v = .string A ∧ Hid (A = ⟨(Lib.decDigits a ++ (32 :: Lib.decDigits b) ++ [10] ++ rowsT a F (min k b)).toArray⟩ ∧ ∀ j, j < 8 * k → isC a b j = true ∨ F j = 0) ∧ wr.heap[w.heap.size]? = some (.cells (plate a b F) 39 (0, 0)) ∧ Below w.heap.size w wr) (fun _ i _ => 9 - (RowKit.intOf i).toNat)
    case atStart => exact ⟨0, A0, by omega, rfl, rfl, Lib.hid ⟨by rw [HA0.out]; simp [rowsT], fun j hj => by omega⟩, HB'.out, Hb'.out⟩
    case round =>
      clear HA0 HB' Hb'
      obtain ⟨k, A, hk, rfl, rfl, hAA, hBr, hbr⟩ := hrel
      have hsz := hbr.size
      have hBlt : w.heap.size < wr.heap.size := World.block_lt_of_cell? _ _ ((cell_of_row wr _ 0 _ _ _ hBr).trans rfl : wr.cell? ⟨w.heap.size, 0, none⟩ = some (.int .i8 a))
      have g0 : wr.cell? ⟨w.heap.size, 0, none⟩ = some (.int .i8 a) := (cell_of_row wr _ 0 _ _ _ hBr).trans rfl
      have g1 : wr.cell? ⟨w.heap.size, 1, none⟩ = some (.int .i8 b) := (cell_of_row wr _ 1 _ _ _ hBr).trans rfl
      by_cases hlt : k < 8
      · have g2 : ∀ i, i < 64 → wr.cell? ⟨w.heap.size, 2 + i, none⟩ = some (.float .f32 (F i)) := fun i hi => (cell_of_row wr _ (2 + i) _ _ _ hBr).trans (row_k2 _ _ _ _ hi)
        have gd : wr.cell? ⟨6, 15, none⟩ = some (.int .u8 4) := (hbr.cell (p := ⟨6, 15, none⟩) hDlt).trans HDB.out
        have k8 : (k : Int) < 8 := by omega
        have hsl : ∀ w', (Instr.sliceAt 37 (.pointer (some ⟨w.heap.size, 2, none⟩)) (some (.int .i64 (8 * (k : Int)))) (some (.int .i64 (8 * ((k : Int) + 1)))) none).run Tryd.prog w' = .ok (.slice (some ⟨w.heap.size, 2 + 8 * k, none⟩) 8 (64 - 8 * k)) w' := fun w' => by
          have h := run_sliceAt_lh (P := Tryd.prog) w' 37 22 64 w.heap.size 2 Tryd.underlying37 (by kernel_rfl) .i64 .i64 (8 * k) (8 * (k + 1)) (by omega) (by omega) (by omega)
          rw [show 8 * (k + 1) - 8 * k = 8 by omega] at h
          rw [show (8 * (k : Int)) = ((8 * k : Nat) : Int) by omega, show (8 * ((k : Int) + 1)) = ((8 * (k + 1) : Nat) : Int) by omega]
          exact h
        have zA : A.size ≤ 700 := by
          have e := hAA.out.1
          rw [e, size_of_list]
          have := rowsT_small (F := F) ha (show min k b < 9 by omega)
          simp only [List.length_append, List.length_cons, List.length_nil]
          omega
        obtain ⟨q, hq⟩ : ∃ q, A.size = q := ⟨_, rfl⟩
        have hq2 : q ≤ 700 := by omega
        have w8k : IntKind.i64.wrap (8 * (k : Int)) = 8 * (k : Int) := by rw [IntKind.wrap_i64]; omega
        by_cases hkb : k < b
        · obtain ⟨AN, hAN, hs1⟩ := row_from w.heap.size (2 + 8 * k) (64 - 8 * k) a (by omega) (by omega)
          have hs2 := fun w' => row_upto w.heap.size (2 + 8 * k) (64 - 8 * k) a (by omega) (by omega) w'
          have hNT := numbersText_any w.heap.size (2 + 8 * k) a (64 - 8 * k) (rowG F k) wr (by omega) (by omega) (fun x hx => HF.out _ (by omega)) (fun x hx => by
            have e := g2 (x + 8 * k) (by omega)
            rw [show 2 + (x + 8 * k) = 2 + 8 * k + x by omega] at e
            exact e) gd
          obtain ⟨J, hJ⟩ : ∃ J : ByteArray, J = ⟨(joinT (rowG F k) a).toArray⟩ := ⟨_, rfl⟩
          rw [← hJ] at hNT
          obtain ⟨qj, hqj⟩ : ∃ q, J.size = q := ⟨_, rfl⟩
          have hqj2 : qj ≤ 72 := by
            have := joinT_le (rowG F k) a
            rw [← hqj, hJ, size_of_list]
            omega
          have zJ : (J ++ ⟨#[10]⟩ : ByteArray).size = qj + 1 := by rw [ByteArray.size_append, hqj, zN]
          have hNM := fun (w' : World) (hw : ∀ i, i < 64 → w'.cell? ⟨w.heap.size, 2 + i, none⟩ = some (.float .f32 (F i))) => noMinus_any w.heap.size (2 + 8 * k + a) (8 - a) (64 - 8 * k - a) (fun j => F (a + j + 8 * k)) w' (by omega) (fun j hj => HZ.out _ (by omega) (isC_no.2 (by omega))) (fun j hj => by
            have e := hw (a + j + 8 * k) (by omega)
            rw [show 2 + (a + j + 8 * k) = 2 + 8 * k + a + j by omega] at e
            exact e) AN hAN
          obtain ⟨m, hm⟩ : ∃ m, m = 8 - a := ⟨_, rfl⟩
          obtain ⟨cp, hcp⟩ : ∃ c, c = 64 - 8 * k - a := ⟨_, rfl⟩
          obtain ⟨o, ho⟩ : ∃ o, o = 2 + 8 * k := ⟨_, rfl⟩
          obtain ⟨c8, hc8⟩ : ∃ c, c = 64 - 8 * k := ⟨_, rfl⟩
          rw [← ho, ← hc8] at hsl hs2 hNT
          rw [← ho, ← hc8, ← hm] at hs1
          rw [← hm, ← hcp] at hNM
          rw [show c8 - a = cp by omega] at hs1
          have i1 : (k : Int) < b := by omega
          have HBr := Lib.hid hBr
          have Hbr := Lib.hid hbr
          have HN1 : Hid (A ++ (J ++ ⟨#[10]⟩) = ⟨(Lib.decDigits a ++ (32 :: Lib.decDigits b) ++ [10] ++ rowsT a F (min (k + 1) b)).toArray⟩) := Lib.hid (by
            rw [hAA.out.1, hJ, show (⟨#[10]⟩ : ByteArray) = ⟨[(10 : UInt8)].toArray⟩ from rfl, str_app, str_app, show min k b = k by omega, show min (k + 1) b = k + 1 by omega]
            simp [rowsT])
          cases hal : allZ (fun j => F (a + j + 8 * k)) m
          · rw [hal] at hNM
            have HR : Hid (V = ⟨#[]⟩) := Lib.hid (by
              obtain ⟨j, hj, hne⟩ := allZ_ex hal
              rw [HVV.out, bareTo_no (k := a + j + 8 * k) (by omega) (isC_no.2 (by omega)) hne]
              rfl)
            clear hAA hJ hal hAN zA hm hcp ho hc8 hBr hbr
            go_wp2_with (first | (go_at_call 37; with_reducible refine hNT.mono ?_; rintro e w1 ⟨rfl, hb1⟩) | (go_at_call 35; with_reducible refine (hNM _ (fun i hi => (hb1.cell (p := ⟨w.heap.size, 2 + i, none⟩) hBlt).trans (g2 i hi))).mono ?_; rintro e w2 ⟨rfl, rfl⟩))
            go_ret
            exact ⟨by rw [HR.out]; rfl, Hbr.out.trans (hb1.mono hsz)⟩
          · rw [hal] at hNM
            have HC : Hid (∀ j, j < 8 * (k + 1) → isC a b j = true ∨ F j = 0) := Lib.hid (fun j hj => by
              by_cases hj8 : j < 8 * k
              · exact hAA.out.2 j hj8
              · by_cases hja : j - 8 * k < a
                · exact Or.inl (isC_iff.2 (by omega))
                · right
                  have e := allZ_le hal (j - 8 * k - a) (by omega)
                  have e2 : a + (j - 8 * k - a) + 8 * k = j := by omega
                  rw [e2] at e
                  exact e)
            clear hAA hJ hal hAN zA hm hcp ho hc8 hBr hbr
            go_wp2_with (first | (go_at_call 37; with_reducible refine hNT.mono ?_; rintro e w1 ⟨rfl, hb1⟩) | (go_at_call 35; with_reducible refine (hNM _ (fun i hi => (hb1.cell (p := ⟨w.heap.size, 2 + i, none⟩) hBlt).trans (g2 i hi))).mono ?_; rintro e w2 ⟨rfl, rfl⟩))
            go_roundw
            case rel => exact ⟨k + 1, _, by omega, by first | rfl | go_num, rfl, Lib.hid ⟨HN1.out, HC.out⟩, (hb1.block _ hBlt).trans HBr.out, Hbr.out.trans (hb1.mono hsz)⟩
            case measure => simp [RowKit.intOf]; omega
        · have hNM := fun (w' : World) (hw : ∀ i, i < 64 → w'.cell? ⟨w.heap.size, 2 + i, none⟩ = some (.float .f32 (F i))) => noMinus_any w.heap.size (2 + 8 * k) 8 (64 - 8 * k) (fun j => F (j + 8 * k)) w' (by omega) (fun j hj => HZ.out _ (by omega) (isC_no.2 (by omega))) (fun j hj => by
            have e := hw (j + 8 * k) (by omega)
            rw [show 2 + (j + 8 * k) = 2 + 8 * k + j by omega] at e
            exact e) (some ⟨w.heap.size, 2 + 8 * k, none⟩) (fun _ => rfl)
          obtain ⟨o, ho⟩ : ∃ o, o = 2 + 8 * k := ⟨_, rfl⟩
          obtain ⟨c8, hc8⟩ : ∃ c, c = 64 - 8 * k := ⟨_, rfl⟩
          rw [← ho, ← hc8] at hsl hNM
          have i1 : (b : Int) ≤ k := by omega
          have HBr := Lib.hid hBr
          have Hbr := Lib.hid hbr
          have HN1 : Hid (A = ⟨(Lib.decDigits a ++ (32 :: Lib.decDigits b) ++ [10] ++ rowsT a F (min (k + 1) b)).toArray⟩) := Lib.hid (by
            rw [hAA.out.1, show min k b = b by omega, show min (k + 1) b = b by omega])
          cases hal : allZ (fun j => F (j + 8 * k)) 8
          · rw [hal] at hNM
            have HR : Hid (V = ⟨#[]⟩) := Lib.hid (by
              obtain ⟨j, hj, hne⟩ := allZ_ex hal
              rw [HVV.out, bareTo_no (k := j + 8 * k) (by omega) (isC_no.2 (by omega)) hne]
              rfl)
            clear hAA hal zA ho hc8 hBr hbr
            go_wp2_with (go_at_call 35; with_reducible refine (hNM _ g2).mono ?_; rintro e w2 ⟨rfl, rfl⟩)
            go_ret
            exact ⟨by rw [HR.out]; rfl, Hbr.out⟩
          · rw [hal] at hNM
            have HC : Hid (∀ j, j < 8 * (k + 1) → isC a b j = true ∨ F j = 0) := Lib.hid (fun j hj => by
              by_cases hj8 : j < 8 * k
              · exact hAA.out.2 j hj8
              · right
                have e := allZ_le hal (j - 8 * k) (by omega)
                have e2 : (j - 8 * k) + 8 * k = j := by omega
                rw [e2] at e
                exact e)
            clear hAA hal zA ho hc8 hBr hbr
            go_wp2_with (go_at_call 35; with_reducible refine (hNM _ g2).mono ?_; rintro e w2 ⟨rfl, rfl⟩)
            go_roundw
            case rel => exact ⟨k + 1, _, by omega, by first | rfl | go_num, rfl, Lib.hid ⟨HN1.out, HC.out⟩, HBr.out, Hbr.out⟩
            case measure => simp [RowKit.intOf]; omega
      · obtain rfl : k = 8 := by omega
        have HR : Hid (V = A) := Lib.hid (by
          rw [HVV.out, bareTo_all (fun j hj => hAA.out.2 j (by omega)), hAA.out.1, show min 8 b = b by omega]
          rfl)
        have Hbr := Lib.hid hbr
        clear hAA hBr hbr
        go_wp2
        go_ret
        exact ⟨by rw [HR.out]; rfl, Hbr.out⟩

set_option maxHeartbeats 2000000 in
set_option maxRecDepth 100000 in
theorem implPlateText_any (x y : Int) (F : Nat → Nat) (lx : -128 ≤ x) (ux : x ≤ 127) (ly : -128 ≤ y) (uy : y ≤ 127) (hF : ∀ i, i < 64 → F i < 2 ^ 32) (w : World) (hdb : w.cell? ⟨6, 15, none⟩ = some (.int .u8 4)) :
    Calls Tryd.prog 16 #[.agg (plate x y F)] w fun e w' => e = .returned (.string ⟨(plateText x y F).toArray⟩) ∧ Below w.heap.size w w' := by
  cases hv : plateB x y F
  · have hT : plateText x y F = [] := by unfold plateText; rw [hv]; rfl
    rw [hT]
    clear hdb
    go_enter Tryd.func16, Tryd.ntmps16
    go_wp2_with (first | ((with_reducible refine at_load 39 ?_); refine wpList_load_part rfl 39 _ rfl _ 0 66 rfl _ _ _ _ (by repeat (first | (with_reducible assumption) | ((with_reducible refine blk_new _ _ _ ?_); focus (simp; done)) | ((with_reducible refine blk_old _ _ _ ?_ ?_); focus (simp; done)) | ((with_reducible refine blk_old _ _ _ ?_ ?_); focus (first | omega | (simp; omega))) | ((with_reducible apply blk_set); focus (simp; done)) | ((with_reducible refine blk_off _ _ _ _ ?_ ?_); focus (simp; done)) | ((with_reducible refine blk_offc _ _ _ _ ?_ ?_); focus (first | (simp; done) | omega | (simp; omega))) | ((with_reducible refine blk_off _ _ _ _ ?_ ?_); focus (first | omega | (simp; omega))) | (with_reducible refine blk_drew _ _ ?_) | ((with_reducible refine blk_below (by assumption) ?_ ?_); focus (simp; done)) | ((with_reducible refine blk_below (by assumption) ?_ ?_); focus (first | omega | (simp; omega))))) Tryd.underlying39 rfl (by kernel_rfl) (by simp [row_size]) _ (row_all [_, _] 64 _) ?_) | (go_at_call 42; (with_reducible refine (implPOk_any x y F _ (by omega) (by omega) (by omega) (by omega)).mono ?_); rintro e w1 ⟨rfl, hb1⟩; have hz1 := hb1.size; (try simp at hz1); obtain ⟨hc1, hf1⟩ := bcell hb1; rw [hv]))
    go_ret
    exact ⟨rfl, (by repeat (first | (with_reducible assumption) | (with_reducible exact Below.refl _ _) | ((with_reducible refine bel_alloc _ ?_ ?_); focus (first | omega | (simp; done) | (simp; omega))) | ((with_reducible refine bel_row _ ?_ ?_); focus (first | omega | (simp; done) | (simp; omega))) | ((with_reducible refine bel_cell _ ?_ ?_); focus (first | omega | (simp; done) | (simp; omega))) | (with_reducible refine Below.drew ?_) | (with_reducible refine below_wideW _ ?_) | ((with_reducible refine bel_next (by assumption) ?_ ?_); focus (first | omega | (simp; done) | (simp; omega)))))⟩
  · obtain ⟨a, b, rfl, rfl, ha1, ha, hb1, hb, hp, hz⟩ := plateB_size hv
    have hT : plateText a b F = if bareTo a b F 64 then plateTx a b F else [] := by unfold plateText; rw [hv]; rfl
    rw [hT]
    exact implPlateTx a b F ha1 ha hb1 hb hF (fun i hi hc => zero_bits (hF i hi) (hz i hi hc)) hv w hdb _ rfl

set_option maxHeartbeats 2000000 in
set_option maxRecDepth 100000 in
theorem specPlateText_any (x y : Int) (F : Nat → Nat) (lx : -128 ≤ x) (ux : x ≤ 127) (ly : -128 ≤ y) (uy : y ≤ 127) (hF : ∀ i, i < 64 → F i < 2 ^ 32) (w : World) :
    Calls Tryd.prog 14 #[.agg (plate x y F)] w fun e w' => e = .returned (.string ⟨(plateText x y F).toArray⟩) ∧ Below w.heap.size w w' := by
  cases hv : plateB x y F
  · have hT : plateText x y F = [] := by unfold plateText; rw [hv]; rfl
    rw [hT]
    go_enter Tryd.func14, Tryd.ntmps14
    go_wp2_with (go_at_call 38; (with_reducible refine (specPOk_any x y F _ (by omega) (by omega) (by omega) (by omega) _ ?_).mono ?_); (focus (repeat (first | (with_reducible assumption) | ((with_reducible refine blk_new _ _ _ ?_); focus (simp; done)) | ((with_reducible refine blk_old _ _ _ ?_ ?_); focus (simp; done)) | ((with_reducible refine blk_old _ _ _ ?_ ?_); focus (first | omega | (simp; omega))) | ((with_reducible apply blk_set); focus (simp; done)) | ((with_reducible refine blk_off _ _ _ _ ?_ ?_); focus (simp; done)) | ((with_reducible refine blk_offc _ _ _ _ ?_ ?_); focus (first | (simp; done) | omega | (simp; omega))) | ((with_reducible refine blk_off _ _ _ _ ?_ ?_); focus (first | omega | (simp; omega))) | (with_reducible refine blk_drew _ _ ?_) | ((with_reducible refine blk_below (by assumption) ?_ ?_); focus (simp; done)) | ((with_reducible refine blk_below (by assumption) ?_ ?_); focus (first | omega | (simp; omega)))))); rintro e w1 ⟨rfl, rfl⟩; rw [hv])
    go_ret
    exact ⟨rfl, (by repeat (first | (with_reducible assumption) | (with_reducible exact Below.refl _ _) | ((with_reducible refine bel_alloc _ ?_ ?_); focus (first | omega | (simp; done) | (simp; omega))) | ((with_reducible refine bel_row _ ?_ ?_); focus (first | omega | (simp; done) | (simp; omega))) | ((with_reducible refine bel_cell _ ?_ ?_); focus (first | omega | (simp; done) | (simp; omega))) | (with_reducible refine Below.drew ?_) | (with_reducible refine below_wideW _ ?_) | ((with_reducible refine bel_next (by assumption) ?_ ?_); focus (first | omega | (simp; done) | (simp; omega)))))⟩
  · obtain ⟨a, b, rfl, rfl, ha1, ha, hb1, hb, hp, hz⟩ := plateB_size hv
    have hT : plateText a b F = if bareTo a b F 64 then plateTx a b F else [] := by unfold plateText; rw [hv]; rfl
    have hz' : ∀ i, i < 64 → isC a b i = false → F i = 0 ∨ F i = 2147483648 := fun i hi hc => zero_bits (hF i hi) (hz i hi hc)
    have hBr := fun w B h => specBare a b F ha hb hz' w B h
    have hTx := fun w B h => specPlateTx a b F ha1 ha hb1 hb hF w B h
    have HV := Lib.hid hv
    rw [hT]
    clear hp hz hz' hF hT hv
    cases hbare : bareTo a b F 64
    · rw [hbare] at hBr
      simp only [Bool.false_eq_true, if_false]
      go_enter Tryd.func14, Tryd.ntmps14
      go_wp2_with (first | (go_at_call 38; (with_reducible refine (specPOk_any a b F _ (by omega) (by omega) (by omega) (by omega) _ ?_).mono ?_); (focus (repeat (first | (with_reducible assumption) | ((with_reducible refine blk_new _ _ _ ?_); focus (simp; done)) | ((with_reducible refine blk_old _ _ _ ?_ ?_); focus (simp; done)) | ((with_reducible refine blk_old _ _ _ ?_ ?_); focus (first | omega | (simp; omega))) | ((with_reducible apply blk_set); focus (simp; done)) | ((with_reducible refine blk_off _ _ _ _ ?_ ?_); focus (simp; done)) | ((with_reducible refine blk_offc _ _ _ _ ?_ ?_); focus (first | (simp; done) | omega | (simp; omega))) | ((with_reducible refine blk_off _ _ _ _ ?_ ?_); focus (first | omega | (simp; omega))) | (with_reducible refine blk_drew _ _ ?_) | ((with_reducible refine blk_below (by assumption) ?_ ?_); focus (simp; done)) | ((with_reducible refine blk_below (by assumption) ?_ ?_); focus (first | omega | (simp; omega)))))); rintro e w1 ⟨rfl, rfl⟩; rw [HV.out]) | (go_at_call 39; (with_reducible refine (hBr _ _ ?_).mono ?_); (focus (repeat (first | (with_reducible assumption) | ((with_reducible refine blk_new _ _ _ ?_); focus (simp; done)) | ((with_reducible refine blk_old _ _ _ ?_ ?_); focus (simp; done)) | ((with_reducible refine blk_old _ _ _ ?_ ?_); focus (first | omega | (simp; omega))) | ((with_reducible apply blk_set); focus (simp; done)) | ((with_reducible refine blk_off _ _ _ _ ?_ ?_); focus (simp; done)) | ((with_reducible refine blk_offc _ _ _ _ ?_ ?_); focus (first | (simp; done) | omega | (simp; omega))) | ((with_reducible refine blk_off _ _ _ _ ?_ ?_); focus (first | omega | (simp; omega))) | (with_reducible refine blk_drew _ _ ?_) | ((with_reducible refine blk_below (by assumption) ?_ ?_); focus (simp; done)) | ((with_reducible refine blk_below (by assumption) ?_ ?_); focus (first | omega | (simp; omega)))))); rintro e w1 ⟨rfl, rfl⟩))
      go_ret
      exact ⟨rfl, (by repeat (first | (with_reducible assumption) | (with_reducible exact Below.refl _ _) | ((with_reducible refine bel_alloc _ ?_ ?_); focus (first | omega | (simp; done) | (simp; omega))) | ((with_reducible refine bel_row _ ?_ ?_); focus (first | omega | (simp; done) | (simp; omega))) | ((with_reducible refine bel_cell _ ?_ ?_); focus (first | omega | (simp; done) | (simp; omega))) | (with_reducible refine Below.drew ?_) | (with_reducible refine below_wideW _ ?_) | ((with_reducible refine bel_next (by assumption) ?_ ?_); focus (first | omega | (simp; done) | (simp; omega)))))⟩
    · rw [hbare] at hBr
      simp only [if_true]
      go_enter Tryd.func14, Tryd.ntmps14
      go_wp2_with (first | (go_at_call 38; (with_reducible refine (specPOk_any a b F _ (by omega) (by omega) (by omega) (by omega) _ ?_).mono ?_); (focus (repeat (first | (with_reducible assumption) | ((with_reducible refine blk_new _ _ _ ?_); focus (simp; done)) | ((with_reducible refine blk_old _ _ _ ?_ ?_); focus (simp; done)) | ((with_reducible refine blk_old _ _ _ ?_ ?_); focus (first | omega | (simp; omega))) | ((with_reducible apply blk_set); focus (simp; done)) | ((with_reducible refine blk_off _ _ _ _ ?_ ?_); focus (simp; done)) | ((with_reducible refine blk_offc _ _ _ _ ?_ ?_); focus (first | (simp; done) | omega | (simp; omega))) | ((with_reducible refine blk_off _ _ _ _ ?_ ?_); focus (first | omega | (simp; omega))) | (with_reducible refine blk_drew _ _ ?_) | ((with_reducible refine blk_below (by assumption) ?_ ?_); focus (simp; done)) | ((with_reducible refine blk_below (by assumption) ?_ ?_); focus (first | omega | (simp; omega)))))); rintro e w1 ⟨rfl, rfl⟩; rw [HV.out]) | (go_at_call 39; (with_reducible refine (hBr _ _ ?_).mono ?_); (focus (repeat (first | (with_reducible assumption) | ((with_reducible refine blk_new _ _ _ ?_); focus (simp; done)) | ((with_reducible refine blk_old _ _ _ ?_ ?_); focus (simp; done)) | ((with_reducible refine blk_old _ _ _ ?_ ?_); focus (first | omega | (simp; omega))) | ((with_reducible apply blk_set); focus (simp; done)) | ((with_reducible refine blk_off _ _ _ _ ?_ ?_); focus (simp; done)) | ((with_reducible refine blk_offc _ _ _ _ ?_ ?_); focus (first | (simp; done) | omega | (simp; omega))) | ((with_reducible refine blk_off _ _ _ _ ?_ ?_); focus (first | omega | (simp; omega))) | (with_reducible refine blk_drew _ _ ?_) | ((with_reducible refine blk_below (by assumption) ?_ ?_); focus (simp; done)) | ((with_reducible refine blk_below (by assumption) ?_ ?_); focus (first | omega | (simp; omega)))))); rintro e w1 ⟨rfl, rfl⟩) | (go_at_call 40; (with_reducible refine (hTx _ _ ?_).mono ?_); (focus (repeat (first | (with_reducible assumption) | ((with_reducible refine blk_new _ _ _ ?_); focus (simp; done)) | ((with_reducible refine blk_old _ _ _ ?_ ?_); focus (simp; done)) | ((with_reducible refine blk_old _ _ _ ?_ ?_); focus (first | omega | (simp; omega))) | ((with_reducible apply blk_set); focus (simp; done)) | ((with_reducible refine blk_off _ _ _ _ ?_ ?_); focus (simp; done)) | ((with_reducible refine blk_offc _ _ _ _ ?_ ?_); focus (first | (simp; done) | omega | (simp; omega))) | ((with_reducible refine blk_off _ _ _ _ ?_ ?_); focus (first | omega | (simp; omega))) | (with_reducible refine blk_drew _ _ ?_) | ((with_reducible refine blk_below (by assumption) ?_ ?_); focus (simp; done)) | ((with_reducible refine blk_below (by assumption) ?_ ?_); focus (first | omega | (simp; omega)))))); rintro e w3 ⟨rfl, hb3⟩; have hz3 := hb3.size; (try simp at hz3); obtain ⟨hc3, hf3⟩ := bcell hb3))
      go_ret
      exact ⟨rfl, (by repeat (first | (with_reducible assumption) | (with_reducible exact Below.refl _ _) | ((with_reducible refine bel_alloc _ ?_ ?_); focus (first | omega | (simp; done) | (simp; omega))) | ((with_reducible refine bel_row _ ?_ ?_); focus (first | omega | (simp; done) | (simp; omega))) | ((with_reducible refine bel_cell _ ?_ ?_); focus (first | omega | (simp; done) | (simp; omega))) | (with_reducible refine Below.drew ?_) | (with_reducible refine below_wideW _ ?_) | ((with_reducible refine bel_next (by assumption) ?_ ?_); focus (first | omega | (simp; done) | (simp; omega)))))⟩

set_option maxHeartbeats 2000000 in
set_option maxRecDepth 100000 in
theorem exactPlateText_any (x y : Int) (F : Nat → Nat) (lx : -128 ≤ x) (ux : x ≤ 127) (ly : -128 ≤ y) (uy : y ≤ 127) (hF : ∀ i, i < 64 → F i < 2 ^ 32) (w : World) (hdb : w.cell? ⟨6, 15, none⟩ = some (.int .u8 4)) :
    Calls Tryd.prog 5 #[.agg (plate x y F)] w fun e w' => e = .returned (.bool true) ∧ Below w.heap.size w w' := by
  have h1 := fun w => specPlateText_any x y F lx ux ly uy hF w
  have h2 := fun w h => implPlateText_any x y F lx ux ly uy hF w h
  have hlt : 6 < w.heap.size := World.block_lt_of_cell? _ _ hdb
  have hD : ∀ w', Below w.heap.size w w' → w'.cell? ⟨6, 15, none⟩ = some (.int .u8 4) := fun w' hb => (hb.cell (p := ⟨6, 15, none⟩) hlt).trans hdb
  obtain ⟨S, hS⟩ : ∃ S : ByteArray, S = ⟨(plateText x y F).toArray⟩ := ⟨_, rfl⟩
  simp only [← hS] at h1 h2
  clear hS hdb
  go_enter Tryd.func5, Tryd.ntmps5
  go_wp2_with (first | ((with_reducible refine at_load 35 ?_); refine wpList_load_part rfl 35 _ rfl _ 0 66 rfl _ _ _ _ (by repeat (first | (with_reducible assumption) | ((with_reducible refine blk_new _ _ _ ?_); focus (simp; done)) | ((with_reducible refine blk_old _ _ _ ?_ ?_); focus (simp; done)) | ((with_reducible refine blk_old _ _ _ ?_ ?_); focus (first | omega | (simp; omega))) | ((with_reducible apply blk_set); focus (simp; done)) | ((with_reducible refine blk_off _ _ _ _ ?_ ?_); focus (simp; done)) | ((with_reducible refine blk_offc _ _ _ _ ?_ ?_); focus (first | (simp; done) | omega | (simp; omega))) | ((with_reducible refine blk_off _ _ _ _ ?_ ?_); focus (first | omega | (simp; omega))) | (with_reducible refine blk_drew _ _ ?_) | ((with_reducible refine blk_below (by assumption) ?_ ?_); focus (simp; done)) | ((with_reducible refine blk_below (by assumption) ?_ ?_); focus (first | omega | (simp; omega))))) Tryd.underlying35 rfl (by kernel_rfl) (by simp [row_size]) _ (row_all [_, _] 64 _) ?_) | (go_at_call 15; (with_reducible refine (toPlate_any _ _ _ _).mono ?_); rintro e w1 ⟨rfl, hb1⟩; have hz1 := hb1.size; (try simp at hz1); obtain ⟨hc1, hf1⟩ := bcell hb1) | (go_at_call 14; (with_reducible refine (h1 _).mono ?_); rintro e w2 ⟨rfl, hb2⟩; have hz2 := hb2.size; (try simp at hz2); obtain ⟨hc2, hf2⟩ := bcell hb2) | (go_at_call 16; (with_reducible refine (h2 _ (hD _ (by repeat (first | (with_reducible assumption) | (with_reducible exact Below.refl _ _) | ((with_reducible refine bel_alloc _ ?_ ?_); focus (first | omega | (simp; done) | (simp; omega))) | ((with_reducible refine bel_row _ ?_ ?_); focus (first | omega | (simp; done) | (simp; omega))) | ((with_reducible refine bel_cell _ ?_ ?_); focus (first | omega | (simp; done) | (simp; omega))) | (with_reducible refine Below.drew ?_) | (with_reducible refine below_wideW _ ?_) | ((with_reducible refine bel_next (by assumption) ?_ ?_); focus (first | omega | (simp; done) | (simp; omega))))))).mono ?_); rintro e w3 ⟨rfl, hb3⟩; have hz3 := hb3.size; (try simp at hz3); obtain ⟨hc3, hf3⟩ := bcell hb3))
  go_ret
  exact ⟨by simp, (by repeat (first | (with_reducible assumption) | (with_reducible exact Below.refl _ _) | ((with_reducible refine bel_alloc _ ?_ ?_); focus (first | omega | (simp; done) | (simp; omega))) | ((with_reducible refine bel_row _ ?_ ?_); focus (first | omega | (simp; done) | (simp; omega))) | ((with_reducible refine bel_cell _ ?_ ?_); focus (first | omega | (simp; done) | (simp; omega))) | (with_reducible refine Below.drew ?_) | (with_reducible refine below_wideW _ ?_) | ((with_reducible refine bel_next (by assumption) ?_ ?_); focus (first | omega | (simp; done) | (simp; omega)))))⟩
end Go.Proofs.YtckcngmbbnilnaaDoor
