/- The text of a train, as the program makes it, and the law on TrainText. -/
import Derived.Test.YtckcngmbbnilnaaDoorTextS
set_option linter.unusedVariables false
set_option linter.unusedSimpArgs false
namespace Go.Proofs.YtckcngmbbnilnaaDoor
open Go.RowKit Go.Lib

theorem run_sliceAt_endS {P : Program} (w : World) (t e : TypeId) (n b o : Nat) (ht : P.underlying t = some (.array n e)) (hs : (P.info? e).map (·.size) = some 1) (kl : IntKind) : (Instr.sliceAt t (.pointer (some ⟨b, o, none⟩)) (some (.int kl n)) none none).run P w = .ok (.slice (some ⟨b, o, none⟩) 0 0) w := by
  cases hq : P.info? e with
  | none => simp [hq] at hs
  | some i =>
    have hi : i.size = 1 := by simpa [hq] using hs
    have h1 : (0 : Int) ≤ n ∧ (n : Int) ≤ n := ⟨by omega, by omega⟩
    simp [Instr.sliceAt, run_underlying ht, sizeOf, typeInfo, hq, hi, Instr.sliceBounds, Instr.sureAddr, run_sliceBound w kl n n _ h1.1 h1.2]
theorem nums_two (s t : Nat) (hs : s < 2 ^ 32) (ht : t < 2 ^ 32) (w : World) (b : Nat) (hb : w.heap[b]? = some (.cells #[.float .f32 s, .float .f32 t] 22 (0, 0))) (hdb : w.cell? ⟨6, 15, none⟩ = some (.int .u8 4)) :
    Calls Tryd.prog 37 #[.slice (some ⟨b, 0, none⟩) 2 2] w fun e w' => e = .returned (.string ⟨(numText s ++ 32 :: numText t).toArray⟩) ∧ Below w.heap.size w w' := by
  have h := numbersText_any b 0 2 2 (fun k => if k = 0 then s else t) w (by omega) (by omega) (fun k _ => by split <;> assumption) (fun k hk => by
    obtain rfl | rfl : k = 0 ∨ k = 1 := by omega
    · exact cell_of_row w b 0 _ _ _ hb
    · exact cell_of_row w b 1 _ _ _ hb) hdb
  have e : joinT (fun k => if k = 0 then s else t) 2 = numText s ++ 32 :: numText t := by
    have h2 := tail_join (fun k => if k = 0 then s else t) 2 (by omega)
    have h3 : tailT (fun k => if k = 0 then s else t) 2 = 32 :: (numText s ++ 32 :: numText t) := by simp [tailT]
    rw [h3] at h2
    exact (List.cons.inj h2).2
  rw [e] at h
  exact h

set_option maxHeartbeats 2000000 in
set_option maxRecDepth 100000 in
theorem implTrainTx (n s t : Nat) (F : Nat → Nat) (h2 : 2 ≤ n) (h12 : n ≤ 12) (hs : s < 2 ^ 32) (ht : t < 2 ^ 32) (hF : ∀ i, i < 12 → F i < 2 ^ 32) (hv : trainB n s t F = true) (w : World) (hdb : w.cell? ⟨6, 15, none⟩ = some (.int .u8 4)) :
    Calls Tryd.prog 13 #[.agg (train n s t F)] w fun e w' => e = .returned (.string ⟨(if bareT n F then trainTx n s t F else []).toArray⟩) ∧ Below w.heap.size w w' := by
  obtain ⟨_, _, hps, hpt, hfl, hze⟩ := trainB_facts hv
  have hz : ∀ k, k < 12 - n → F (n + k) = 0 ∨ F (n + k) = 2147483648 := fun k hk => zero_bits (hF _ (by omega)) (hze _ (by omega) (by omega))
  obtain ⟨AO, hAO, hsl⟩ : ∃ AO : Addr, (0 < 12 - n → (some AO : Option Addr) = some ⟨w.heap.size, 3 + n, none⟩) ∧ ∀ w', (Instr.sliceAt 26 (.pointer (some ⟨w.heap.size, 3, none⟩)) (some (.int .i8 n)) none none).run Tryd.prog w' = .ok (.slice (some AO) (12 - n) (12 - n)) w' := by
    by_cases h : n < 12
    · exact ⟨_, fun _ => rfl, fun w' => run_sliceAt_l (P := Tryd.prog) w' 26 22 12 w.heap.size 3 Tryd.underlying26 (by kernel_rfl) .i8 n h⟩
    · obtain rfl : n = 12 := by omega
      exact ⟨⟨w.heap.size, 3, none⟩, fun h => by omega, fun w' => run_sliceAt_endS (P := Tryd.prog) w' 26 22 12 w.heap.size 3 Tryd.underlying26 (by kernel_rfl) .i8⟩
  have hsl2 : ∀ w', (Instr.sliceAt 26 (.pointer (some ⟨w.heap.size, 3, none⟩)) none (some (.int .i8 n)) none).run Tryd.prog w' = .ok (.slice (some ⟨w.heap.size, 3, none⟩) n 12) w' := fun w' =>
    run_sliceAt_h (P := Tryd.prog) w' 26 22 12 w.heap.size 3 Tryd.underlying26 (by kernel_rfl) .i8 n h12
  have hNM : ∀ w' : World, w'.heap[w.heap.size]? = some (.cells (train n s t F) 30 (0, 0)) → Calls Tryd.prog 35 #[.slice (some AO) (12 - n : Nat) (12 - n : Nat)] w' fun e w1 => e = .returned (.bool (bareT n F)) ∧ w' = w1 := fun w' hw => by
    have h := noMinus_any w.heap.size (3 + n) (12 - n) (12 - n) (fun k => F (n + k)) w' (by omega) hz (fun k hk => by
      have e := (cell_of_row w' w.heap.size (3 + (n + k)) _ _ _ hw).trans (row_k3 _ _ _ _ _ (show n + k < 12 by omega))
      rw [← Nat.add_assoc] at e
      exact e) (some AO) hAO
    exact h
  have hDlt : 6 < w.heap.size := World.block_lt_of_cell? _ _ hdb
  obtain ⟨m, hm⟩ : ∃ m, m = 12 - n := ⟨_, rfl⟩
  rw [← hm] at hsl hNM
  have HZ := Lib.hid hz
  have HFL := Lib.hid hfl
  have HZE := Lib.hid hze
  have HV := Lib.hid hv
  have HDB := Lib.hid hdb
  have HAO := Lib.hid hAO
  clear hz hfl hze hm hv hdb hAO
  cases hbare : bareT n F
  · rw [hbare] at hNM
    simp only [Bool.false_eq_true, if_false]
    clear hbare
    go_enter Tryd.func13, Tryd.ntmps13
    go_wp2_with (first | ((with_reducible refine at_load 30 ?_); refine wpList_load_part rfl 30 _ rfl _ 0 15 rfl _ _ _ _ (by repeat (first | (with_reducible assumption) | ((with_reducible refine blk_new _ _ _ ?_); focus (simp; done)) | ((with_reducible refine blk_old _ _ _ ?_ ?_); focus (simp; done)) | ((with_reducible refine blk_old _ _ _ ?_ ?_); focus (first | omega | (simp; omega))) | ((with_reducible apply blk_set); focus (simp; done)) | ((with_reducible refine blk_off _ _ _ _ ?_ ?_); focus (simp; done)) | ((with_reducible refine blk_offc _ _ _ _ ?_ ?_); focus (first | (simp; done) | omega | (simp; omega))) | ((with_reducible refine blk_off _ _ _ _ ?_ ?_); focus (first | omega | (simp; omega))) | (with_reducible refine blk_drew _ _ ?_) | ((with_reducible refine blk_below (by assumption) ?_ ?_); focus (simp; done)) | ((with_reducible refine blk_below (by assumption) ?_ ?_); focus (first | omega | (simp; omega))))) Tryd.underlying30 rfl (by kernel_rfl) (by simp [row_size]) _ (row_all [_, _, _] 12 _) ?_) | (go_at_call 34; (with_reducible refine (implOk_any n s t F _ (by omega) (by omega)).mono ?_); rintro e w1 ⟨rfl, hb1⟩; have hz1 := hb1.size; (try simp at hz1); obtain ⟨hc1, hf1⟩ := bcell hb1) | (go_at_call 35; (with_reducible refine (hNM _ (by repeat (first | (with_reducible assumption) | ((with_reducible refine blk_new _ _ _ ?_); focus (simp; done)) | ((with_reducible refine blk_old _ _ _ ?_ ?_); focus (simp; done)) | ((with_reducible refine blk_old _ _ _ ?_ ?_); focus (first | omega | (simp; omega))) | ((with_reducible apply blk_set); focus (simp; done)) | ((with_reducible refine blk_off _ _ _ _ ?_ ?_); focus (simp; done)) | ((with_reducible refine blk_offc _ _ _ _ ?_ ?_); focus (first | (simp; done) | omega | (simp; omega))) | ((with_reducible refine blk_off _ _ _ _ ?_ ?_); focus (first | omega | (simp; omega))) | (with_reducible refine blk_drew _ _ ?_) | ((with_reducible refine blk_below (by assumption) ?_ ?_); focus (simp; done)) | ((with_reducible refine blk_below (by assumption) ?_ ?_); focus (first | omega | (simp; omega)))))).mono ?_); rintro e w2 ⟨rfl, rfl⟩))
    go_ret
    exact ⟨rfl, (by repeat (first | (with_reducible assumption) | (with_reducible exact Below.refl _ _) | ((with_reducible refine bel_alloc _ ?_ ?_); focus (first | omega | (simp; done) | (simp; omega))) | ((with_reducible refine bel_row _ ?_ ?_); focus (first | omega | (simp; done) | (simp; omega))) | ((with_reducible refine bel_cell _ ?_ ?_); focus (first | omega | (simp; done) | (simp; omega))) | (with_reducible refine Below.drew ?_) | (with_reducible refine below_wideW _ ?_) | ((with_reducible refine bel_next (by assumption) ?_ ?_); focus (first | omega | (simp; done) | (simp; omega)))))⟩
  · rw [hbare] at hNM
    simp only [if_true]
    have hJ1x := fun w' b h1 h2 => nums_two s t hs ht w' b h1 h2
    obtain ⟨D, hDe, hDz, hD⟩ : ∃ D : ByteArray, D = ⟨(Lib.decDigits n).toArray⟩ ∧ D.size ≤ 2 ∧ ∀ w, Calls Tryd.prog 36 #[.int .i64 n] w fun e w' => ∃ v, e = .returned v ∧ v = .string D ∧ Below w.heap.size w w' :=
      ⟨_, rfl, (dec_len n (by omega)).1, fun w => (Tryd.strconv_Itoa_small n (by omega) w).mono fun e w' ⟨h1, h2⟩ => ⟨_, h1, rfl, by rw [h2]; exact Below.refl _ _⟩⟩
    obtain ⟨J1, hJ1e, zJ1, hJ1⟩ : ∃ J : ByteArray, J = ⟨(numText s ++ 32 :: numText t).toArray⟩ ∧ J.size = 17 ∧ ∀ (w' : World) (b : Nat), w'.heap[b]? = some (.cells #[.float .f32 s, .float .f32 t] 22 (0, 0)) → w'.cell? ⟨6, 15, none⟩ = some (.int .u8 4) →
        Calls Tryd.prog 37 #[.slice (some ⟨b, 0, none⟩) 2 2] w' fun e w'' => ∃ v, e = .returned v ∧ v = .string J ∧ Below w'.heap.size w' w'' :=
      ⟨_, rfl, by rw [size_of_list]; simp [numText_length], fun w' b h1 h2 => (hJ1x w' b h1 h2).mono fun e w' ⟨h1, h2⟩ => ⟨_, h1, rfl, h2⟩⟩
    obtain ⟨J2, hJ2e, zJ2, hJ2x⟩ : ∃ J : ByteArray, J = ⟨(joinT F n).toArray⟩ ∧ J.size ≤ 200 ∧ ∀ (w' : World), (∀ k, k < 12 → w'.cell? ⟨w.heap.size, 3 + k, none⟩ = some (.float .f32 (F k))) → w'.cell? ⟨6, 15, none⟩ = some (.int .u8 4) →
        Calls Tryd.prog 37 #[.slice (some ⟨w.heap.size, 3, none⟩) n 12] w' fun e w'' => ∃ v, e = .returned v ∧ v = .string J ∧ Below w'.heap.size w' w'' :=
      ⟨_, rfl, by rw [size_of_list]; have := joinT_length F n (by omega); omega, fun w' h1 h2 => (numbersText_any w.heap.size 3 n 12 F w' (by omega) (by omega) (fun k hk => hF k (by omega)) (fun k hk => h1 k (by omega)) h2).mono fun e w' ⟨h1, h2⟩ => ⟨_, h1, rfl, h2⟩⟩
    have zB : (⟨#[32]⟩ : ByteArray).size = 1 := rfl
    have l1 : D.size + (⟨#[32]⟩ : ByteArray).size ≤ maxLen := by unfold maxLen; omega
    have l2 : (D ++ ⟨#[32]⟩).size + J1.size ≤ maxLen := by simp only [ByteArray.size_append]; unfold maxLen; omega
    have l3 : (D ++ ⟨#[32]⟩ ++ J1).size + (⟨#[32]⟩ : ByteArray).size ≤ maxLen := by simp only [ByteArray.size_append]; unfold maxLen; omega
    have l4 : (D ++ ⟨#[32]⟩ ++ J1 ++ ⟨#[32]⟩).size + J2.size ≤ maxLen := by simp only [ByteArray.size_append]; unfold maxLen; omega
    have hT : (⟨(trainTx n s t F).toArray⟩ : ByteArray) = (D ++ ⟨#[32]⟩ ++ J1 ++ ⟨#[32]⟩ ++ J2) := by
      rw [hDe, hJ1e, hJ2e, show (⟨#[32]⟩ : ByteArray) = ⟨[(32 : UInt8)].toArray⟩ from rfl, str_app, str_app, str_app, str_app]
      congr 2
      unfold trainTx
      rw [← tail_join F n (by omega)]
      simp
    rw [hT]
    have n8 : IntKind.i64.wrap (n : Int) = n := by rw [IntKind.wrap_i64]; omega
    clear hbare hDe hJ1e hJ2e hT hJ1x
    go_enter Tryd.func13, Tryd.ntmps13
    go_upto_region 3 with (first | ((with_reducible refine at_load 30 ?_); refine wpList_load_part rfl 30 _ rfl _ 0 15 rfl _ _ _ _ (by repeat (first | (with_reducible assumption) | ((with_reducible refine blk_new _ _ _ ?_); focus (simp; done)) | ((with_reducible refine blk_old _ _ _ ?_ ?_); focus (simp; done)) | ((with_reducible refine blk_old _ _ _ ?_ ?_); focus (first | omega | (simp; omega))) | ((with_reducible apply blk_set); focus (simp; done)) | ((with_reducible refine blk_off _ _ _ _ ?_ ?_); focus (simp; done)) | ((with_reducible refine blk_offc _ _ _ _ ?_ ?_); focus (first | (simp; done) | omega | (simp; omega))) | ((with_reducible refine blk_off _ _ _ _ ?_ ?_); focus (first | omega | (simp; omega))) | (with_reducible refine blk_drew _ _ ?_) | ((with_reducible refine blk_below (by assumption) ?_ ?_); focus (simp; done)) | ((with_reducible refine blk_below (by assumption) ?_ ?_); focus (first | omega | (simp; omega))))) Tryd.underlying30 rfl (by kernel_rfl) (by simp [row_size]) _ (row_all [_, _, _] 12 _) ?_) | (go_at_call 34; (with_reducible refine (implOk_any n s t F _ (by omega) (by omega)).mono ?_); rintro e w1 ⟨rfl, hb1⟩; have hz1 := hb1.size; (try simp at hz1); obtain ⟨hc1, hf1⟩ := bcell hb1) | (go_at_call 35; (with_reducible refine (hNM _ (by repeat (first | (with_reducible assumption) | ((with_reducible refine blk_new _ _ _ ?_); focus (simp; done)) | ((with_reducible refine blk_old _ _ _ ?_ ?_); focus (simp; done)) | ((with_reducible refine blk_old _ _ _ ?_ ?_); focus (first | omega | (simp; omega))) | ((with_reducible apply blk_set); focus (simp; done)) | ((with_reducible refine blk_off _ _ _ _ ?_ ?_); focus (simp; done)) | ((with_reducible refine blk_offc _ _ _ _ ?_ ?_); focus (first | (simp; done) | omega | (simp; omega))) | ((with_reducible refine blk_off _ _ _ _ ?_ ?_); focus (first | omega | (simp; omega))) | (with_reducible refine blk_drew _ _ ?_) | ((with_reducible refine blk_below (by assumption) ?_ ?_); focus (simp; done)) | ((with_reducible refine blk_below (by assumption) ?_ ?_); focus (first | omega | (simp; omega)))))).mono ?_); rintro e w2 ⟨rfl, rfl⟩))
    refine wp_nm (S := fun W => W.heap[w.heap.size]? = some (.cells (train n s t F) 30 (0, 0)) ∧ Below w.heap.size w W ∧ w.heap.size + 1 ≤ W.heap.size) ⟨(by repeat (first | (with_reducible assumption) | ((with_reducible refine blk_new _ _ _ ?_); focus (simp; done)) | ((with_reducible refine blk_old _ _ _ ?_ ?_); focus (simp; done)) | ((with_reducible refine blk_old _ _ _ ?_ ?_); focus (first | omega | (simp; omega))) | ((with_reducible apply blk_set); focus (simp; done)) | ((with_reducible refine blk_off _ _ _ _ ?_ ?_); focus (simp; done)) | ((with_reducible refine blk_offc _ _ _ _ ?_ ?_); focus (first | (simp; done) | omega | (simp; omega))) | ((with_reducible refine blk_off _ _ _ _ ?_ ?_); focus (first | omega | (simp; omega))) | (with_reducible refine blk_drew _ _ ?_) | ((with_reducible refine blk_below (by assumption) ?_ ?_); focus (simp; done)) | ((with_reducible refine blk_below (by assumption) ?_ ?_); focus (first | omega | (simp; omega))))), (by repeat (first | (with_reducible assumption) | (with_reducible exact Below.refl _ _) | ((with_reducible refine bel_alloc _ ?_ ?_); focus (first | omega | (simp; done) | (simp; omega))) | ((with_reducible refine bel_row _ ?_ ?_); focus (first | omega | (simp; done) | (simp; omega))) | ((with_reducible refine bel_cell _ ?_ ?_); focus (first | omega | (simp; done) | (simp; omega))) | (with_reducible refine Below.drew ?_) | (with_reducible refine below_wideW _ ?_) | ((with_reducible refine bel_next (by assumption) ?_ ?_); focus (first | omega | (simp; done) | (simp; omega))))), (by first | omega | (simp; done) | (simp; omega) | (simp at *; omega))⟩ ?_
    rintro W ⟨hB, hbW, hsW⟩
    have c0 : W.cell? ⟨w.heap.size, 0, none⟩ = some (.int .i8 n) := (cell_of_row W _ 0 _ _ _ hB).trans rfl
    have c1 : W.cell? ⟨w.heap.size, 1, none⟩ = some (.float .f32 s) := (cell_of_row W _ 1 _ _ _ hB).trans rfl
    have c2 : W.cell? ⟨w.heap.size, 2, none⟩ = some (.float .f32 t) := (cell_of_row W _ 2 _ _ _ hB).trans rfl
    have c3 : ∀ k, k < 12 → W.cell? ⟨w.heap.size, 3 + k, none⟩ = some (.float .f32 (F k)) := fun k hk => (cell_of_row W _ (3 + k) _ _ _ hB).trans (row_k3 _ _ _ _ _ hk)
    have hBlt : w.heap.size < W.heap.size := by omega
    have hDlt' : 6 < W.heap.size := by omega
    have cd : W.cell? ⟨6, 15, none⟩ = some (.int .u8 4) := (hbW.cell (p := ⟨6, 15, none⟩) hDlt).trans HDB.out
    have hBB : w.heap.size ≤ W.heap.size := by omega
    have hK : KeptS w.heap.size w W W := KeptS.refl hbW
    have hJ2 : ∀ w', KeptS w.heap.size w W w' → Calls Tryd.prog 37 #[.slice (some ⟨w.heap.size, 3, none⟩) n 12] w' fun e w'' => ∃ v, e = .returned v ∧ v = .string J2 ∧ Below w'.heap.size w' w'' := fun w' hk =>
      hJ2x w' (fun k hk' => (hk.cell (p := ⟨w.heap.size, 3 + k, none⟩) hBlt).trans (c3 k hk')) ((hk.cell (p := ⟨6, 15, none⟩) hDlt').trans cd)
    refine region_merge (fun a0 a' W' => a'.tmps.getD 2 undef = .string (D ++ ⟨#[32]⟩ ++ J1 ++ ⟨#[32]⟩ ++ J2) ∧ a'.defers = [] ∧ Below w.heap.size w W') ?_ ?_
    · refine wp_region_held_drew (S := fun w' => KeptS w.heap.size w W w') (by kernel_rfl) hK.drew (fun hS => ?_)
      refine held_yield 0 rfl rfl (by kernel_rfl) (by kernel_rfl) (by kernel_rfl) (fun _ _ _ _ h => nomatch h.1) (.pointer (some ⟨w.heap.size, 0, none⟩)) (fun w' hw' => by go_simp) hS ?_
      refine held_yield 1 rfl rfl (by kernel_rfl) (by kernel_rfl) (by kernel_rfl) (fun _ _ _ _ h => nomatch h.1) (.int .i8 n) (fun w' hw' => by (have c := (hw'.cell (p := ⟨w.heap.size, 0, none⟩) hBlt).trans c0; go_simp)) hS ?_
      refine held_yield 2 rfl rfl (by kernel_rfl) (by kernel_rfl) (by kernel_rfl) (fun _ _ _ _ h => nomatch h.1) (.int .i64 n) (fun w' hw' => by go_simp) hS ?_
      refine held_yield 5 rfl rfl (by kernel_rfl) (by kernel_rfl) (by kernel_rfl) (fun _ _ _ _ h => nomatch h.1) (.pointer (some ⟨w.heap.size, 1, none⟩)) (fun w' hw' => by go_simp) hS ?_
      refine held_yield 6 rfl rfl (by kernel_rfl) (by kernel_rfl) (by kernel_rfl) (fun _ _ _ _ h => nomatch h.1) (.float .f32 s) (fun w' hw' => by (have c := (hw'.cell (p := ⟨w.heap.size, 1, none⟩) hBlt).trans c1; go_simp)) hS ?_
      refine held_yield 7 rfl rfl (by kernel_rfl) (by kernel_rfl) (by kernel_rfl) (fun _ _ _ _ h => nomatch h.1) (.pointer (some ⟨w.heap.size, 2, none⟩)) (fun w' hw' => by go_simp) hS ?_
      refine held_yield 8 rfl rfl (by kernel_rfl) (by kernel_rfl) (by kernel_rfl) (fun _ _ _ _ h => nomatch h.1) (.float .f32 t) (fun w' hw' => by (have c := (hw'.cell (p := ⟨w.heap.size, 2, none⟩) hBlt).trans c2; go_simp)) hS ?_
      refine held_yield 13 rfl rfl (by kernel_rfl) (by kernel_rfl) (by kernel_rfl) (fun _ _ _ _ h => nomatch h.1) (.pointer (some ⟨w.heap.size, 3, none⟩)) (fun w' hw' => by go_simp) hS ?_
      refine held_yield 14 rfl rfl (by kernel_rfl) (by kernel_rfl) (by kernel_rfl) (fun _ _ _ _ h => nomatch h.1) (.pointer (some ⟨w.heap.size, 0, none⟩)) (fun w' hw' => by go_simp) hS ?_
      refine held_yield 15 rfl rfl (by kernel_rfl) (by kernel_rfl) (by kernel_rfl) (fun _ _ _ _ h => nomatch h.1) (.int .i8 n) (fun w' hw' => by (have c := (hw'.cell (p := ⟨w.heap.size, 0, none⟩) hBlt).trans c0; go_simp)) hS ?_
      refine held_yield 16 rfl rfl (by kernel_rfl) (by kernel_rfl) (by kernel_rfl) (fun _ _ _ _ h => nomatch h.1) (.slice (some ⟨w.heap.size, 3, none⟩) n 12) (fun w' hw' => by (have h := hsl2 w'; go_simp)) hS ?_
      refine held_two 3 9 (by kernel_rfl) rfl rfl rfl rfl ?_ ?_
      · with_reducible refine oper_call 36 #[.int .i64 n] ?he (hD _) (fun v0 W0 hR => ?_)
        case he => first | kernel_rfl | go_simp
        obtain ⟨rfl, hb0⟩ := hR
        have hk0 := hS.call hBB hb0
        have hs0 := hb0.size
        refine ⟨hk0, ?_⟩
        refine held_yield 4 rfl rfl (by kernel_rfl) (by kernel_rfl) (by kernel_rfl) (fun _ _ _ _ h => nomatch h.1) (.string (D ++ ⟨#[32]⟩)) (fun w' hw' => by exact exec_cat 9 9 (.tmp 17) (.const (.string ⟨#[32]⟩)) (by kernel_rfl) (D) (⟨#[32]⟩) (by kernel_rfl) (by kernel_rfl) l1 w') hk0 ?_
        refine held_one 9 (by kernel_rfl) rfl rfl ?_
        with_reducible refine oper_value (.slice (some ⟨W0.heap.size, 0, none⟩) 2 2) (w1 := W0.alloc (.cells #[.float .f32 s, .float .f32 t] 22)) ?he ?_
        case he => first | kernel_rfl | go_simp
        have hk1 := hk0.alloc hBB (.cells #[.float .f32 s, .float .f32 t] 22)
        obtain ⟨bk1, hbk1⟩ : ∃ b, b = W0.heap.size := ⟨_, rfl⟩
        obtain ⟨V1, hV1⟩ : ∃ V, V = W0.alloc (.cells #[.float .f32 s, .float .f32 t] 22) := ⟨_, rfl⟩
        have hn1 : V1.heap[bk1]? = some (.cells #[.float .f32 s, .float .f32 t] 22) := by rw [hV1, hbk1]; exact heap_alloc_new _ _
        have hz1 : bk1 < V1.heap.size := by rw [hV1, hbk1]; simp
        rw [← hV1] at hk1 ⊢
        rw [← hbk1]
        clear hV1 hbk1
        refine ⟨hk1, ?_⟩
        refine held_one 10 (by kernel_rfl) rfl rfl ?_
        with_reducible refine oper_call 37 #[.slice (some ⟨bk1, 0, none⟩) 2 2] ?he (hJ1 _ _ hn1 ((hk1.cell (p := ⟨6, 15, none⟩) hDlt').trans cd)) (fun v0 W2 hR => ?_)
        case he => first | kernel_rfl | go_simp
        obtain ⟨rfl, hb2⟩ := hR
        have hk2 := hk1.call hBB hb2
        have hs2 := hb2.size
        have hn1_2 := (hb2.block bk1 (by first | omega | (simp; omega) | simp)).trans hn1
        refine ⟨hk2, ?_⟩
        refine held_yield 11 rfl rfl (by kernel_rfl) (by kernel_rfl) (by kernel_rfl) (fun _ _ _ _ h => nomatch h.1) (.string (D ++ ⟨#[32]⟩ ++ J1)) (fun w' hw' => by exact exec_cat 9 9 (.tmp 18) (.tmp 24) (by kernel_rfl) (D ++ ⟨#[32]⟩) (J1) (by kernel_rfl) (by kernel_rfl) l2 w') hk2 ?_
        refine held_yield 12 rfl rfl (by kernel_rfl) (by kernel_rfl) (by kernel_rfl) (fun _ _ _ _ h => nomatch h.1) (.string (D ++ ⟨#[32]⟩ ++ J1 ++ ⟨#[32]⟩)) (fun w' hw' => by exact exec_cat 9 9 (.tmp 25) (.const (.string ⟨#[32]⟩)) (by kernel_rfl) (D ++ ⟨#[32]⟩ ++ J1) (⟨#[32]⟩) (by kernel_rfl) (by kernel_rfl) l3 w') hk2 ?_
        refine held_one 17 (by kernel_rfl) rfl rfl ?_
        with_reducible refine oper_call 37 #[.slice (some ⟨w.heap.size, 3, none⟩) n 12] ?he (hJ2 _ hk2) (fun v0 W3 hR => ?_)
        case he => first | kernel_rfl | go_simp
        obtain ⟨rfl, hb3⟩ := hR
        have hk3 := hk2.call hBB hb3
        have hs3 := hb3.size
        have hn1_3 := (hb3.block bk1 (by first | omega | (simp; omega) | simp)).trans hn1_2
        refine ⟨hk3, ?_⟩
        refine held_yield 18 rfl rfl (by kernel_rfl) (by kernel_rfl) (by kernel_rfl) (fun _ _ _ _ h => nomatch h.1) (.string (D ++ ⟨#[32]⟩ ++ J1 ++ ⟨#[32]⟩ ++ J2)) (fun w' hw' => by exact exec_cat 9 9 (.tmp 26) (.tmp 31) (by kernel_rfl) (D ++ ⟨#[32]⟩ ++ J1 ++ ⟨#[32]⟩) (J2) (by kernel_rfl) (by kernel_rfl) l4 w') hk3 ?_
        refine held_yield 19 rfl rfl (by kernel_rfl) (by kernel_rfl) (by kernel_rfl) (fun _ _ _ _ h => nomatch h.1) (.string (D ++ ⟨#[32]⟩ ++ J1 ++ ⟨#[32]⟩ ++ J2)) (fun w' hw' => by (first | kernel_rfl | go_simp)) hk3 ?_
        refine wpAnyH_done (by kernel_rfl) ⟨rfl, by kernel_rfl, by kernel_rfl, hk3.2.2⟩ _
      · with_reducible refine oper_value (.slice (some ⟨W.drew.heap.size, 0, none⟩) 2 2) (w1 := W.drew.alloc (.cells #[.float .f32 s, .float .f32 t] 22)) ?he ?_
        case he => first | kernel_rfl | go_simp
        have hk0 := hS.alloc hBB (.cells #[.float .f32 s, .float .f32 t] 22)
        obtain ⟨bk0, hbk0⟩ : ∃ b, b = W.drew.heap.size := ⟨_, rfl⟩
        obtain ⟨V0, hV0⟩ : ∃ V, V = W.drew.alloc (.cells #[.float .f32 s, .float .f32 t] 22) := ⟨_, rfl⟩
        have hn0 : V0.heap[bk0]? = some (.cells #[.float .f32 s, .float .f32 t] 22) := by rw [hV0, hbk0]; exact heap_alloc_new _ _
        have hz0 : bk0 < V0.heap.size := by rw [hV0, hbk0]; simp
        rw [← hV0] at hk0 ⊢
        rw [← hbk0]
        clear hV0 hbk0
        refine ⟨hk0, ?_⟩
        refine held_one 3 (by kernel_rfl) rfl rfl ?_
        with_reducible refine oper_call 36 #[.int .i64 n] ?he (hD _) (fun v0 W1 hR => ?_)
        case he => first | kernel_rfl | go_simp
        obtain ⟨rfl, hb1⟩ := hR
        have hk1 := hk0.call hBB hb1
        have hs1 := hb1.size
        have hn0_1 := (hb1.block bk0 (by first | omega | (simp; omega) | simp)).trans hn0
        refine ⟨hk1, ?_⟩
        refine held_yield 4 rfl rfl (by kernel_rfl) (by kernel_rfl) (by kernel_rfl) (fun _ _ _ _ h => nomatch h.1) (.string (D ++ ⟨#[32]⟩)) (fun w' hw' => by exact exec_cat 9 9 (.tmp 17) (.const (.string ⟨#[32]⟩)) (by kernel_rfl) (D) (⟨#[32]⟩) (by kernel_rfl) (by kernel_rfl) l1 w') hk1 ?_
        refine held_one 10 (by kernel_rfl) rfl rfl ?_
        with_reducible refine oper_call 37 #[.slice (some ⟨bk0, 0, none⟩) 2 2] ?he (hJ1 _ _ hn0_1 ((hk1.cell (p := ⟨6, 15, none⟩) hDlt').trans cd)) (fun v0 W2 hR => ?_)
        case he => first | kernel_rfl | go_simp
        obtain ⟨rfl, hb2⟩ := hR
        have hk2 := hk1.call hBB hb2
        have hs2 := hb2.size
        have hn0_2 := (hb2.block bk0 (by first | omega | (simp; omega) | simp)).trans hn0_1
        refine ⟨hk2, ?_⟩
        refine held_yield 11 rfl rfl (by kernel_rfl) (by kernel_rfl) (by kernel_rfl) (fun _ _ _ _ h => nomatch h.1) (.string (D ++ ⟨#[32]⟩ ++ J1)) (fun w' hw' => by exact exec_cat 9 9 (.tmp 18) (.tmp 24) (by kernel_rfl) (D ++ ⟨#[32]⟩) (J1) (by kernel_rfl) (by kernel_rfl) l2 w') hk2 ?_
        refine held_yield 12 rfl rfl (by kernel_rfl) (by kernel_rfl) (by kernel_rfl) (fun _ _ _ _ h => nomatch h.1) (.string (D ++ ⟨#[32]⟩ ++ J1 ++ ⟨#[32]⟩)) (fun w' hw' => by exact exec_cat 9 9 (.tmp 25) (.const (.string ⟨#[32]⟩)) (by kernel_rfl) (D ++ ⟨#[32]⟩ ++ J1) (⟨#[32]⟩) (by kernel_rfl) (by kernel_rfl) l3 w') hk2 ?_
        refine held_one 17 (by kernel_rfl) rfl rfl ?_
        with_reducible refine oper_call 37 #[.slice (some ⟨w.heap.size, 3, none⟩) n 12] ?he (hJ2 _ hk2) (fun v0 W3 hR => ?_)
        case he => first | kernel_rfl | go_simp
        obtain ⟨rfl, hb3⟩ := hR
        have hk3 := hk2.call hBB hb3
        have hs3 := hb3.size
        have hn0_3 := (hb3.block bk0 (by first | omega | (simp; omega) | simp)).trans hn0_2
        refine ⟨hk3, ?_⟩
        refine held_yield 18 rfl rfl (by kernel_rfl) (by kernel_rfl) (by kernel_rfl) (fun _ _ _ _ h => nomatch h.1) (.string (D ++ ⟨#[32]⟩ ++ J1 ++ ⟨#[32]⟩ ++ J2)) (fun w' hw' => by exact exec_cat 9 9 (.tmp 26) (.tmp 31) (by kernel_rfl) (D ++ ⟨#[32]⟩ ++ J1 ++ ⟨#[32]⟩) (J2) (by kernel_rfl) (by kernel_rfl) l4 w') hk3 ?_
        refine held_yield 19 rfl rfl (by kernel_rfl) (by kernel_rfl) (by kernel_rfl) (fun _ _ _ _ h => nomatch h.1) (.string (D ++ ⟨#[32]⟩ ++ J1 ++ ⟨#[32]⟩ ++ J2)) (fun w' hw' => by (first | kernel_rfl | go_simp)) hk3 ?_
        refine wpAnyH_done (by kernel_rfl) ⟨rfl, by kernel_rfl, by kernel_rfl, hk3.2.2⟩ _
    · rintro a' W' ⟨hv, hd, hb⟩
      go_wp2
      exact bodyPost_ret (results_tmp Tryd.results13 _ _ _) hd ⟨by rw [hv], hb⟩
end Go.Proofs.YtckcngmbbnilnaaDoor
