/- The law on TrainText. -/
import Derived.Test.YtckcngmbbnilnaaDoorTextI
set_option linter.unusedVariables false
set_option linter.unusedSimpArgs false
namespace Go.Proofs.YtckcngmbbnilnaaDoor
open Go.RowKit Go.Lib

set_option maxHeartbeats 2000000 in
set_option maxRecDepth 100000 in
theorem specTrainText_any (r : Int) (s t : Nat) (F : Nat → Nat) (lr : -128 ≤ r) (ur : r ≤ 127) (hs : s < 2 ^ 32) (ht : t < 2 ^ 32) (hF : ∀ i, i < 12 → F i < 2 ^ 32) (w : World) :
    Calls Tryd.prog 11 #[.agg (train r s t F)] w fun e w' => e = .returned (.string ⟨(trainText r s t F).toArray⟩) ∧ Below w.heap.size w w' := by
  cases hv : trainB r s t F
  · have hT : trainText r s t F = [] := by unfold trainText; rw [hv]; rfl
    rw [hT]
    go_enter Tryd.func11, Tryd.ntmps11
    go_wp2_with (first | (go_at_call 30; (with_reducible refine (specOk_any r s t F _ (by omega) (by omega) _ ?_).mono ?_); (focus (repeat (first | (with_reducible assumption) | ((with_reducible refine blk_new _ _ _ ?_); focus (simp; done)) | ((with_reducible refine blk_old _ _ _ ?_ ?_); focus (simp; done)) | ((with_reducible refine blk_old _ _ _ ?_ ?_); focus (first | omega | (simp; omega))) | ((with_reducible apply blk_set); focus (simp; done)) | ((with_reducible refine blk_off _ _ _ _ ?_ ?_); focus (simp; done)) | ((with_reducible refine blk_offc _ _ _ _ ?_ ?_); focus (first | (simp; done) | omega | (simp; omega))) | ((with_reducible refine blk_off _ _ _ _ ?_ ?_); focus (first | omega | (simp; omega))) | (with_reducible refine blk_drew _ _ ?_) | ((with_reducible refine blk_below (by assumption) ?_ ?_); focus (simp; done)) | ((with_reducible refine blk_below (by assumption) ?_ ?_); focus (first | omega | (simp; omega)))))); rintro e w1 ⟨rfl, rfl⟩))
    go_ret
    exact ⟨rfl, (by repeat (first | (with_reducible assumption) | (with_reducible exact Below.refl _ _) | ((with_reducible refine bel_alloc _ ?_ ?_); focus (first | omega | (simp; done) | (simp; omega))) | ((with_reducible refine bel_row _ ?_ ?_); focus (first | omega | (simp; done) | (simp; omega))) | ((with_reducible refine bel_cell _ ?_ ?_); focus (first | omega | (simp; done) | (simp; omega))) | (with_reducible refine Below.drew ?_) | (with_reducible refine below_wideW _ ?_) | ((with_reducible refine bel_next (by assumption) ?_ ?_); focus (first | omega | (simp; done) | (simp; omega)))))⟩
  · obtain ⟨h2, h12, hps, hpt, hfl, hze⟩ := trainB_facts hv
    obtain ⟨n, rfl⟩ : ∃ n : Nat, r = n := ⟨r.toNat, by omega⟩
    have h2' : 2 ≤ n := by omega
    have h12' : n ≤ 12 := by omega
    have hz : ∀ k, n ≤ k → k < 12 → F k = 0 ∨ F k = 2147483648 := fun k h1 hk => zero_bits (hF _ (by omega)) (hze _ (by omega) (by omega))
    have hT : trainText n s t F = if bareT n F then trainTx n s t F else [] := by unfold trainText; rw [hv]; rfl
    have hTx := fun w B hB => specTrainTx n s t F h2' h12' hs ht hF w B hB
    rw [hT]
    obtain ⟨V, hV⟩ : ∃ V : ByteArray, V = ⟨(if bareT n F then trainTx n s t F else []).toArray⟩ := ⟨_, rfl⟩
    rw [← hV]
    have HVV := Lib.hid hV
    clear hV
    have HZ := Lib.hid hz
    have HF := Lib.hid hF
    have HV := Lib.hid hv
    have HX := Lib.hid hTx
    clear hfl hze hz hF hT hTx hps hpt hs ht
    go_enter Tryd.func11, Tryd.ntmps11
    go_wp2_with (first | (go_at_call 30; (with_reducible refine (specOk_any n s t F _ (by omega) (by omega) _ ?_).mono ?_); (focus (repeat (first | (with_reducible assumption) | ((with_reducible refine blk_new _ _ _ ?_); focus (simp; done)) | ((with_reducible refine blk_old _ _ _ ?_ ?_); focus (simp; done)) | ((with_reducible refine blk_old _ _ _ ?_ ?_); focus (first | omega | (simp; omega))) | ((with_reducible apply blk_set); focus (simp; done)) | ((with_reducible refine blk_off _ _ _ _ ?_ ?_); focus (simp; done)) | ((with_reducible refine blk_offc _ _ _ _ ?_ ?_); focus (first | (simp; done) | omega | (simp; omega))) | ((with_reducible refine blk_off _ _ _ _ ?_ ?_); focus (first | omega | (simp; omega))) | (with_reducible refine blk_drew _ _ ?_) | ((with_reducible refine blk_below (by assumption) ?_ ?_); focus (simp; done)) | ((with_reducible refine blk_below (by assumption) ?_ ?_); focus (first | omega | (simp; omega)))))); rintro e w1 ⟨rfl, rfl⟩; rw [HV.out]))
    refine wp_nm (S := fun W => W.heap[w.heap.size]? = some (.cells (train n s t F) 30 (0, 0)) ∧ Below w.heap.size w W ∧ w.heap.size + 1 ≤ W.heap.size) ⟨(by repeat (first | (with_reducible assumption) | ((with_reducible refine blk_new _ _ _ ?_); focus (simp; done)) | ((with_reducible refine blk_old _ _ _ ?_ ?_); focus (simp; done)) | ((with_reducible refine blk_old _ _ _ ?_ ?_); focus (first | omega | (simp; omega))) | ((with_reducible apply blk_set); focus (simp; done)) | ((with_reducible refine blk_off _ _ _ _ ?_ ?_); focus (simp; done)) | ((with_reducible refine blk_offc _ _ _ _ ?_ ?_); focus (first | (simp; done) | omega | (simp; omega))) | ((with_reducible refine blk_off _ _ _ _ ?_ ?_); focus (first | omega | (simp; omega))) | (with_reducible refine blk_drew _ _ ?_) | ((with_reducible refine blk_below (by assumption) ?_ ?_); focus (simp; done)) | ((with_reducible refine blk_below (by assumption) ?_ ?_); focus (first | omega | (simp; omega))))), (by repeat (first | (with_reducible assumption) | (with_reducible exact Below.refl _ _) | ((with_reducible refine bel_alloc _ ?_ ?_); focus (first | omega | (simp; done) | (simp; omega))) | ((with_reducible refine bel_row _ ?_ ?_); focus (first | omega | (simp; done) | (simp; omega))) | ((with_reducible refine bel_cell _ ?_ ?_); focus (first | omega | (simp; done) | (simp; omega))) | (with_reducible refine Below.drew ?_) | (with_reducible refine below_wideW _ ?_) | ((with_reducible refine bel_next (by assumption) ?_ ?_); focus (first | omega | (simp; done) | (simp; omega))))), (by first | omega | (simp; done) | (simp; omega) | (simp at *; omega))⟩ ?_
    rintro W ⟨hB, hbW, hsW⟩
    have HB := Lib.hid hB
    have HBW := Lib.hid hbW
    have c3 : ∀ k, k < 12 → W.cell? ⟨w.heap.size, 3 + k, none⟩ = some (.float .f32 (F k)) := fun k hk => (cell_of_row W _ (3 + k) _ _ _ hB).trans (row_k3 _ _ _ _ _ hk)
    have C3 := Lib.hid c3
    clear hB hbW c3
    go_loop [3] (fun i => ∃ k : Nat, n ≤ k ∧ k ≤ 12 ∧ i = .int .i64 k ∧ Hid (allZ (fun j => F (n + j)) (k - n) = true)) (fun i => 13 - (RowKit.intOf i).toNat)
    case atStart => exact ⟨n, by omega, by omega, rfl, by rw [Nat.sub_self]; rfl⟩
    case round =>
      obtain ⟨k, hk1, hk2, rfl, hA⟩ := hrel
      by_cases hlt : k < 12
      · have gk := C3.out k hlt
        have ix := fun w' => run_index_row (P := Tryd.prog) w' 26 22 12 F k hlt Tryd.underlying26 Tryd.underlying22 (by kernel_rfl)
        have hS := fun w' => specBits (F k) (HF.out k hlt) w'
        rw [canon_zero (HZ.out k hk1 hlt)] at hS
        have i2 : (k : Int) < 12 := by omega
        rcases HZ.out k hk1 hlt with h0 | h0
        · have HN : Hid (allZ (fun j => F (n + j)) (k + 1 - n) = true) := Lib.hid (by
            rw [show k + 1 - n = (k - n) + 1 by omega]
            exact allZ_step hA.out (by show F (n + (k - n)) = 0; rw [show n + (k - n) = k by omega]; exact h0))
          rw [h0] at gk hS
          clear hA h0
          go_wp2_with (go_at_call 31; with_reducible refine (hS _).mono ?_; rintro e w1 ⟨rfl, rfl⟩)
          go_round
          case rel => exact ⟨k + 1, by omega, by omega, by first | rfl | go_num, HN⟩
          case measure => simp [RowKit.intOf]; omega
        · have HN : Hid (bareT n F = false) := Lib.hid (allZ_no (k := k - n) (by omega) (by show F (n + (k - n)) ≠ 0; rw [show n + (k - n) = k by omega, h0]; decide))
          rw [h0] at gk hS
          clear hA h0
          go_wp2_with (go_at_call 31; with_reducible refine (hS _).mono ?_; rintro e w1 ⟨rfl, rfl⟩)
          go_ret
          exact ⟨by rw [HVV.out, HN.out]; rfl, HBW.out⟩
      · obtain rfl : k = 12 := by omega
        have HN : Hid (bareT n F = true) := Lib.hid hA.out
        clear hA
        go_wp2_with (go_at_call 32; with_reducible refine (HX.out _ _ HB.out).mono ?_; rintro e w2 ⟨rfl, hb2⟩)
        go_ret
        exact ⟨by rw [HVV.out, HN.out]; rfl, HBW.out.trans (hb2.mono (by omega))⟩

set_option maxHeartbeats 2000000 in
set_option maxRecDepth 100000 in
theorem implTrainText_any (r : Int) (s t : Nat) (F : Nat → Nat) (lr : -128 ≤ r) (ur : r ≤ 127) (hs : s < 2 ^ 32) (ht : t < 2 ^ 32) (hF : ∀ i, i < 12 → F i < 2 ^ 32) (w : World) (hdb : w.cell? ⟨6, 15, none⟩ = some (.int .u8 4)) :
    Calls Tryd.prog 13 #[.agg (train r s t F)] w fun e w' => e = .returned (.string ⟨(trainText r s t F).toArray⟩) ∧ Below w.heap.size w w' := by
  cases hv : trainB r s t F
  · have hT : trainText r s t F = [] := by unfold trainText; rw [hv]; rfl
    rw [hT]
    clear hdb
    go_enter Tryd.func13, Tryd.ntmps13
    go_wp2_with (first | ((with_reducible refine at_load 30 ?_); refine wpList_load_part rfl 30 _ rfl _ 0 15 rfl _ _ _ _ (by repeat (first | (with_reducible assumption) | ((with_reducible refine blk_new _ _ _ ?_); focus (simp; done)) | ((with_reducible refine blk_old _ _ _ ?_ ?_); focus (simp; done)) | ((with_reducible refine blk_old _ _ _ ?_ ?_); focus (first | omega | (simp; omega))) | ((with_reducible apply blk_set); focus (simp; done)) | ((with_reducible refine blk_off _ _ _ _ ?_ ?_); focus (simp; done)) | ((with_reducible refine blk_offc _ _ _ _ ?_ ?_); focus (first | (simp; done) | omega | (simp; omega))) | ((with_reducible refine blk_off _ _ _ _ ?_ ?_); focus (first | omega | (simp; omega))) | (with_reducible refine blk_drew _ _ ?_) | ((with_reducible refine blk_below (by assumption) ?_ ?_); focus (simp; done)) | ((with_reducible refine blk_below (by assumption) ?_ ?_); focus (first | omega | (simp; omega))))) Tryd.underlying30 rfl (by kernel_rfl) (by simp [row_size]) _ (row_all [_, _, _] 12 _) ?_) | (go_at_call 34; (with_reducible refine (implOk_any r s t F _ (by omega) (by omega)).mono ?_); rintro e w1 ⟨rfl, hb1⟩; have hz1 := hb1.size; (try simp at hz1); obtain ⟨hc1, hf1⟩ := bcell hb1))
    go_ret
    exact ⟨rfl, (by repeat (first | (with_reducible assumption) | (with_reducible exact Below.refl _ _) | ((with_reducible refine bel_alloc _ ?_ ?_); focus (first | omega | (simp; done) | (simp; omega))) | ((with_reducible refine bel_row _ ?_ ?_); focus (first | omega | (simp; done) | (simp; omega))) | ((with_reducible refine bel_cell _ ?_ ?_); focus (first | omega | (simp; done) | (simp; omega))) | (with_reducible refine Below.drew ?_) | (with_reducible refine below_wideW _ ?_) | ((with_reducible refine bel_next (by assumption) ?_ ?_); focus (first | omega | (simp; done) | (simp; omega)))))⟩
  · obtain ⟨h2, h12, _⟩ := trainB_facts hv
    obtain ⟨n, rfl⟩ : ∃ n : Nat, r = n := ⟨r.toNat, by omega⟩
    have hT : trainText n s t F = if bareT n F then trainTx n s t F else [] := by unfold trainText; rw [hv]; rfl
    rw [hT]
    exact implTrainTx n s t F (by omega) (by omega) hs ht hF hv w hdb

set_option maxHeartbeats 2000000 in
set_option maxRecDepth 100000 in
theorem exactTrainText_any (r : Int) (s t : Nat) (F : Nat → Nat) (lr : -128 ≤ r) (ur : r ≤ 127) (hs : s < 2 ^ 32) (ht : t < 2 ^ 32) (hF : ∀ i, i < 12 → F i < 2 ^ 32) (w : World) (hdb : w.cell? ⟨6, 15, none⟩ = some (.int .u8 4)) :
    Calls Tryd.prog 4 #[.agg (train r s t F)] w fun e w' => e = .returned (.bool true) ∧ Below w.heap.size w w' := by
  have h1 := fun w => specTrainText_any r s t F lr ur hs ht hF w
  have h2 := fun w h => implTrainText_any r s t F lr ur hs ht hF w h
  have hlt : 6 < w.heap.size := World.block_lt_of_cell? _ _ hdb
  have hD : ∀ w', Below w.heap.size w w' → w'.cell? ⟨6, 15, none⟩ = some (.int .u8 4) := fun w' hb => (hb.cell (p := ⟨6, 15, none⟩) hlt).trans hdb
  obtain ⟨S, hS⟩ : ∃ S : ByteArray, S = ⟨(trainText r s t F).toArray⟩ := ⟨_, rfl⟩
  simp only [← hS] at h1 h2
  clear hS hdb
  go_enter Tryd.func4, Tryd.ntmps4
  go_wp2_with (first | ((with_reducible refine at_load 28 ?_); refine wpList_load_part rfl 28 _ rfl _ 0 15 rfl _ _ _ _ (by repeat (first | (with_reducible assumption) | ((with_reducible refine blk_new _ _ _ ?_); focus (simp; done)) | ((with_reducible refine blk_old _ _ _ ?_ ?_); focus (simp; done)) | ((with_reducible refine blk_old _ _ _ ?_ ?_); focus (first | omega | (simp; omega))) | ((with_reducible apply blk_set); focus (simp; done)) | ((with_reducible refine blk_off _ _ _ _ ?_ ?_); focus (simp; done)) | ((with_reducible refine blk_offc _ _ _ _ ?_ ?_); focus (first | (simp; done) | omega | (simp; omega))) | ((with_reducible refine blk_off _ _ _ _ ?_ ?_); focus (first | omega | (simp; omega))) | (with_reducible refine blk_drew _ _ ?_) | ((with_reducible refine blk_below (by assumption) ?_ ?_); focus (simp; done)) | ((with_reducible refine blk_below (by assumption) ?_ ?_); focus (first | omega | (simp; omega))))) Tryd.underlying28 rfl (by kernel_rfl) (by simp [row_size]) _ (row_all [_, _, _] 12 _) ?_) | (go_at_call 12; (with_reducible refine (toTrain_any _ _ _ _ _).mono ?_); rintro e w1 ⟨rfl, hb1⟩; have hz1 := hb1.size; (try simp at hz1); obtain ⟨hc1, hf1⟩ := bcell hb1) | (go_at_call 11; (with_reducible refine (h1 _).mono ?_); rintro e w2 ⟨rfl, hb2⟩; have hz2 := hb2.size; (try simp at hz2); obtain ⟨hc2, hf2⟩ := bcell hb2) | (go_at_call 13; (with_reducible refine (h2 _ (hD _ (by repeat (first | (with_reducible assumption) | (with_reducible exact Below.refl _ _) | ((with_reducible refine bel_alloc _ ?_ ?_); focus (first | omega | (simp; done) | (simp; omega))) | ((with_reducible refine bel_row _ ?_ ?_); focus (first | omega | (simp; done) | (simp; omega))) | ((with_reducible refine bel_cell _ ?_ ?_); focus (first | omega | (simp; done) | (simp; omega))) | (with_reducible refine Below.drew ?_) | (with_reducible refine below_wideW _ ?_) | ((with_reducible refine bel_next (by assumption) ?_ ?_); focus (first | omega | (simp; done) | (simp; omega))))))).mono ?_); rintro e w3 ⟨rfl, hb3⟩; have hz3 := hb3.size; (try simp at hz3); obtain ⟨hc3, hf3⟩ := bcell hb3))
  go_ret
  exact ⟨by simp, (by repeat (first | (with_reducible assumption) | (with_reducible exact Below.refl _ _) | ((with_reducible refine bel_alloc _ ?_ ?_); focus (first | omega | (simp; done) | (simp; omega))) | ((with_reducible refine bel_row _ ?_ ?_); focus (first | omega | (simp; done) | (simp; omega))) | ((with_reducible refine bel_cell _ ?_ ?_); focus (first | omega | (simp; done) | (simp; omega))) | (with_reducible refine Below.drew ?_) | (with_reducible refine below_wideW _ ?_) | ((with_reducible refine bel_next (by assumption) ?_ ?_); focus (first | omega | (simp; done) | (simp; omega)))))⟩
end Go.Proofs.YtckcngmbbnilnaaDoor
