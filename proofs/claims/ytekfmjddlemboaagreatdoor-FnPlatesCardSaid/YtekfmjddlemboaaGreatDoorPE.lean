/- Parts of a proof, merged; each under its own premises. -/
import Derived.Test.YtekfmjddlemboaaGreatDoorPC
import Derived.StillTailTactics
import Derived.Test.YtekfmjddlemboaaGreatDoorPD
import Derived.Test.YtekfmjddlemboaaGreatDoorPB
import Derived.Laws.Cover2

/-! Contracts of MirrorPlate, the reference's and the program's, and the law on it. -/
set_option linter.unusedVariables false
set_option linter.unusedSimpArgs false
namespace Go.Proofs.YtekfmjddlemboaaGreatDoor
open Go.RowKit Ieee

theorem put_mir {w : World} {g a b : Nat} {F : Nat → Nat} {pre : List Value} {t : TypeId} {i o : Nat} (ha : a < 9) (hb : b < 9) (hi : i < 64) (hc : isC a b i = true) (hl : pre.length = o) (h : w.heap[g]? = some (.cells (row pre 64 (mirC a b F i)) t (0, 0))) :
    (w.setCell ⟨g, o + mirr a i, none⟩ (.float .f32 (F i))).heap[g]? = some (.cells (row pre 64 (mirC a b F (i + 1))) t (0, 0)) := by
  subst hl
  rw [put_row (mirr_of a ha b hb i hi hc).1 h, mirC_step ha hb F hi hc]
set_option maxRecDepth 100000 in
set_option maxHeartbeats 3200000 in
theorem specMirror_any (x y : Int) (F : Nat → Nat) (w : World) (lx : -128 ≤ x) (ux : x ≤ 127) (ly : -128 ≤ y) (uy : y ≤ 127) : Calls Tryz.prog 9 #[.agg (plate x y F)] w fun e w' => e = .returned (.tuple #[.agg (if plateB x y F then plate x y (mapA x.toNat y.toNat (fun i => F (mirr x.toNat i)) (fun _ => 0)) else plate 0 0 (fun _ => 0)), .int .i64 (if plateB x y F then 0 else 1)]) ∧ Below w.heap.size w w' := by
  have hz : Tryz.zeroCells29 = row [.int .i8 0, .int .i8 0] 64 (fun _ => 0) := rfl
  cases ho : plateB x y F
  · go_enter Tryz.func9, Tryz.ntmps9
    go_wp2_with (first | (go_at_call 45; (with_reducible refine (specPOk_any x y F _ lx ux ly uy _ ?_).mono ?_); (focus (repeat (first | (with_reducible assumption) | ((with_reducible refine blk_new _ _ _ ?_); focus (simp; done)) | ((with_reducible refine blk_old _ _ _ ?_ ?_); focus (simp; done)) | ((with_reducible refine blk_old _ _ _ ?_ ?_); focus (first | omega | (simp; omega))) | ((with_reducible apply blk_set); focus (simp; done)) | ((with_reducible refine blk_off _ _ _ _ ?_ ?_); focus (simp; done)) | ((with_reducible refine blk_offc _ _ _ _ ?_ ?_); focus (first | (simp; done) | omega | (simp; omega))) | ((with_reducible refine blk_off _ _ _ _ ?_ ?_); focus (first | omega | (simp; omega))) | (with_reducible refine blk_drew _ _ ?_) | ((with_reducible refine blk_below (by assumption) ?_ ?_); focus (simp; done)) | ((with_reducible refine blk_below (by assumption) ?_ ?_); focus (first | omega | (simp; omega)))))); rintro e w' ⟨rfl, rfl⟩) | ((with_reducible refine at_store 29 ?_); refine wpList_store_part rfl 29 _ _ rfl _ 0 _ rfl rfl _ _ (by repeat (first | (with_reducible assumption) | ((with_reducible refine blk_new _ _ _ ?_); focus (simp; done)) | ((with_reducible refine blk_old _ _ _ ?_ ?_); focus (simp; done)) | ((with_reducible refine blk_old _ _ _ ?_ ?_); focus (first | omega | (simp; omega))) | ((with_reducible apply blk_set); focus (simp; done)) | ((with_reducible refine blk_off _ _ _ _ ?_ ?_); focus (simp; done)) | ((with_reducible refine blk_offc _ _ _ _ ?_ ?_); focus (first | (simp; done) | omega | (simp; omega))) | ((with_reducible refine blk_off _ _ _ _ ?_ ?_); focus (first | omega | (simp; omega))) | (with_reducible refine blk_drew _ _ ?_) | ((with_reducible refine blk_below (by assumption) ?_ ?_); focus (simp; done)) | ((with_reducible refine blk_below (by assumption) ?_ ?_); focus (first | omega | (simp; omega))))) (by rw [row_size]; kernel_rfl) (by simp [row_size]) (row_cells _ _ _ rfl) _ (row_over _ _ 64 _ _ (by simp)) ?_) | ((with_reducible refine at_load 29 ?_); refine wpList_load_part rfl 29 _ rfl _ 0 66 rfl _ _ _ _ (by repeat (first | (with_reducible assumption) | ((with_reducible refine blk_new _ _ _ ?_); focus (simp; done)) | ((with_reducible refine blk_old _ _ _ ?_ ?_); focus (simp; done)) | ((with_reducible refine blk_old _ _ _ ?_ ?_); focus (first | omega | (simp; omega))) | ((with_reducible apply blk_set); focus (simp; done)) | ((with_reducible refine blk_off _ _ _ _ ?_ ?_); focus (simp; done)) | ((with_reducible refine blk_offc _ _ _ _ ?_ ?_); focus (first | (simp; done) | omega | (simp; omega))) | ((with_reducible refine blk_off _ _ _ _ ?_ ?_); focus (first | omega | (simp; omega))) | (with_reducible refine blk_drew _ _ ?_) | ((with_reducible refine blk_below (by assumption) ?_ ?_); focus (simp; done)) | ((with_reducible refine blk_below (by assumption) ?_ ?_); focus (first | omega | (simp; omega))))) Tryz.underlying29 rfl (by kernel_rfl) (by simp [row_size]) _ (row_all [_, _] 64 _) ?_) | go_in)
    refine bodyPost_ret (v := .tuple #[.agg (plate 0 0 (fun _ => 0)), .int .i64 1]) ?_ ?_ ?_
    · refine results_row_tmp Tryz.results9 _ _ _ 29 (plate 0 0 (fun _ => 0)) (0, 0) _ _ rfl rfl ?_ Tryz.underlying29 rfl (by simp only [row_size]; kernel_rfl)
      exact (by repeat (first | (with_reducible assumption) | ((with_reducible refine blk_new _ _ _ ?_); focus (simp; done)) | ((with_reducible refine blk_old _ _ _ ?_ ?_); focus (simp; done)) | ((with_reducible refine blk_old _ _ _ ?_ ?_); focus (first | omega | (simp; omega))) | ((with_reducible apply blk_set); focus (simp; done)) | ((with_reducible refine blk_off _ _ _ _ ?_ ?_); focus (simp; done)) | ((with_reducible refine blk_offc _ _ _ _ ?_ ?_); focus (first | (simp; done) | omega | (simp; omega))) | ((with_reducible refine blk_off _ _ _ _ ?_ ?_); focus (first | omega | (simp; omega))) | (with_reducible refine blk_drew _ _ ?_) | ((with_reducible refine blk_below (by assumption) ?_ ?_); focus (simp; done)) | ((with_reducible refine blk_below (by assumption) ?_ ?_); focus (first | omega | (simp; omega)))))
    · rfl
    · exact ⟨rfl, (by repeat (first | (with_reducible assumption) | (with_reducible exact Below.refl _ _) | ((with_reducible refine bel_alloc _ ?_ ?_); focus (first | omega | (simp; done) | (simp; omega))) | ((with_reducible refine bel_row _ ?_ ?_); focus (first | omega | (simp; done) | (simp; omega))) | ((with_reducible refine bel_cell _ ?_ ?_); focus (first | omega | (simp; done) | (simp; omega))) | (with_reducible refine Below.drew ?_) | (with_reducible refine below_wideW _ ?_) | ((with_reducible refine bel_next (by assumption) ?_ ?_); focus (first | omega | (simp; done) | (simp; omega)))))⟩
  · obtain ⟨a, b, rfl, rfl, la, ha, lb, hb, hp, hz0⟩ := plateB_size ho
    clear hp hz0
    go_enter Tryz.func9, Tryz.ntmps9
    go_wp2_with (first | (go_at_call 45; (with_reducible refine (specPOk_any a b F _ (by omega) (by omega) (by omega) (by omega) _ ?_).mono ?_); (focus (repeat (first | (with_reducible assumption) | ((with_reducible refine blk_new _ _ _ ?_); focus (simp; done)) | ((with_reducible refine blk_old _ _ _ ?_ ?_); focus (simp; done)) | ((with_reducible refine blk_old _ _ _ ?_ ?_); focus (first | omega | (simp; omega))) | ((with_reducible apply blk_set); focus (simp; done)) | ((with_reducible refine blk_off _ _ _ _ ?_ ?_); focus (simp; done)) | ((with_reducible refine blk_offc _ _ _ _ ?_ ?_); focus (first | (simp; done) | omega | (simp; omega))) | ((with_reducible refine blk_off _ _ _ _ ?_ ?_); focus (first | omega | (simp; omega))) | (with_reducible refine blk_drew _ _ ?_) | ((with_reducible refine blk_below (by assumption) ?_ ?_); focus (simp; done)) | ((with_reducible refine blk_below (by assumption) ?_ ?_); focus (first | omega | (simp; omega)))))); rintro e w' ⟨rfl, rfl⟩) | ((with_reducible refine at_store 29 ?_); refine wpList_store_part rfl 29 _ _ rfl _ 0 _ rfl rfl _ _ (by repeat (first | (with_reducible assumption) | ((with_reducible refine blk_new _ _ _ ?_); focus (simp; done)) | ((with_reducible refine blk_old _ _ _ ?_ ?_); focus (simp; done)) | ((with_reducible refine blk_old _ _ _ ?_ ?_); focus (first | omega | (simp; omega))) | ((with_reducible apply blk_set); focus (simp; done)) | ((with_reducible refine blk_off _ _ _ _ ?_ ?_); focus (simp; done)) | ((with_reducible refine blk_offc _ _ _ _ ?_ ?_); focus (first | (simp; done) | omega | (simp; omega))) | ((with_reducible refine blk_off _ _ _ _ ?_ ?_); focus (first | omega | (simp; omega))) | (with_reducible refine blk_drew _ _ ?_) | ((with_reducible refine blk_below (by assumption) ?_ ?_); focus (simp; done)) | ((with_reducible refine blk_below (by assumption) ?_ ?_); focus (first | omega | (simp; omega))))) (by rw [row_size]; kernel_rfl) (by simp [row_size]) (row_cells _ _ _ rfl) _ (row_over _ _ 64 _ _ (by simp)) ?_) | ((with_reducible refine at_load 29 ?_); refine wpList_load_part rfl 29 _ rfl _ 0 66 rfl _ _ _ _ (by repeat (first | (with_reducible assumption) | ((with_reducible refine blk_new _ _ _ ?_); focus (simp; done)) | ((with_reducible refine blk_old _ _ _ ?_ ?_); focus (simp; done)) | ((with_reducible refine blk_old _ _ _ ?_ ?_); focus (first | omega | (simp; omega))) | ((with_reducible apply blk_set); focus (simp; done)) | ((with_reducible refine blk_off _ _ _ _ ?_ ?_); focus (simp; done)) | ((with_reducible refine blk_offc _ _ _ _ ?_ ?_); focus (first | (simp; done) | omega | (simp; omega))) | ((with_reducible refine blk_off _ _ _ _ ?_ ?_); focus (first | omega | (simp; omega))) | (with_reducible refine blk_drew _ _ ?_) | ((with_reducible refine blk_below (by assumption) ?_ ?_); focus (simp; done)) | ((with_reducible refine blk_below (by assumption) ?_ ?_); focus (first | omega | (simp; omega))))) Tryz.underlying29 rfl (by kernel_rfl) (by simp [row_size]) _ (row_all [_, _] 64 _) ?_) | go_in)
    go_loopw [5] (fun i wr => ∃ k : Nat, k ≤ 64 ∧ i = .int .i64 k ∧ wr.heap[w.heap.size]? = some (.cells (plate a b F) 29 (0, 0)) ∧ wr.heap[w.heap.size + 1]? = some (.cells (plate 0 0 (fun _ => 0)) 29 (0, 0)) ∧ wr.heap[w.heap.size + 2]? = some (.cells (plate a b (mirC a b F k)) 29 (0, 0)) ∧ Below w.heap.size w wr) (fun i _ => 64 - (intOf i).toNat)
    case atStart => exact ⟨0, by omega, rfl, (by repeat (first | (with_reducible assumption) | ((with_reducible refine blk_new _ _ _ ?_); focus (simp; done)) | ((with_reducible refine blk_old _ _ _ ?_ ?_); focus (simp; done)) | ((with_reducible refine blk_old _ _ _ ?_ ?_); focus (first | omega | (simp; omega))) | ((with_reducible apply blk_set); focus (simp; done)) | ((with_reducible refine blk_off _ _ _ _ ?_ ?_); focus (simp; done)) | ((with_reducible refine blk_offc _ _ _ _ ?_ ?_); focus (first | (simp; done) | omega | (simp; omega))) | ((with_reducible refine blk_off _ _ _ _ ?_ ?_); focus (first | omega | (simp; omega))) | (with_reducible refine blk_drew _ _ ?_) | ((with_reducible refine blk_below (by assumption) ?_ ?_); focus (simp; done)) | ((with_reducible refine blk_below (by assumption) ?_ ?_); focus (first | omega | (simp; omega))))), (by repeat (first | (with_reducible assumption) | ((with_reducible refine blk_new _ _ _ ?_); focus (simp; done)) | ((with_reducible refine blk_old _ _ _ ?_ ?_); focus (simp; done)) | ((with_reducible refine blk_old _ _ _ ?_ ?_); focus (first | omega | (simp; omega))) | ((with_reducible apply blk_set); focus (simp; done)) | ((with_reducible refine blk_off _ _ _ _ ?_ ?_); focus (simp; done)) | ((with_reducible refine blk_offc _ _ _ _ ?_ ?_); focus (first | (simp; done) | omega | (simp; omega))) | ((with_reducible refine blk_off _ _ _ _ ?_ ?_); focus (first | omega | (simp; omega))) | (with_reducible refine blk_drew _ _ ?_) | ((with_reducible refine blk_below (by assumption) ?_ ?_); focus (simp; done)) | ((with_reducible refine blk_below (by assumption) ?_ ?_); focus (first | omega | (simp; omega))))), by rw [mirC_0]; exact (by repeat (first | (with_reducible assumption) | ((with_reducible refine blk_new _ _ _ ?_); focus (simp; done)) | ((with_reducible refine blk_old _ _ _ ?_ ?_); focus (simp; done)) | ((with_reducible refine blk_old _ _ _ ?_ ?_); focus (first | omega | (simp; omega))) | ((with_reducible apply blk_set); focus (simp; done)) | ((with_reducible refine blk_off _ _ _ _ ?_ ?_); focus (simp; done)) | ((with_reducible refine blk_offc _ _ _ _ ?_ ?_); focus (first | (simp; done) | omega | (simp; omega))) | ((with_reducible refine blk_off _ _ _ _ ?_ ?_); focus (first | omega | (simp; omega))) | (with_reducible refine blk_drew _ _ ?_) | ((with_reducible refine blk_below (by assumption) ?_ ?_); focus (simp; done)) | ((with_reducible refine blk_below (by assumption) ?_ ?_); focus (first | omega | (simp; omega))))), (by repeat (first | (with_reducible assumption) | (with_reducible exact Below.refl _ _) | ((with_reducible refine bel_alloc _ ?_ ?_); focus (first | omega | (simp; done) | (simp; omega))) | ((with_reducible refine bel_row _ ?_ ?_); focus (first | omega | (simp; done) | (simp; omega))) | ((with_reducible refine bel_cell _ ?_ ?_); focus (first | omega | (simp; done) | (simp; omega))) | (with_reducible refine Below.drew ?_) | (with_reducible refine below_wideW _ ?_) | ((with_reducible refine bel_next (by assumption) ?_ ?_); focus (first | omega | (simp; done) | (simp; omega)))))⟩
    case round =>
      obtain ⟨k, hk, rfl, h1, h2, h3, h5⟩ := hrel
      have p0 : wr.cell? ⟨w.heap.size, 0, none⟩ = some (.int .i8 a) := (cell_of_row wr _ 0 _ _ _ h1).trans (row_g0 _ _ _ _)
      have p1 : wr.cell? ⟨w.heap.size, 1, none⟩ = some (.int .i8 b) := (cell_of_row wr _ 1 _ _ _ h1).trans (row_g1 _ _ _ _ _)
      by_cases hlt : k < 64
      · have k0 : (0 : Int) ≤ k := by omega
        have k64 : (k : Int) < 64 := by omega
        have cf : wr.cell? ⟨w.heap.size, 2 + k, none⟩ = some (.float .f32 (F k)) := (cell_of_row wr _ (2 + k) _ _ _ h1).trans (row_k2 _ _ _ _ hlt)
        cases hr : isC a b k
        · have H1 := Lib.hid h1
          have H2 := Lib.hid h2
          have H3 := Lib.hid h3
          have H5 := Lib.hid h5
          clear h1 h2 h3 h5
          have HR := Lib.hid hr
          have hIs : ∀ w' : World, w'.cell? ⟨w.heap.size, 0, none⟩ = some (.int .i8 a) → w'.cell? ⟨w.heap.size, 1, none⟩ = some (.int .i8 b) → Calls Tryz.prog 46 #[.pointer (some ⟨w.heap.size, 0, none⟩), .int .i64 k] w' fun e w'' => e = .returned (.bool false) ∧ w' = w'' := fun w' c0 c1 => by have := specIs_any ha hb hlt w' (w.heap.size) c0 c1; rwa [HR.out] at this
          clear hr
          go_wp2_with (first | (go_at_call 46; (with_reducible refine (hIs _ (by assumption) (by assumption)).mono ?_); rintro e w' ⟨rfl, rfl⟩) | go_in)
          go_roundw
          case rel => exact ⟨k + 1, by omega, by go_num, H1.out, H2.out, by rw [← show plate a b (mirC a b F k) = plate a b (mirC a b F (k + 1)) from mirC_skip ha hb F hlt HR.out _]; exact H3.out, H5.out⟩
          case measure => simp [intOf]; omega
        · obtain ⟨m1, m2, m3⟩ := mirr_of a ha b hb k hlt hr
          have co : wr.cell? ⟨w.heap.size + 2, 2 + mirr a k, none⟩ = some (.float .f32 (mirC a b F k (mirr a k))) := (cell_of_row wr _ (2 + mirr a k) _ _ _ h3).trans (row_k2 _ _ _ _ m1)
          have ff : wr.frozen? ⟨w.heap.size + 2, 2 + mirr a k, none⟩ = false := frozen_of_row wr _ _ _ _ h3
          have H1 := Lib.hid h1
          have H2 := Lib.hid h2
          have H3 := Lib.hid h3
          have H5 := Lib.hid h5
          have HR := Lib.hid hr
          have hIs : ∀ w' : World, w'.cell? ⟨w.heap.size, 0, none⟩ = some (.int .i8 a) → w'.cell? ⟨w.heap.size, 1, none⟩ = some (.int .i8 b) → Calls Tryz.prog 46 #[.pointer (some ⟨w.heap.size, 0, none⟩), .int .i64 k] w' fun e w'' => e = .returned (.bool true) ∧ w' = w'' := fun w' c0 c1 => by have := specIs_any ha hb hlt w' (w.heap.size) c0 c1; rwa [HR.out] at this
          have hq : (k : Int) - 2 * ((k : Int) % 8) + (a : Int) - 1 = (mirr a k : Nat) := by
            have := (isC_iff.1 hr).1
            unfold mirr
            omega
          obtain ⟨q, hqq⟩ : ∃ q, q = mirr a k := ⟨_, rfl⟩
          rw [← hqq] at co ff m1 hq
          have HQ := Lib.hid hqq
          clear hr h1 h2 h3 h5 m2 m3 hqq
          have x1 : (0 : Int) ≤ (k : Int) % 8 := by omega
          have x2 : (k : Int) % 8 < 8 := by omega
          have x3 : (a : Int) < 9 := by omega
          have x4 : (0 : Int) ≤ a := by omega
          have q0 : (0 : Int) ≤ q := by omega
          have q1 : (q : Int) < 64 := by omega
          go_wp2_with (first | (go_at_call 46; (with_reducible refine (hIs _ (by assumption) (by assumption)).mono ?_); rintro e w' ⟨rfl, rfl⟩) | go_in)
          have e2 : IntKind.i64.wrap (2 * ((k : Int) % 8)) = 2 * ((k : Int) % 8) := IntWalk.i64_in _ (by omega)
          have e3 : IntKind.i64.wrap ((k : Int) - 2 * ((k : Int) % 8)) = (k : Int) - 2 * ((k : Int) % 8) := IntWalk.i64_in _ (by omega)
          have e4 : IntKind.i64.wrap (a : Int) = a := IntWalk.i64_in _ (by omega)
          have e5 : IntKind.i64.wrap ((k : Int) - 2 * ((k : Int) % 8) + (a : Int)) = (k : Int) - 2 * ((k : Int) % 8) + (a : Int) := IntWalk.i64_in _ (by omega)
          have e6 : IntKind.i64.wrap ((k : Int) - 2 * ((k : Int) % 8) + (a : Int) - 1) = q := by rw [hq]; exact IntWalk.i64_in _ (by omega)
          have e1 : (k : Int).tmod 8 = (k : Int) % 8 := Int.tmod_eq_emod_of_nonneg k0
          clear hq
          go_still_tail 16, (by kernel_rfl)
          clear e1 e2 e3 e4 e5 e6
          go_wp2
          go_roundw
          case rel => exact ⟨k + 1, by omega, by go_num, put_off (by omega) H1.out, put_off (by omega) H2.out, by rw [HQ.out]; exact put_mir ha hb hlt HR.out rfl H3.out, bel_cell _ (by simp; omega) (Below.drew H5.out)⟩
          case measure => simp [intOf]; omega
      · obtain rfl : k = 64 := by omega
        rw [show plate a b (mirC a b F 64) = plate a b (mapA a b (fun i => F (mirr a i)) (fun _ => 0)) from mirC_end ha hb _ _] at h3
        have H5 := Lib.hid h5
        have hz5 := h5.size
        clear h5
        go_wp2_with (first | (go_at_call 45; (with_reducible refine (specPOk_any a b F _ (by omega) (by omega) (by omega) (by omega) _ ?_).mono ?_); (focus (repeat (first | (with_reducible assumption) | ((with_reducible refine blk_new _ _ _ ?_); focus (simp; done)) | ((with_reducible refine blk_old _ _ _ ?_ ?_); focus (simp; done)) | ((with_reducible refine blk_old _ _ _ ?_ ?_); focus (first | omega | (simp; omega))) | ((with_reducible apply blk_set); focus (simp; done)) | ((with_reducible refine blk_off _ _ _ _ ?_ ?_); focus (simp; done)) | ((with_reducible refine blk_offc _ _ _ _ ?_ ?_); focus (first | (simp; done) | omega | (simp; omega))) | ((with_reducible refine blk_off _ _ _ _ ?_ ?_); focus (first | omega | (simp; omega))) | (with_reducible refine blk_drew _ _ ?_) | ((with_reducible refine blk_below (by assumption) ?_ ?_); focus (simp; done)) | ((with_reducible refine blk_below (by assumption) ?_ ?_); focus (first | omega | (simp; omega)))))); rintro e w' ⟨rfl, rfl⟩) | ((with_reducible refine at_store 29 ?_); refine wpList_store_part rfl 29 _ _ rfl _ 0 _ rfl rfl _ _ (by repeat (first | (with_reducible assumption) | ((with_reducible refine blk_new _ _ _ ?_); focus (simp; done)) | ((with_reducible refine blk_old _ _ _ ?_ ?_); focus (simp; done)) | ((with_reducible refine blk_old _ _ _ ?_ ?_); focus (first | omega | (simp; omega))) | ((with_reducible apply blk_set); focus (simp; done)) | ((with_reducible refine blk_off _ _ _ _ ?_ ?_); focus (simp; done)) | ((with_reducible refine blk_offc _ _ _ _ ?_ ?_); focus (first | (simp; done) | omega | (simp; omega))) | ((with_reducible refine blk_off _ _ _ _ ?_ ?_); focus (first | omega | (simp; omega))) | (with_reducible refine blk_drew _ _ ?_) | ((with_reducible refine blk_below (by assumption) ?_ ?_); focus (simp; done)) | ((with_reducible refine blk_below (by assumption) ?_ ?_); focus (first | omega | (simp; omega))))) (by rw [row_size]; kernel_rfl) (by simp [row_size]) (row_cells _ _ _ rfl) _ (row_over _ _ 64 _ _ (by simp)) ?_) | ((with_reducible refine at_load 29 ?_); refine wpList_load_part rfl 29 _ rfl _ 0 66 rfl _ _ _ _ (by repeat (first | (with_reducible assumption) | ((with_reducible refine blk_new _ _ _ ?_); focus (simp; done)) | ((with_reducible refine blk_old _ _ _ ?_ ?_); focus (simp; done)) | ((with_reducible refine blk_old _ _ _ ?_ ?_); focus (first | omega | (simp; omega))) | ((with_reducible apply blk_set); focus (simp; done)) | ((with_reducible refine blk_off _ _ _ _ ?_ ?_); focus (simp; done)) | ((with_reducible refine blk_offc _ _ _ _ ?_ ?_); focus (first | (simp; done) | omega | (simp; omega))) | ((with_reducible refine blk_off _ _ _ _ ?_ ?_); focus (first | omega | (simp; omega))) | (with_reducible refine blk_drew _ _ ?_) | ((with_reducible refine blk_below (by assumption) ?_ ?_); focus (simp; done)) | ((with_reducible refine blk_below (by assumption) ?_ ?_); focus (first | omega | (simp; omega))))) Tryz.underlying29 rfl (by kernel_rfl) (by simp [row_size]) _ (row_all [_, _] 64 _) ?_) | go_in)
        have h5 := H5.out
        refine bodyPost_ret (v := .tuple #[.agg (plate a b (mapA a b (fun i => F (mirr a i)) (fun _ => 0))), .int .i64 0]) ?_ ?_ ?_
        · refine results_row_tmp Tryz.results9 _ _ _ 29 (plate a b (mapA a b (fun i => F (mirr a i)) (fun _ => 0))) (0, 0) _ _ rfl rfl ?_ Tryz.underlying29 rfl (by simp only [row_size]; kernel_rfl)
          exact (by repeat (first | (with_reducible assumption) | ((with_reducible refine blk_new _ _ _ ?_); focus (simp; done)) | ((with_reducible refine blk_old _ _ _ ?_ ?_); focus (simp; done)) | ((with_reducible refine blk_old _ _ _ ?_ ?_); focus (first | omega | (simp; omega))) | ((with_reducible apply blk_set); focus (simp; done)) | ((with_reducible refine blk_off _ _ _ _ ?_ ?_); focus (simp; done)) | ((with_reducible refine blk_offc _ _ _ _ ?_ ?_); focus (first | (simp; done) | omega | (simp; omega))) | ((with_reducible refine blk_off _ _ _ _ ?_ ?_); focus (first | omega | (simp; omega))) | (with_reducible refine blk_drew _ _ ?_) | ((with_reducible refine blk_below (by assumption) ?_ ?_); focus (simp; done)) | ((with_reducible refine blk_below (by assumption) ?_ ?_); focus (first | omega | (simp; omega)))))
        · rfl
        · exact ⟨rfl, (by repeat (first | (with_reducible assumption) | (with_reducible exact Below.refl _ _) | ((with_reducible refine bel_alloc _ ?_ ?_); focus (first | omega | (simp; done) | (simp; omega))) | ((with_reducible refine bel_row _ ?_ ?_); focus (first | omega | (simp; done) | (simp; omega))) | ((with_reducible refine bel_cell _ ?_ ?_); focus (first | omega | (simp; done) | (simp; omega))) | (with_reducible refine Below.drew ?_) | (with_reducible refine below_wideW _ ?_) | ((with_reducible refine bel_next (by assumption) ?_ ?_); focus (first | omega | (simp; done) | (simp; omega)))))⟩

theorem giveMirror {a b : Nat} {F : Nat → Nat} {B : Nat} (ha : a < 9) (hb : b < 9) (w : World) (hB : B < w.heap.size) (hp : w.heap[B]? = some (.cells (plate a b F) 29 (0, 0))) : GivesDots Tryz.prog 44 #[.pointer (some ⟨B, 0, none⟩)] a b F (fun i => F (mirr a i)) w := by
  intro n W hn hbw
  have h64 := (cells_all a ha b hb).2
  obtain ⟨q1, q2, q3⟩ := cells_of a ha b hb n (by omega) hn
  obtain ⟨k, hk⟩ : ∃ k, k = cellAt a n := ⟨_, rfl⟩
  rw [← hk] at q1 q2 ⊢
  have h1 : W.heap[B]? = some (.cells (plate a b F) 29 (0, 0)) := (hbw.block B hB).trans hp
  obtain ⟨m1, _, _⟩ := mirr_of a ha b hb k q1 q2
  have p0 : W.cell? ⟨B, 0, none⟩ = some (.int .i8 a) := (cell_of_row W _ 0 _ _ _ h1).trans (row_g0 _ _ _ _)
  have cf : W.cell? ⟨B, 2 + mirr a k, none⟩ = some (.float .f32 (F (mirr a k))) := (cell_of_row W _ (2 + mirr a k) _ _ _ h1).trans (row_k2 _ _ _ _ m1)
  have hq : (k : Int) - ((k : Int) % 8) + (a : Int) - 1 - (k : Int) % 8 = (mirr a k : Nat) := by
    have := (isC_iff.1 q2).1
    unfold mirr
    omega
  show Calls Tryz.prog 44 #[.int .i64 (k : Nat), .float .f32 (F k), .pointer (some ⟨B, 0, none⟩)] W _
  obtain ⟨q, hqq⟩ : ∃ q, q = mirr a k := ⟨_, rfl⟩
  show Calls Tryz.prog 44 #[.int .i64 (k : Nat), .float .f32 (F k), .pointer (some ⟨B, 0, none⟩)] W fun e w' => e = .returned (.float .f32 (F (mirr a k))) ∧ ∃ m, w' = W.drewN m
  rw [← hqq] at cf m1 hq ⊢
  have k0 : (0 : Int) ≤ k := by omega
  have k64 : (k : Int) < 64 := by omega
  have x1 : (0 : Int) ≤ (k : Int) % 8 := by omega
  have x2 : (k : Int) % 8 < 8 := by omega
  have x3 : (a : Int) < 9 := by omega
  have x4 : (0 : Int) ≤ a := by omega
  have z0 : (0 : Int) ≤ q := by omega
  have z1 : (q : Int) < 64 := by omega
  clear hk q2 q3 h1 hqq hn hp hbw h64 hB
  go_enter Tryz.func44, Tryz.ntmps44
  go_wp2
  go_ret
  exact ⟨rfl, 0, rfl⟩

set_option maxRecDepth 100000 in
set_option maxHeartbeats 3200000 in
theorem implMirror_any (x y : Int) (F : Nat → Nat) (w : World) (lx : -128 ≤ x) (ux : x ≤ 127) (ly : -128 ≤ y) (uy : y ≤ 127) : Calls Tryz.prog 8 #[.agg (plate x y F)] w fun e w' => e = .returned (.tuple #[.agg (if plateB x y F then plate x y (mapA x.toNat y.toNat (fun i => F (mirr x.toNat i)) (fun _ => 0)) else plate 0 0 (fun _ => 0)), .int .i64 (if plateB x y F then 0 else 1)]) ∧ Below w.heap.size w w' := by
  have hz : Tryz.zeroCells29 = row [.int .i8 0, .int .i8 0] 64 (fun _ => 0) := rfl
  cases ho : plateB x y F
  · go_enter Tryz.func8, Tryz.ntmps8
    go_wp2_with (first | (go_at_call 16; (with_reducible refine (implPOk_any x y F _ lx ux ly uy).mono ?_); rintro e w1 ⟨rfl, hb1⟩; have hz1 := hb1.size; (try simp at hz1); obtain ⟨hc1, hf1⟩ := bcell hb1) | ((with_reducible refine at_store 29 ?_); refine wpList_store_part rfl 29 _ _ rfl _ 0 _ rfl rfl _ _ (by repeat (first | (with_reducible assumption) | ((with_reducible refine blk_new _ _ _ ?_); focus (simp; done)) | ((with_reducible refine blk_old _ _ _ ?_ ?_); focus (simp; done)) | ((with_reducible refine blk_old _ _ _ ?_ ?_); focus (first | omega | (simp; omega))) | ((with_reducible apply blk_set); focus (simp; done)) | ((with_reducible refine blk_off _ _ _ _ ?_ ?_); focus (simp; done)) | ((with_reducible refine blk_offc _ _ _ _ ?_ ?_); focus (first | (simp; done) | omega | (simp; omega))) | ((with_reducible refine blk_off _ _ _ _ ?_ ?_); focus (first | omega | (simp; omega))) | (with_reducible refine blk_drew _ _ ?_) | ((with_reducible refine blk_below (by assumption) ?_ ?_); focus (simp; done)) | ((with_reducible refine blk_below (by assumption) ?_ ?_); focus (first | omega | (simp; omega))))) (by rw [row_size]; kernel_rfl) (by simp [row_size]) (row_cells _ _ _ rfl) _ (row_over _ _ 64 _ _ (by simp)) ?_) | ((with_reducible refine at_load 29 ?_); refine wpList_load_part rfl 29 _ rfl _ 0 66 rfl _ _ _ _ (by repeat (first | (with_reducible assumption) | ((with_reducible refine blk_new _ _ _ ?_); focus (simp; done)) | ((with_reducible refine blk_old _ _ _ ?_ ?_); focus (simp; done)) | ((with_reducible refine blk_old _ _ _ ?_ ?_); focus (first | omega | (simp; omega))) | ((with_reducible apply blk_set); focus (simp; done)) | ((with_reducible refine blk_off _ _ _ _ ?_ ?_); focus (simp; done)) | ((with_reducible refine blk_offc _ _ _ _ ?_ ?_); focus (first | (simp; done) | omega | (simp; omega))) | ((with_reducible refine blk_off _ _ _ _ ?_ ?_); focus (first | omega | (simp; omega))) | (with_reducible refine blk_drew _ _ ?_) | ((with_reducible refine blk_below (by assumption) ?_ ?_); focus (simp; done)) | ((with_reducible refine blk_below (by assumption) ?_ ?_); focus (first | omega | (simp; omega))))) Tryz.underlying29 rfl (by kernel_rfl) (by simp [row_size]) _ (row_all [_, _] 64 _) ?_) | go_in)
    refine bodyPost_ret (v := .tuple #[.agg (plate 0 0 (fun _ => 0)), .int .i64 1]) ?_ ?_ ?_
    · refine results_row_tmp Tryz.results8 _ _ _ 29 (plate 0 0 (fun _ => 0)) (0, 0) _ _ rfl rfl ?_ Tryz.underlying29 rfl (by simp only [row_size]; kernel_rfl)
      exact (by repeat (first | (with_reducible assumption) | ((with_reducible refine blk_new _ _ _ ?_); focus (simp; done)) | ((with_reducible refine blk_old _ _ _ ?_ ?_); focus (simp; done)) | ((with_reducible refine blk_old _ _ _ ?_ ?_); focus (first | omega | (simp; omega))) | ((with_reducible apply blk_set); focus (simp; done)) | ((with_reducible refine blk_off _ _ _ _ ?_ ?_); focus (simp; done)) | ((with_reducible refine blk_offc _ _ _ _ ?_ ?_); focus (first | (simp; done) | omega | (simp; omega))) | ((with_reducible refine blk_off _ _ _ _ ?_ ?_); focus (first | omega | (simp; omega))) | (with_reducible refine blk_drew _ _ ?_) | ((with_reducible refine blk_below (by assumption) ?_ ?_); focus (simp; done)) | ((with_reducible refine blk_below (by assumption) ?_ ?_); focus (first | omega | (simp; omega)))))
    · rfl
    · exact ⟨rfl, (by repeat (first | (with_reducible assumption) | (with_reducible exact Below.refl _ _) | ((with_reducible refine bel_alloc _ ?_ ?_); focus (first | omega | (simp; done) | (simp; omega))) | ((with_reducible refine bel_row _ ?_ ?_); focus (first | omega | (simp; done) | (simp; omega))) | ((with_reducible refine bel_cell _ ?_ ?_); focus (first | omega | (simp; done) | (simp; omega))) | (with_reducible refine Below.drew ?_) | (with_reducible refine below_wideW _ ?_) | ((with_reducible refine bel_next (by assumption) ?_ ?_); focus (first | omega | (simp; done) | (simp; omega)))))⟩
  · obtain ⟨a, b, rfl, rfl, la, ha, lb, hb, hp, hz0⟩ := plateB_size ho
    have HP := Lib.hid hp
    clear hp hz0
    go_enter Tryz.func8, Tryz.ntmps8
    go_wp2_with (first | (go_at_call 16; (with_reducible refine (implPOk_any a b F _ (by omega) (by omega) (by omega) (by omega)).mono ?_); rintro e w1 ⟨rfl, hb1⟩; have hz1 := hb1.size; (try simp at hz1); obtain ⟨hc1, hf1⟩ := bcell hb1) | ((with_reducible refine at_store 29 ?_); refine wpList_store_part rfl 29 _ _ rfl _ 0 _ rfl rfl _ _ (by repeat (first | (with_reducible assumption) | ((with_reducible refine blk_new _ _ _ ?_); focus (simp; done)) | ((with_reducible refine blk_old _ _ _ ?_ ?_); focus (simp; done)) | ((with_reducible refine blk_old _ _ _ ?_ ?_); focus (first | omega | (simp; omega))) | ((with_reducible apply blk_set); focus (simp; done)) | ((with_reducible refine blk_off _ _ _ _ ?_ ?_); focus (simp; done)) | ((with_reducible refine blk_offc _ _ _ _ ?_ ?_); focus (first | (simp; done) | omega | (simp; omega))) | ((with_reducible refine blk_off _ _ _ _ ?_ ?_); focus (first | omega | (simp; omega))) | (with_reducible refine blk_drew _ _ ?_) | ((with_reducible refine blk_below (by assumption) ?_ ?_); focus (simp; done)) | ((with_reducible refine blk_below (by assumption) ?_ ?_); focus (first | omega | (simp; omega))))) (by rw [row_size]; kernel_rfl) (by simp [row_size]) (row_cells _ _ _ rfl) _ (row_over _ _ 64 _ _ (by simp)) ?_) | ((with_reducible refine at_load 29 ?_); refine wpList_load_part rfl 29 _ rfl _ 0 66 rfl _ _ _ _ (by repeat (first | (with_reducible assumption) | ((with_reducible refine blk_new _ _ _ ?_); focus (simp; done)) | ((with_reducible refine blk_old _ _ _ ?_ ?_); focus (simp; done)) | ((with_reducible refine blk_old _ _ _ ?_ ?_); focus (first | omega | (simp; omega))) | ((with_reducible apply blk_set); focus (simp; done)) | ((with_reducible refine blk_off _ _ _ _ ?_ ?_); focus (simp; done)) | ((with_reducible refine blk_offc _ _ _ _ ?_ ?_); focus (first | (simp; done) | omega | (simp; omega))) | ((with_reducible refine blk_off _ _ _ _ ?_ ?_); focus (first | omega | (simp; omega))) | (with_reducible refine blk_drew _ _ ?_) | ((with_reducible refine blk_below (by assumption) ?_ ?_); focus (simp; done)) | ((with_reducible refine blk_below (by assumption) ?_ ?_); focus (first | omega | (simp; omega))))) Tryz.underlying29 rfl (by kernel_rfl) (by simp [row_size]) _ (row_all [_, _] 64 _) ?_) | (go_at_call 43; (with_reducible refine (freshDots_any 44 #[.pointer (some ⟨w.heap.size, 0, none⟩)] (fun args w => by kernel_rfl) a b la ha lb hb F (fun i => F (mirr a i)) _ (giveMirror ha hb _ (by first | omega | (simp; done) | (simp; omega)) (by repeat (first | (with_reducible assumption) | ((with_reducible refine blk_new _ _ _ ?_); focus (simp; done)) | ((with_reducible refine blk_old _ _ _ ?_ ?_); focus (simp; done)) | ((with_reducible refine blk_old _ _ _ ?_ ?_); focus (first | omega | (simp; omega))) | ((with_reducible apply blk_set); focus (simp; done)) | ((with_reducible refine blk_off _ _ _ _ ?_ ?_); focus (simp; done)) | ((with_reducible refine blk_offc _ _ _ _ ?_ ?_); focus (first | (simp; done) | omega | (simp; omega))) | ((with_reducible refine blk_off _ _ _ _ ?_ ?_); focus (first | omega | (simp; omega))) | (with_reducible refine blk_drew _ _ ?_) | ((with_reducible refine blk_below (by assumption) ?_ ?_); focus (simp; done)) | ((with_reducible refine blk_below (by assumption) ?_ ?_); focus (first | omega | (simp; omega))))))).mono ?_); rintro e w2 ⟨rfl, hb2⟩; have hz2 := hb2.size; (try simp at hz2)) | go_in)
    refine bodyPost_ret (v := .tuple #[.agg (plate a b (mapA a b (fun i => F (mirr a i)) (fun _ => 0))), .int .i64 0]) ?_ ?_ ?_
    · refine results_row_tmp Tryz.results8 _ _ _ 29 (plate a b (mapA a b (fun i => F (mirr a i)) (fun _ => 0))) (0, 0) _ _ rfl rfl ?_ Tryz.underlying29 rfl (by simp only [row_size]; kernel_rfl)
      exact (by repeat (first | (with_reducible assumption) | ((with_reducible refine blk_new _ _ _ ?_); focus (simp; done)) | ((with_reducible refine blk_old _ _ _ ?_ ?_); focus (simp; done)) | ((with_reducible refine blk_old _ _ _ ?_ ?_); focus (first | omega | (simp; omega))) | ((with_reducible apply blk_set); focus (simp; done)) | ((with_reducible refine blk_off _ _ _ _ ?_ ?_); focus (simp; done)) | ((with_reducible refine blk_offc _ _ _ _ ?_ ?_); focus (first | (simp; done) | omega | (simp; omega))) | ((with_reducible refine blk_off _ _ _ _ ?_ ?_); focus (first | omega | (simp; omega))) | (with_reducible refine blk_drew _ _ ?_) | ((with_reducible refine blk_below (by assumption) ?_ ?_); focus (simp; done)) | ((with_reducible refine blk_below (by assumption) ?_ ?_); focus (first | omega | (simp; omega)))))
    · rfl
    · exact ⟨rfl, (by repeat (first | (with_reducible assumption) | (with_reducible exact Below.refl _ _) | ((with_reducible refine bel_alloc _ ?_ ?_); focus (first | omega | (simp; done) | (simp; omega))) | ((with_reducible refine bel_row _ ?_ ?_); focus (first | omega | (simp; done) | (simp; omega))) | ((with_reducible refine bel_cell _ ?_ ?_); focus (first | omega | (simp; done) | (simp; omega))) | (with_reducible refine Below.drew ?_) | (with_reducible refine below_wideW _ ?_) | ((with_reducible refine bel_next (by assumption) ?_ ?_); focus (first | omega | (simp; done) | (simp; omega)))))⟩

end Go.Proofs.YtekfmjddlemboaaGreatDoor

/-! Contracts of CoverOf, the reference's and the program's, and the law on it. -/
set_option linter.unusedVariables false
set_option linter.unusedSimpArgs false
namespace Go.Proofs.YtekfmjddlemboaaGreatDoor
open Go.RowKit Ieee

theorem part_film {a : Nat} (h : partB a = true) : filmB a = true := by
  obtain ⟨h1, h2, h3⟩ := (part_iff a).1 h
  refine (film_iff a).2 ⟨h1, h2, Int.le_trans h3 (by decide)⟩
/-- A whole number, as a narrow one. -/
abbrev cvtN (n : Nat) : Nat := floatOfInt .f32 (n : Int)
theorem cvtN_fin : ∀ n, n < 65 → Fin32 (cvtN n) := by decide +kernel
theorem cvtN_Z : ∀ n, n < 65 → Z32 (cvtN n) = (n : Int) * 2 ^ 149 := by decide +kernel
theorem cvtN_ne {n : Nat} (h : n < 65) (h0 : 0 < n) : Z32 (cvtN n) ≠ 0 := by
  rw [cvtN_Z n h]
  have : (0 : Int) < (n : Int) * 2 ^ 149 := Int.mul_pos (by omega) (by decide)
  omega
/-- Narrow numbers, as values. -/
def floatsV (G : Nat → Nat) (n : Nat) : List Value := (List.range n).map (fun k => Value.float .f32 (G k))
theorem floatsV_snoc (G : Nat → Nat) (n : Nat) : floatsV G n ++ [.float .f32 (G n)] = floatsV G (n + 1) := by simp [floatsV, List.range_succ]
theorem floatsV_at {G : Nat → Nat} {n k : Nat} (h : k < n) : (floatsV G n)[k]? = some (.float .f32 (G k)) := by simp [floatsV, h]
theorem Tryz.info_f32 : (Tryz.prog.info? 25).map (fun i => (i.zero, i.size, i.bytes)) = some (some (.float .f32 0), 1, 4) := by kernel_rfl
theorem own_off {w : World} {base n g : Nat} {e t : TypeId} {v : Value} {xs : List Value} {cs : Array Value} {fr : Nat × Nat} (h : w.ownsRow base e 1 v n xs) (hg : w.heap[g]? = some (.cells cs t fr)) (hne : g < base ∨ t ≠ e) : v.ownBlock ≠ some g := by
  intro hv
  rcases h.2 with ⟨rfl, _⟩ | ⟨g', cap, cur, rfl, hb, hh, _⟩
  · simp [Value.ownBlock] at hv
  · simp only [Value.ownBlock, Option.some.injEq] at hv
    subst hv
    rcases hne with h1 | h1
    · omega
    · rw [hg] at hh
      simp only [Option.some.injEq, Obj.cells.injEq] at hh
      exact h1 hh.2.1
theorem own_keep {w w1 : World} {o : Obj} {v : Value} {g : Nat} {r : Obj} (hg : (w.alloc o).grownBy w1 v.ownBlock) (h : w.heap[g]? = some r) (hne : v.ownBlock ≠ some g) : w1.heap[g]? = some r := by
  have hlt : g < w.heap.size := by
    cases hlt : decide (g < w.heap.size)
    · simp only [decide_eq_false_iff_not] at hlt
      rw [Array.getElem?_eq_none (by omega)] at h; cases h
    · simpa using hlt
  rw [hg.block g (by simp; omega) (fun e => hne e.symm), Below.heap_alloc w o g hlt]
  exact h
theorem own_below {w0 wr w1 : World} {B base : Nat} {e : TypeId} {v : Value} {n : Nat} {xs : List Value} {o : Obj} (hown : wr.ownsRow base e 1 v n xs) (hBb : B ≤ base) (hB : B ≤ wr.heap.size) (hb : Below B w0 wr) (hg : (wr.alloc o).grownBy w1 v.ownBlock) : Below B w0 w1 := by
  have h1 : Below B w0 (wr.alloc o) := hb.alloc hB o
  refine h1.grown hg (by simp; omega) ?_
  intro k hk
  have := (hown.lt k hk).1
  omega
theorem own_size {wr w1 : World} {v : Value} {o : Obj} (hg : (wr.alloc o).grownBy w1 v.ownBlock) : wr.heap.size + 1 ≤ w1.heap.size := by
  have := hg.size
  simpa using this
def coverR (x y : Int) (F : Nat → Nat) : Nat := if plateB x y F then fdiv (sumTo (fun k => F (cellAt x.toNat k)) (x.toNat * y.toNat)) (cvtN (x.toNat * y.toNat)) else 0
theorem cover_films {a b : Nat} {F : Nat → Nat} (ha : a < 9) (hb : b < 9) (hp : ∀ i, i < 64 → isC a b i = true → partB (F i) = true) : ∀ k, k < a * b → filmB (F (cellAt a k)) = true := by
  intro k hk
  have h64 := (cells_all a ha b hb).2
  obtain ⟨c1, c2, _⟩ := cells_of a ha b hb k (by omega) hk
  exact part_film (hp _ c1 c2)
set_option maxRecDepth 100000 in
set_option maxHeartbeats 1600000 in
theorem specCover_any (x y : Int) (F : Nat → Nat) (w : World) (lx : -128 ≤ x) (ux : x ≤ 127) (ly : -128 ≤ y) (uy : y ≤ 127) : Calls Tryz.prog 13 #[.agg (plate x y F)] w fun e w' => e = .returned (.tuple #[.float .f32 (coverR x y F), .int .i64 (codeV (plateB x y F))]) ∧ Below w.heap.size w w' := by
  unfold coverR
  cases ho : plateB x y F
  · go_enter Tryz.func13, Tryz.ntmps13
    go_wp2_with (first | (go_at_call 45; (with_reducible refine (specPOk_any x y F _ lx ux ly uy _ ?_).mono ?_); (focus (repeat (first | (with_reducible assumption) | ((with_reducible refine blk_new _ _ _ ?_); focus (simp; done)) | ((with_reducible refine blk_old _ _ _ ?_ ?_); focus (simp; done)) | ((with_reducible refine blk_old _ _ _ ?_ ?_); focus (first | omega | (simp; omega))) | ((with_reducible apply blk_set); focus (simp; done)) | ((with_reducible refine blk_off _ _ _ _ ?_ ?_); focus (simp; done)) | ((with_reducible refine blk_offc _ _ _ _ ?_ ?_); focus (first | (simp; done) | omega | (simp; omega))) | ((with_reducible refine blk_off _ _ _ _ ?_ ?_); focus (first | omega | (simp; omega))) | (with_reducible refine blk_drew _ _ ?_) | ((with_reducible refine blk_below (by assumption) ?_ ?_); focus (simp; done)) | ((with_reducible refine blk_below (by assumption) ?_ ?_); focus (first | omega | (simp; omega)))))); rintro e w' ⟨rfl, rfl⟩) | go_in)
    go_ret2
    exact ⟨rfl, (by repeat (first | (with_reducible assumption) | (with_reducible exact Below.refl _ _) | ((with_reducible refine bel_alloc _ ?_ ?_); focus (first | omega | (simp; done) | (simp; omega))) | ((with_reducible refine bel_row _ ?_ ?_); focus (first | omega | (simp; done) | (simp; omega))) | ((with_reducible refine bel_cell _ ?_ ?_); focus (first | omega | (simp; done) | (simp; omega))) | (with_reducible refine Below.drew ?_) | (with_reducible refine below_wideW _ ?_) | ((with_reducible refine bel_next (by assumption) ?_ ?_); focus (first | omega | (simp; done) | (simp; omega)))))⟩
  · obtain ⟨a, b, rfl, rfl, la, ha, lb, hb, hp, hz0⟩ := plateB_size ho
    rw [show (a : Int).toNat = a from rfl, show (b : Int).toNat = b from rfl]
    have h64 := (cells_all a ha b hb).2
    have hpos : 0 < a * b := Nat.mul_pos (by omega) (by omega)
    have hfl := cover_films ha hb hp
    obtain ⟨G, hG⟩ : ∃ G : Nat → Nat, G = fun k => F (cellAt a k) := ⟨_, rfl⟩
    have hGf : ∀ k, k < a * b → filmB (G k) = true := fun k hk => by rw [hG]; exact hfl k hk
    have hGc : ∀ i, i < 64 → isC a b i = true → G (cntC a b i) = F i ∧ cntC a b i < a * b := fun i hi hc => by
      obtain ⟨d1, d2⟩ := cells_at a ha b hb i hi hc
      exact ⟨by rw [hG]; show F (cellAt a _) = _; rw [d1], d2⟩
    have hG0 : G 0 = F 0 := by rw [hG]; show F (cellAt a 0) = _; simp [cellAt]
    have h01 : cntC a b 1 = 1 := by
      have : isC a b 0 = true := isC_iff.2 ⟨by omega, by omega⟩
      simp [cntC, this]
    rw [← hG]
    obtain ⟨n, hn⟩ : ∃ n, a * b = n := ⟨_, rfl⟩
    have hall := (cells_all a ha b hb).1
    rw [hn] at h64 hpos hGf hGc hall ⊢
    have hm : (a : Int) * (b : Int) = n := by rw [← hn]; simp
    have HM := Lib.hid hm
    have HGF := Lib.hid hGf
    have HGC := Lib.hid hGc
    have H01 := Lib.hid h01
    have HG0 := Lib.hid hG0
    have HALL := Lib.hid hall
    have e9 := fun w => run_fdiv (P := Tryz.prog) w 25 (sumTo_facts (by omega) hGf n (Nat.le_refl _)).1 (cvtN_fin n (by omega)) (cvtN_ne (by omega) hpos)
    clear hp hz0 hfl hG hGf hGc hG0 h01 hn hm hall
    have hr2 : (plate a b F)[2]? = some (.float .f32 (F 0)) := row_k2 _ _ _ _ (by omega : 0 < 64)
    go_enter Tryz.func13, Tryz.ntmps13
    go_wp2_with (first | (go_at_call 45; (with_reducible refine (specPOk_any a b F _ (by omega) (by omega) (by omega) (by omega) _ ?_).mono ?_); (focus (repeat (first | (with_reducible assumption) | ((with_reducible refine blk_new _ _ _ ?_); focus (simp; done)) | ((with_reducible refine blk_old _ _ _ ?_ ?_); focus (simp; done)) | ((with_reducible refine blk_old _ _ _ ?_ ?_); focus (first | omega | (simp; omega))) | ((with_reducible apply blk_set); focus (simp; done)) | ((with_reducible refine blk_off _ _ _ _ ?_ ?_); focus (simp; done)) | ((with_reducible refine blk_offc _ _ _ _ ?_ ?_); focus (first | (simp; done) | omega | (simp; omega))) | ((with_reducible refine blk_off _ _ _ _ ?_ ?_); focus (first | omega | (simp; omega))) | (with_reducible refine blk_drew _ _ ?_) | ((with_reducible refine blk_below (by assumption) ?_ ?_); focus (simp; done)) | ((with_reducible refine blk_below (by assumption) ?_ ?_); focus (first | omega | (simp; omega)))))); rintro e w' ⟨rfl, rfl⟩) | go_in)
    go_loop [4, 5] (fun v i => ∃ k : Nat, 1 ≤ k ∧ k ≤ 64 ∧ i = .int .i64 k ∧ v = .float .f32 (sumTo G (cntC a b k))) (fun _ i => 64 - (intOf i).toNat)
    case atStart => exact ⟨1, by omega, by omega, rfl, by rw [H01.out]; show _ = Value.float .f32 (G 0); rw [HG0.out]⟩
    case round =>
      obtain ⟨k, k1, hk, rfl, rfl⟩ := hrel
      by_cases hlt : k < 64
      · have k0 : (0 : Int) ≤ k := by omega
        have k64 : (k : Int) < 64 := by omega
        cases hr : isC a b k
        · have HR := Lib.hid hr
          have hIs : ∀ w' : World, w'.cell? ⟨w.heap.size, 0, none⟩ = some (.int .i8 a) → w'.cell? ⟨w.heap.size, 1, none⟩ = some (.int .i8 b) → Calls Tryz.prog 46 #[.pointer (some ⟨w.heap.size, 0, none⟩), .int .i64 k] w' fun e w'' => e = .returned (.bool false) ∧ w' = w'' := fun w' c0 c1 => by have := specIs_any ha hb hlt w' (w.heap.size) c0 c1; rwa [HR.out] at this
          clear hr
          go_wp2_with (first | (go_at_call 46; (with_reducible refine (hIs _ (by first | assumption | go_simp) (by first | assumption | go_simp)).mono ?_); rintro e w' ⟨rfl, rfl⟩) | go_in)
          go_round
          case rel => exact ⟨k + 1, by omega, by omega, by go_num, by rw [cnt_skip a b k HR.out]⟩
          case measure => simp [intOf]; omega
        · obtain ⟨g1, g2⟩ := HGC.out k hlt hr
          have HR := Lib.hid hr
          have hc1 : 1 ≤ cntC a b k := by
            have : ∀ j, 1 ≤ j → cntC a b 1 ≤ cntC a b j := fun j hj => by
              induction j with
              | zero => omega
              | succ j ih =>
                by_cases e : 1 ≤ j
                · exact Nat.le_trans (ih e) (by simp [cntC])
                · have : j = 0 := by omega
                  subst this; exact Nat.le_refl _
            have := this k k1
            rw [H01.out] at this
            exact this
          have hstep := sumTo_step G hc1
          have e1 := fun w => run_fadd (P := Tryz.prog) w 25 (sumTo_facts (by omega) HGF.out (cntC a b k) (by omega)).1 (film_fin (HGF.out _ g2))
          rw [g1] at e1 hstep
          have HS := Lib.hid hstep
          have hIs : ∀ w' : World, w'.cell? ⟨w.heap.size, 0, none⟩ = some (.int .i8 a) → w'.cell? ⟨w.heap.size, 1, none⟩ = some (.int .i8 b) → Calls Tryz.prog 46 #[.pointer (some ⟨w.heap.size, 0, none⟩), .int .i64 k] w' fun e w'' => e = .returned (.bool true) ∧ w' = w'' := fun w' c0 c1 => by have := specIs_any ha hb hlt w' (w.heap.size) c0 c1; rwa [HR.out] at this
          clear hr g1 g2 hstep hc1
          go_wp2_with (first | (go_at_call 46; (with_reducible refine (hIs _ (by first | assumption | go_simp) (by first | assumption | go_simp)).mono ?_); rintro e w' ⟨rfl, rfl⟩) | go_in)
          go_round
          case rel => exact ⟨k + 1, by omega, by omega, by go_num, by rw [cnt_step a b k HR.out, HS.out]⟩
          case measure => simp [intOf]; omega
      · obtain rfl : k = 64 := by omega
        have hall := HALL.out
        have hm := HM.out
        have hn0 : (0 : Int) ≤ n := by omega
        have hn64 : (n : Int) ≤ 64 := by omega
        go_wp2_with (first | go_in)
        go_ret2
        exact ⟨by first | rfl | (rw [hall]), (by repeat (first | (with_reducible assumption) | (with_reducible exact Below.refl _ _) | ((with_reducible refine bel_alloc _ ?_ ?_); focus (first | omega | (simp; done) | (simp; omega))) | ((with_reducible refine bel_row _ ?_ ?_); focus (first | omega | (simp; done) | (simp; omega))) | ((with_reducible refine bel_cell _ ?_ ?_); focus (first | omega | (simp; done) | (simp; omega))) | (with_reducible refine Below.drew ?_) | (with_reducible refine below_wideW _ ?_) | ((with_reducible refine bel_next (by assumption) ?_ ?_); focus (first | omega | (simp; done) | (simp; omega)))))⟩

set_option maxRecDepth 100000 in
set_option maxHeartbeats 1600000 in
theorem implCover_any (x y : Int) (F : Nat → Nat) (w : World) (lx : -128 ≤ x) (ux : x ≤ 127) (ly : -128 ≤ y) (uy : y ≤ 127) : Calls Tryz.prog 12 #[.agg (plate x y F)] w fun e w' => e = .returned (.tuple #[.float .f32 (coverR x y F), .int .i64 (codeV (plateB x y F))]) ∧ Below w.heap.size w w' := by
  unfold coverR
  cases ho : plateB x y F
  · go_enter Tryz.func12, Tryz.ntmps12
    go_wp2_with (first | (go_at_call 16; (with_reducible refine (implPOk_any x y F _ lx ux ly uy).mono ?_); rintro e w1 ⟨rfl, hb1⟩; have hz1 := hb1.size; (try simp at hz1); obtain ⟨hc1, hf1⟩ := bcell hb1) | ((with_reducible refine at_load 29 ?_); refine wpList_load_part rfl 29 _ rfl _ 0 66 rfl _ _ _ _ (by repeat (first | (with_reducible assumption) | ((with_reducible refine blk_new _ _ _ ?_); focus (simp; done)) | ((with_reducible refine blk_old _ _ _ ?_ ?_); focus (simp; done)) | ((with_reducible refine blk_old _ _ _ ?_ ?_); focus (first | omega | (simp; omega))) | ((with_reducible apply blk_set); focus (simp; done)) | ((with_reducible refine blk_off _ _ _ _ ?_ ?_); focus (simp; done)) | ((with_reducible refine blk_offc _ _ _ _ ?_ ?_); focus (first | (simp; done) | omega | (simp; omega))) | ((with_reducible refine blk_off _ _ _ _ ?_ ?_); focus (first | omega | (simp; omega))) | (with_reducible refine blk_drew _ _ ?_) | ((with_reducible refine blk_below (by assumption) ?_ ?_); focus (simp; done)) | ((with_reducible refine blk_below (by assumption) ?_ ?_); focus (first | omega | (simp; omega))))) Tryz.underlying29 rfl (by kernel_rfl) (by simp [row_size]) _ (row_all [_, _] 64 _) ?_) | go_in)
    go_ret2
    exact ⟨rfl, (by repeat (first | (with_reducible assumption) | (with_reducible exact Below.refl _ _) | ((with_reducible refine bel_alloc _ ?_ ?_); focus (first | omega | (simp; done) | (simp; omega))) | ((with_reducible refine bel_row _ ?_ ?_); focus (first | omega | (simp; done) | (simp; omega))) | ((with_reducible refine bel_cell _ ?_ ?_); focus (first | omega | (simp; done) | (simp; omega))) | (with_reducible refine Below.drew ?_) | (with_reducible refine below_wideW _ ?_) | ((with_reducible refine bel_next (by assumption) ?_ ?_); focus (first | omega | (simp; done) | (simp; omega)))))⟩
  · obtain ⟨a, b, rfl, rfl, la, ha, lb, hb, hp, hz0⟩ := plateB_size ho
    rw [show (a : Int).toNat = a from rfl, show (b : Int).toNat = b from rfl]
    have h64 := (cells_all a ha b hb).2
    have hpos : 0 < a * b := Nat.mul_pos (by omega) (by omega)
    have hfl := cover_films ha hb hp
    obtain ⟨G, hG⟩ : ∃ G : Nat → Nat, G = fun k => F (cellAt a k) := ⟨_, rfl⟩
    have hGf : ∀ k, k < a * b → filmB (G k) = true := fun k hk => by rw [hG]; exact hfl k hk
    have hGc : ∀ k, k < a * b → F (cellAt a k) = G k ∧ cellAt a k < 64 := fun k hk => ⟨by rw [hG], (cells_of a ha b hb k (by omega) hk).1⟩
    rw [← hG]
    obtain ⟨n, hn⟩ : ∃ n, a * b = n := ⟨_, rfl⟩
    rw [hn] at h64 hpos hGf hGc ⊢
    have HN := Lib.hid hn
    have HGF := Lib.hid hGf
    have HGC := Lib.hid hGc
    have e9 := fun w => run_fdiv (P := Tryz.prog) w 25 (sumTo_facts (by omega) hGf n (Nat.le_refl _)).1 (cvtN_fin n (by omega)) (cvtN_ne (by omega) hpos)
    obtain ⟨i0, ih, iz0, iz1, iz2⟩ := info_parts Tryz.info_f32
    clear hp hz0 hfl hG hGf hGc hn
    go_enter Tryz.func12, Tryz.ntmps12
    go_wp2_with (first | (go_at_call 16; (with_reducible refine (implPOk_any a b F _ (by omega) (by omega) (by omega) (by omega)).mono ?_); rintro e w1 ⟨rfl, hb1⟩; have hz1 := hb1.size; (try simp at hz1); obtain ⟨hc1, hf1⟩ := bcell hb1) | ((with_reducible refine at_load 29 ?_); refine wpList_load_part rfl 29 _ rfl _ 0 66 rfl _ _ _ _ (by repeat (first | (with_reducible assumption) | ((with_reducible refine blk_new _ _ _ ?_); focus (simp; done)) | ((with_reducible refine blk_old _ _ _ ?_ ?_); focus (simp; done)) | ((with_reducible refine blk_old _ _ _ ?_ ?_); focus (first | omega | (simp; omega))) | ((with_reducible apply blk_set); focus (simp; done)) | ((with_reducible refine blk_off _ _ _ _ ?_ ?_); focus (simp; done)) | ((with_reducible refine blk_offc _ _ _ _ ?_ ?_); focus (first | (simp; done) | omega | (simp; omega))) | ((with_reducible refine blk_off _ _ _ _ ?_ ?_); focus (first | omega | (simp; omega))) | (with_reducible refine blk_drew _ _ ?_) | ((with_reducible refine blk_below (by assumption) ?_ ?_); focus (simp; done)) | ((with_reducible refine blk_below (by assumption) ?_ ?_); focus (first | omega | (simp; omega))))) Tryz.underlying29 rfl (by kernel_rfl) (by simp [row_size]) _ (row_all [_, _] 64 _) ?_))
    go_at_call 49
    refine (cells_n a b n HN.out la ha lb hb _ w.heap.size (by first | (simp; done) | (simp; omega) | omega) ((cell_of_row _ _ 0 (plate a b F) 29 (0, 0) (by repeat (first | (with_reducible assumption) | ((with_reducible refine blk_new _ _ _ ?_); focus (simp; done)) | ((with_reducible refine blk_old _ _ _ ?_ ?_); focus (simp; done)) | ((with_reducible refine blk_old _ _ _ ?_ ?_); focus (first | omega | (simp; omega))) | ((with_reducible apply blk_set); focus (simp; done)) | ((with_reducible refine blk_off _ _ _ _ ?_ ?_); focus (simp; done)) | ((with_reducible refine blk_offc _ _ _ _ ?_ ?_); focus (first | (simp; done) | omega | (simp; omega))) | ((with_reducible refine blk_off _ _ _ _ ?_ ?_); focus (first | omega | (simp; omega))) | (with_reducible refine blk_drew _ _ ?_) | ((with_reducible refine blk_below (by assumption) ?_ ?_); focus (simp; done)) | ((with_reducible refine blk_below (by assumption) ?_ ?_); focus (first | omega | (simp; omega)))))).trans (row_g0 _ _ _ _)) ((cell_of_row _ _ 1 (plate a b F) 29 (0, 0) (by repeat (first | (with_reducible assumption) | ((with_reducible refine blk_new _ _ _ ?_); focus (simp; done)) | ((with_reducible refine blk_old _ _ _ ?_ ?_); focus (simp; done)) | ((with_reducible refine blk_old _ _ _ ?_ ?_); focus (first | omega | (simp; omega))) | ((with_reducible apply blk_set); focus (simp; done)) | ((with_reducible refine blk_off _ _ _ _ ?_ ?_); focus (simp; done)) | ((with_reducible refine blk_offc _ _ _ _ ?_ ?_); focus (first | (simp; done) | omega | (simp; omega))) | ((with_reducible refine blk_off _ _ _ _ ?_ ?_); focus (first | omega | (simp; omega))) | (with_reducible refine blk_drew _ _ ?_) | ((with_reducible refine blk_below (by assumption) ?_ ?_); focus (simp; done)) | ((with_reducible refine blk_below (by assumption) ?_ ?_); focus (first | omega | (simp; omega)))))).trans (row_g1 _ _ _ _ _))).mono ?_
    rintro e w2 ⟨g0, c, rfl, hown, hbc⟩
    obtain ⟨cur, hcur, hat⟩ := own_block hown
    have hz5 := hbc.size
    simp at hz5
    have k1 : w2.heap[w.heap.size]? = some (.cells (plate a b F) 29 (0, 0)) := blk_below hbc (by first | (simp; done) | (simp; omega) | omega) (by repeat (first | (with_reducible assumption) | ((with_reducible refine blk_new _ _ _ ?_); focus (simp; done)) | ((with_reducible refine blk_old _ _ _ ?_ ?_); focus (simp; done)) | ((with_reducible refine blk_old _ _ _ ?_ ?_); focus (first | omega | (simp; omega))) | ((with_reducible apply blk_set); focus (simp; done)) | ((with_reducible refine blk_off _ _ _ _ ?_ ?_); focus (simp; done)) | ((with_reducible refine blk_offc _ _ _ _ ?_ ?_); focus (first | (simp; done) | omega | (simp; omega))) | ((with_reducible refine blk_off _ _ _ _ ?_ ?_); focus (first | omega | (simp; omega))) | (with_reducible refine blk_drew _ _ ?_) | ((with_reducible refine blk_below (by assumption) ?_ ?_); focus (simp; done)) | ((with_reducible refine blk_below (by assumption) ?_ ?_); focus (first | omega | (simp; omega)))))
    have k2 : w2.heap[w1.heap.size]? = some (.cells #[] 25 (0, 0)) := blk_below hbc (by first | (simp; done) | (simp; omega) | omega) (by repeat (first | (with_reducible assumption) | ((with_reducible refine blk_new _ _ _ ?_); focus (simp; done)) | ((with_reducible refine blk_old _ _ _ ?_ ?_); focus (simp; done)) | ((with_reducible refine blk_old _ _ _ ?_ ?_); focus (first | omega | (simp; omega))) | ((with_reducible apply blk_set); focus (simp; done)) | ((with_reducible refine blk_off _ _ _ _ ?_ ?_); focus (simp; done)) | ((with_reducible refine blk_offc _ _ _ _ ?_ ?_); focus (first | (simp; done) | omega | (simp; omega))) | ((with_reducible refine blk_off _ _ _ _ ?_ ?_); focus (first | omega | (simp; omega))) | (with_reducible refine blk_drew _ _ ?_) | ((with_reducible refine blk_below (by assumption) ?_ ?_); focus (simp; done)) | ((with_reducible refine blk_below (by assumption) ?_ ?_); focus (first | omega | (simp; omega)))))
    have k4 : Below w.heap.size w w2 := bel_next hbc (by first | (simp; done) | (simp; omega) | omega) (by repeat (first | (with_reducible assumption) | (with_reducible exact Below.refl _ _) | ((with_reducible refine bel_alloc _ ?_ ?_); focus (first | omega | (simp; done) | (simp; omega))) | ((with_reducible refine bel_row _ ?_ ?_); focus (first | omega | (simp; done) | (simp; omega))) | ((with_reducible refine bel_cell _ ?_ ?_); focus (first | omega | (simp; done) | (simp; omega))) | (with_reducible refine Below.drew ?_) | (with_reducible refine below_wideW _ ?_) | ((with_reducible refine bel_next (by assumption) ?_ ?_); focus (first | omega | (simp; done) | (simp; omega)))))
    have k5 : w2.ownsRow (w.heap.size + 1) 25 1 (.slice (some ⟨w1.heap.size, 0, none⟩) 0 0) 0 (floatsV G 0) := ⟨rfl, Or.inr ⟨w1.heap.size, 0, #[], rfl, by omega, k2, by omega, by simp [maxLen], rfl, rfl⟩⟩
    have HA := Lib.hid hat
    have K1 := Lib.hid k1
    have K4 := Lib.hid k4
    have K5 := Lib.hid k5
    have KC := Lib.hid hcur
    have hsz2 : w.heap.size + 1 ≤ w2.heap.size := by omega
    clear hown hbc hcur hat k1 k2 k4 k5 hz5 hb1 hc1 hf1
    go_wp2
    go_loopw [4, 13] (fun v i wr => ∃ k : Nat, k ≤ n ∧ i = .int .i64 k ∧ wr.ownsRow (w.heap.size + 1) 25 1 v k (floatsV G k) ∧ wr.heap[w.heap.size]? = some (.cells (plate a b F) 29 (0, 0)) ∧ wr.heap[g0]? = some (.cells cur 2 (0, 0)) ∧ Below w.heap.size w wr ∧ w.heap.size + 1 ≤ wr.heap.size) (fun _ i _ => 65 - (intOf i).toNat)
    case atStart => exact ⟨0, by omega, rfl, K5.out, K1.out, KC.out, K4.out, hsz2⟩
    case round =>
      obtain ⟨k, hk, rfl, hown, h1, h4, h5, h6⟩ := hrel
      clear K1 K4 K5 KC
      by_cases hlt : k < n
      · obtain ⟨q1, q2⟩ := HGC.out k hlt
        have cl : wr.cell? ⟨g0, k, none⟩ = some (.int .i64 (cellAt a k : Nat)) := (cell_of_row wr g0 k cur 2 (0, 0) h4).trans (HA.out k hlt)
        have cf : wr.cell? ⟨w.heap.size, 2 + cellAt a k, none⟩ = some (.float .f32 (F (cellAt a k))) := (cell_of_row wr _ (2 + cellAt a k) _ _ _ h1).trans (row_k2 _ _ _ _ q2)
        rw [q1] at cf
        obtain ⟨q, hq⟩ : ∃ q, q = cellAt a k := ⟨_, rfl⟩
        rw [← hq] at cl cf q2
        clear q1 hq
        have H1 := Lib.hid h1
        have H4 := Lib.hid h4
        have H5 := Lib.hid h5
        clear h1 h4 h5
        have z0 : (0 : Int) ≤ q := by omega
        have z1 : (q : Int) < 64 := by omega
        have i0' : (0 : Int) ≤ k := by omega
        have i1 : (k : Int) < n := by omega
        have i2 : (n : Int) ≤ 64 := by omega
        go_wp2_with (first | (at_builtin; refine wpList_append_own _ rfl _ _ 64 rfl (w.heap.size + 1) 25 i0 (.float .f32 0) 1 4 Tryz.underlying64 ih iz0 iz1 iz2 rfl (by decide) _ _ _ rfl (hown.alloc _) ⟨wr.heap.size, 0, none⟩ 1 1 [.float .f32 (G k)] rfl rfl ?c1 ?c2 ?c3 ?c4 ?c5 ?_) | go_in)
        case c1 =>
          intro j u hj
          match j, hj with
          | 0, hj => simp at hj; subst hj; simp [Addr.add]
        case c2 => intro u hu; simp at hu; subst hu; rfl
        case c3 => unfold maxLen; omega
        case c4 => omega
        case c5 => simp; omega
        intro v' w3 hown' hgrow _
        have n1 := own_keep hgrow H1.out (own_off hown H1.out (Or.inl (by omega)))
        have n4 := own_keep hgrow H4.out (own_off hown H4.out (Or.inr (by decide)))
        have n5 := own_below hown (by omega) (by omega) H5.out hgrow
        have n6 := own_size hgrow
        rw [floatsV_snoc] at hown'
        have N1 := Lib.hid n1
        have N4 := Lib.hid n4
        have N5 := Lib.hid n5
        have NO := Lib.hid hown'
        have n7 : w.heap.size + 1 ≤ w3.heap.size := by omega
        clear n1 n4 n5 hown' hown hgrow
        go_wp2
        go_roundw
        case rel => exact ⟨k + 1, by omega, by go_num, NO.out, N1.out, N4.out, N5.out, n7⟩
        case measure => simp [intOf]; omega
      · have hkn : k = n := by omega
        rw [hkn] at hown
        obtain ⟨g1, c1, hv, _, _⟩ := own_shape hown hpos
        subst hv
        have HO := Lib.hid hown
        have H5 := Lib.hid h5
        have hkn' : (k : Int) = n := by omega
        clear h1 h4 h5 hown
        have hsum : Calls Tryz.prog 47 #[.slice (some ⟨g1, 0, none⟩) n c1] wr fun e w' => e = .returned (.float .f32 (sumTo G n)) ∧ wr = w' := sum_any G n g1 0 c1 wr (by omega) HGF.out (fun i hi => by rw [Nat.zero_add]; exact (HO.out.cellAt i (by omega)).trans (floatsV_at hi))
        have HS := Lib.hid hsum
        clear hsum hkn hkn'
        have hge : ¬ k < n := hlt
        go_wp2_with (first | (go_at_call 47; (with_reducible refine HS.out.mono ?_); rintro e w' ⟨rfl, rfl⟩) | go_in)
        go_ret2
        exact ⟨rfl, H5.out⟩

end Go.Proofs.YtekfmjddlemboaaGreatDoor
