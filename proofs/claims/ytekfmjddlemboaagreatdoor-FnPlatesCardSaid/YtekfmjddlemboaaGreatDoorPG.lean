/- Contracts of ScreenPlate, the reference's and the program's, and the law on it. -/
import Derived.Test.YtekfmjddlemboaaGreatDoorPE

/-! Contracts of ScreenPlate, the reference's and the program's, and the law on it. -/
set_option linter.unusedVariables false
set_option linter.unusedSimpArgs false
namespace Go.Proofs.YtekfmjddlemboaaGreatDoor
open Go.RowKit Ieee

def tabI (j : Nat) : Int := ([0, 8, 2, 10, 12, 4, 14, 6, 3, 11, 1, 9, 15, 7, 13, 5] : List Int).getD j 0
def tabB (j : Nat) : Nat := ([0, 1090519040, 1073741824, 1092616192, 1094713344, 1082130432, 1096810496, 1086324736, 1077936128, 1093664768, 1065353216, 1091567616, 1097859072, 1088421888, 1095761920, 1084227584] : List Nat).getD j 0
theorem tab_cvt : ∀ j, j < 16 → floatOfInt .f32 (tabI j) = tabB j := by decide +kernel
theorem tab_fin : ∀ j, j < 16 → Fin32 (tabB j) ∧ Fin32 (fadd (tabB j) 1056964608) := by decide +kernel
theorem Z_16s : Z32 1098907648 ≠ 0 := by decide +kernel
theorem f_16 : Fin32 1098907648 := by decide
theorem f_half : Fin32 1056964608 := by decide
def thr (j : Nat) : Nat := fdiv (fadd (tabB j) 1056964608) 1098907648
def tIdx (i : Nat) : Nat := 4 * (i / 8 % 4) + i % 4
theorem tIdx_lt (i : Nat) : tIdx i < 16 := by unfold tIdx; omega
def screenF (F : Nat → Nat) (i : Nat) : Nat := if FloatKind.f32.format.order (F i) (thr (tIdx i)) == some .gt then 1065353216 else 0
theorem mapC_stay {a b : Nat} (ha : a < 9) (hb : b < 9) {g G : Nat → Nat} {i : Nat} (hi : i < 64) (hc : isC a b i = true) (hg : g i = G i) (pre : List Value) : row pre 64 (mapC a b g G (cntC a b i)) = row pre 64 (mapC a b g G (cntC a b (i + 1))) := by
  rw [← mapC_step' ha hb g G hi hc]
  apply row_congr
  intro j hj
  unfold upd
  split
  · rename_i h
    subst h
    rw [mapC_keep g G hi rfl, hg]
  · rfl
def tabC : Array Value := #[.int .i64 0, .int .i64 8, .int .i64 2, .int .i64 10, .int .i64 12, .int .i64 4, .int .i64 14, .int .i64 6, .int .i64 3, .int .i64 11, .int .i64 1, .int .i64 9, .int .i64 15, .int .i64 7, .int .i64 13, .int .i64 5]
theorem tabC_at : ∀ j, j < 16 → tabC[j]? = some (.int .i64 (tabI j)) := by
  intro j hj
  obtain rfl | rfl | rfl | rfl | rfl | rfl | rfl | rfl | rfl | rfl | rfl | rfl | rfl | rfl | rfl | rfl : j = 0 ∨ j = 1 ∨ j = 2 ∨ j = 3 ∨ j = 4 ∨ j = 5 ∨ j = 6 ∨ j = 7 ∨ j = 8 ∨ j = 9 ∨ j = 10 ∨ j = 11 ∨ j = 12 ∨ j = 13 ∨ j = 14 ∨ j = 15 := by omega
  all_goals rfl
def tabD : Array Value := #[.float .f32 0, .float .f32 1090519040, .float .f32 1073741824, .float .f32 1092616192, .float .f32 1094713344, .float .f32 1082130432, .float .f32 1096810496, .float .f32 1086324736, .float .f32 1077936128, .float .f32 1093664768, .float .f32 1065353216, .float .f32 1091567616, .float .f32 1097859072, .float .f32 1088421888, .float .f32 1095761920, .float .f32 1084227584]
theorem tabD_at : ∀ j, j < 16 → tabD[j]? = some (.float .f32 (tabB j)) := by
  intro j hj
  obtain rfl | rfl | rfl | rfl | rfl | rfl | rfl | rfl | rfl | rfl | rfl | rfl | rfl | rfl | rfl | rfl : j = 0 ∨ j = 1 ∨ j = 2 ∨ j = 3 ∨ j = 4 ∨ j = 5 ∨ j = 6 ∨ j = 7 ∨ j = 8 ∨ j = 9 ∨ j = 10 ∨ j = 11 ∨ j = 12 ∨ j = 13 ∨ j = 14 ∨ j = 15 := by omega
  all_goals rfl

set_option maxRecDepth 100000 in
set_option maxHeartbeats 3200000 in
theorem specScreen_any (x y : Int) (F : Nat → Nat) (w : World) (lx : -128 ≤ x) (ux : x ≤ 127) (ly : -128 ≤ y) (uy : y ≤ 127) : Calls Tryz.prog 23 #[.agg (plate x y F)] w fun e w' => e = .returned (.tuple #[.agg (if plateB x y F then plate x y (mapA x.toNat y.toNat (screenF F) (fun _ => 0)) else plate 0 0 (fun _ => 0)), .int .i64 (if plateB x y F then 0 else 1)]) ∧ Below w.heap.size w w' := by
  have hz : Tryz.zeroCells29 = row [.int .i8 0, .int .i8 0] 64 (fun _ => 0) := rfl
  cases ho : plateB x y F
  · go_enter Tryz.func23, Tryz.ntmps23
    go_wp2_with (first | (go_at_call 45; (with_reducible refine (specPOk_any x y F _ lx ux ly uy _ ?_).mono ?_); (focus (repeat (first | (with_reducible assumption) | ((with_reducible refine blk_new _ _ _ ?_); focus (simp; done)) | ((with_reducible refine blk_old _ _ _ ?_ ?_); focus (simp; done)) | ((with_reducible refine blk_old _ _ _ ?_ ?_); focus (first | omega | (simp; omega))) | ((with_reducible apply blk_set); focus (simp; done)) | ((with_reducible refine blk_off _ _ _ _ ?_ ?_); focus (simp; done)) | ((with_reducible refine blk_offc _ _ _ _ ?_ ?_); focus (first | (simp; done) | omega | (simp; omega))) | ((with_reducible refine blk_off _ _ _ _ ?_ ?_); focus (first | omega | (simp; omega))) | (with_reducible refine blk_drew _ _ ?_) | ((with_reducible refine blk_below (by assumption) ?_ ?_); focus (simp; done)) | ((with_reducible refine blk_below (by assumption) ?_ ?_); focus (first | omega | (simp; omega)))))); rintro e w' ⟨rfl, rfl⟩) | ((with_reducible refine at_store 29 ?_); refine wpList_store_part rfl 29 _ _ rfl _ 0 _ rfl rfl _ _ (by repeat (first | (with_reducible assumption) | ((with_reducible refine blk_new _ _ _ ?_); focus (simp; done)) | ((with_reducible refine blk_old _ _ _ ?_ ?_); focus (simp; done)) | ((with_reducible refine blk_old _ _ _ ?_ ?_); focus (first | omega | (simp; omega))) | ((with_reducible apply blk_set); focus (simp; done)) | ((with_reducible refine blk_off _ _ _ _ ?_ ?_); focus (simp; done)) | ((with_reducible refine blk_offc _ _ _ _ ?_ ?_); focus (first | (simp; done) | omega | (simp; omega))) | ((with_reducible refine blk_off _ _ _ _ ?_ ?_); focus (first | omega | (simp; omega))) | (with_reducible refine blk_drew _ _ ?_) | ((with_reducible refine blk_below (by assumption) ?_ ?_); focus (simp; done)) | ((with_reducible refine blk_below (by assumption) ?_ ?_); focus (first | omega | (simp; omega))))) (by rw [row_size]; kernel_rfl) (by simp [row_size]) (row_cells _ _ _ rfl) _ (row_over _ _ 64 _ _ (by simp)) ?_) | ((with_reducible refine at_load 29 ?_); refine wpList_load_part rfl 29 _ rfl _ 0 66 rfl _ _ _ _ (by repeat (first | (with_reducible assumption) | ((with_reducible refine blk_new _ _ _ ?_); focus (simp; done)) | ((with_reducible refine blk_old _ _ _ ?_ ?_); focus (simp; done)) | ((with_reducible refine blk_old _ _ _ ?_ ?_); focus (first | omega | (simp; omega))) | ((with_reducible apply blk_set); focus (simp; done)) | ((with_reducible refine blk_off _ _ _ _ ?_ ?_); focus (simp; done)) | ((with_reducible refine blk_offc _ _ _ _ ?_ ?_); focus (first | (simp; done) | omega | (simp; omega))) | ((with_reducible refine blk_off _ _ _ _ ?_ ?_); focus (first | omega | (simp; omega))) | (with_reducible refine blk_drew _ _ ?_) | ((with_reducible refine blk_below (by assumption) ?_ ?_); focus (simp; done)) | ((with_reducible refine blk_below (by assumption) ?_ ?_); focus (first | omega | (simp; omega))))) Tryz.underlying29 rfl (by kernel_rfl) (by simp [row_size]) _ (row_all [_, _] 64 _) ?_) | go_in)
    refine bodyPost_ret (v := .tuple #[.agg (plate 0 0 (fun _ => 0)), .int .i64 1]) ?_ ?_ ?_
    · refine results_row_tmp Tryz.results23 _ _ _ 29 (plate 0 0 (fun _ => 0)) (0, 0) _ _ rfl rfl ?_ Tryz.underlying29 rfl (by simp only [row_size]; kernel_rfl)
      exact (by repeat (first | (with_reducible assumption) | ((with_reducible refine blk_new _ _ _ ?_); focus (simp; done)) | ((with_reducible refine blk_old _ _ _ ?_ ?_); focus (simp; done)) | ((with_reducible refine blk_old _ _ _ ?_ ?_); focus (first | omega | (simp; omega))) | ((with_reducible apply blk_set); focus (simp; done)) | ((with_reducible refine blk_off _ _ _ _ ?_ ?_); focus (simp; done)) | ((with_reducible refine blk_offc _ _ _ _ ?_ ?_); focus (first | (simp; done) | omega | (simp; omega))) | ((with_reducible refine blk_off _ _ _ _ ?_ ?_); focus (first | omega | (simp; omega))) | (with_reducible refine blk_drew _ _ ?_) | ((with_reducible refine blk_below (by assumption) ?_ ?_); focus (simp; done)) | ((with_reducible refine blk_below (by assumption) ?_ ?_); focus (first | omega | (simp; omega)))))
    · rfl
    · exact ⟨rfl, (by repeat (first | (with_reducible assumption) | (with_reducible exact Below.refl _ _) | ((with_reducible refine bel_alloc _ ?_ ?_); focus (first | omega | (simp; done) | (simp; omega))) | ((with_reducible refine bel_row _ ?_ ?_); focus (first | omega | (simp; done) | (simp; omega))) | ((with_reducible refine bel_cell _ ?_ ?_); focus (first | omega | (simp; done) | (simp; omega))) | (with_reducible refine Below.drew ?_) | (with_reducible refine below_wideW _ ?_) | ((with_reducible refine bel_next (by assumption) ?_ ?_); focus (first | omega | (simp; done) | (simp; omega)))))⟩
  · obtain ⟨a, b, rfl, rfl, la, ha, lb, hb, hp, hz0⟩ := plateB_size ho
    have HP := Lib.hid hp
    clear hp hz0
    go_enter Tryz.func23, Tryz.ntmps23
    go_wp2_with (first | (go_at_call 45; (with_reducible refine (specPOk_any a b F _ (by omega) (by omega) (by omega) (by omega) _ ?_).mono ?_); (focus (repeat (first | (with_reducible assumption) | ((with_reducible refine blk_new _ _ _ ?_); focus (simp; done)) | ((with_reducible refine blk_old _ _ _ ?_ ?_); focus (simp; done)) | ((with_reducible refine blk_old _ _ _ ?_ ?_); focus (first | omega | (simp; omega))) | ((with_reducible apply blk_set); focus (simp; done)) | ((with_reducible refine blk_off _ _ _ _ ?_ ?_); focus (simp; done)) | ((with_reducible refine blk_offc _ _ _ _ ?_ ?_); focus (first | (simp; done) | omega | (simp; omega))) | ((with_reducible refine blk_off _ _ _ _ ?_ ?_); focus (first | omega | (simp; omega))) | (with_reducible refine blk_drew _ _ ?_) | ((with_reducible refine blk_below (by assumption) ?_ ?_); focus (simp; done)) | ((with_reducible refine blk_below (by assumption) ?_ ?_); focus (first | omega | (simp; omega)))))); rintro e w' ⟨rfl, rfl⟩) | ((with_reducible refine at_store 29 ?_); refine wpList_store_part rfl 29 _ _ rfl _ 0 _ rfl rfl _ _ (by repeat (first | (with_reducible assumption) | ((with_reducible refine blk_new _ _ _ ?_); focus (simp; done)) | ((with_reducible refine blk_old _ _ _ ?_ ?_); focus (simp; done)) | ((with_reducible refine blk_old _ _ _ ?_ ?_); focus (first | omega | (simp; omega))) | ((with_reducible apply blk_set); focus (simp; done)) | ((with_reducible refine blk_off _ _ _ _ ?_ ?_); focus (simp; done)) | ((with_reducible refine blk_offc _ _ _ _ ?_ ?_); focus (first | (simp; done) | omega | (simp; omega))) | ((with_reducible refine blk_off _ _ _ _ ?_ ?_); focus (first | omega | (simp; omega))) | (with_reducible refine blk_drew _ _ ?_) | ((with_reducible refine blk_below (by assumption) ?_ ?_); focus (simp; done)) | ((with_reducible refine blk_below (by assumption) ?_ ?_); focus (first | omega | (simp; omega))))) (by rw [row_size]; kernel_rfl) (by simp [row_size]) (row_cells _ _ _ rfl) _ (row_over _ _ 64 _ _ (by simp)) ?_) | ((with_reducible refine at_load 29 ?_); refine wpList_load_part rfl 29 _ rfl _ 0 66 rfl _ _ _ _ (by repeat (first | (with_reducible assumption) | ((with_reducible refine blk_new _ _ _ ?_); focus (simp; done)) | ((with_reducible refine blk_old _ _ _ ?_ ?_); focus (simp; done)) | ((with_reducible refine blk_old _ _ _ ?_ ?_); focus (first | omega | (simp; omega))) | ((with_reducible apply blk_set); focus (simp; done)) | ((with_reducible refine blk_off _ _ _ _ ?_ ?_); focus (simp; done)) | ((with_reducible refine blk_offc _ _ _ _ ?_ ?_); focus (first | (simp; done) | omega | (simp; omega))) | ((with_reducible refine blk_off _ _ _ _ ?_ ?_); focus (first | omega | (simp; omega))) | (with_reducible refine blk_drew _ _ ?_) | ((with_reducible refine blk_below (by assumption) ?_ ?_); focus (simp; done)) | ((with_reducible refine blk_below (by assumption) ?_ ?_); focus (first | omega | (simp; omega))))) Tryz.underlying29 rfl (by kernel_rfl) (by simp [row_size]) _ (row_all [_, _] 64 _) ?_) | go_in)
    go_loopw [6] (fun i wr => ∃ k : Nat, k ≤ 64 ∧ i = .int .i64 k ∧ wr.heap[w.heap.size]? = some (.cells (plate a b F) 29 (0, 0)) ∧ wr.heap[w.heap.size + 1]? = some (.cells (plate 0 0 (fun _ => 0)) 29 (0, 0)) ∧ wr.heap[w.heap.size + 3]? = some (.cells (plate a b (mapC a b (screenF F) (fun _ => 0) (cntC a b k))) 29 (0, 0)) ∧ wr.heap[w.heap.size + 2]? = some (.cells tabC 89 (0, 0)) ∧ Below w.heap.size w wr) (fun i _ => 64 - (intOf i).toNat)
    case atStart => exact ⟨0, by omega, rfl, (by repeat (first | (with_reducible assumption) | ((with_reducible refine blk_new _ _ _ ?_); focus (simp; done)) | ((with_reducible refine blk_old _ _ _ ?_ ?_); focus (simp; done)) | ((with_reducible refine blk_old _ _ _ ?_ ?_); focus (first | omega | (simp; omega))) | ((with_reducible apply blk_set); focus (simp; done)) | ((with_reducible refine blk_off _ _ _ _ ?_ ?_); focus (simp; done)) | ((with_reducible refine blk_offc _ _ _ _ ?_ ?_); focus (first | (simp; done) | omega | (simp; omega))) | ((with_reducible refine blk_off _ _ _ _ ?_ ?_); focus (first | omega | (simp; omega))) | (with_reducible refine blk_drew _ _ ?_) | ((with_reducible refine blk_below (by assumption) ?_ ?_); focus (simp; done)) | ((with_reducible refine blk_below (by assumption) ?_ ?_); focus (first | omega | (simp; omega))))), (by repeat (first | (with_reducible assumption) | ((with_reducible refine blk_new _ _ _ ?_); focus (simp; done)) | ((with_reducible refine blk_old _ _ _ ?_ ?_); focus (simp; done)) | ((with_reducible refine blk_old _ _ _ ?_ ?_); focus (first | omega | (simp; omega))) | ((with_reducible apply blk_set); focus (simp; done)) | ((with_reducible refine blk_off _ _ _ _ ?_ ?_); focus (simp; done)) | ((with_reducible refine blk_offc _ _ _ _ ?_ ?_); focus (first | (simp; done) | omega | (simp; omega))) | ((with_reducible refine blk_off _ _ _ _ ?_ ?_); focus (first | omega | (simp; omega))) | (with_reducible refine blk_drew _ _ ?_) | ((with_reducible refine blk_below (by assumption) ?_ ?_); focus (simp; done)) | ((with_reducible refine blk_below (by assumption) ?_ ?_); focus (first | omega | (simp; omega))))), by rw [show cntC a b 0 = 0 from rfl, mapC_0]; exact (by repeat (first | (with_reducible assumption) | ((with_reducible refine blk_new _ _ _ ?_); focus (simp; done)) | ((with_reducible refine blk_old _ _ _ ?_ ?_); focus (simp; done)) | ((with_reducible refine blk_old _ _ _ ?_ ?_); focus (first | omega | (simp; omega))) | ((with_reducible apply blk_set); focus (simp; done)) | ((with_reducible refine blk_off _ _ _ _ ?_ ?_); focus (simp; done)) | ((with_reducible refine blk_offc _ _ _ _ ?_ ?_); focus (first | (simp; done) | omega | (simp; omega))) | ((with_reducible refine blk_off _ _ _ _ ?_ ?_); focus (first | omega | (simp; omega))) | (with_reducible refine blk_drew _ _ ?_) | ((with_reducible refine blk_below (by assumption) ?_ ?_); focus (simp; done)) | ((with_reducible refine blk_below (by assumption) ?_ ?_); focus (first | omega | (simp; omega))))), (by unfold tabC; repeat (first | (with_reducible assumption) | ((with_reducible refine blk_new _ _ _ ?_); focus (simp; done)) | ((with_reducible refine blk_old _ _ _ ?_ ?_); focus (simp; done)) | ((with_reducible refine blk_old _ _ _ ?_ ?_); focus (first | omega | (simp; omega))) | ((with_reducible apply blk_set); focus (simp; done)) | ((with_reducible refine blk_off _ _ _ _ ?_ ?_); focus (simp; done)) | ((with_reducible refine blk_offc _ _ _ _ ?_ ?_); focus (first | (simp; done) | omega | (simp; omega))) | ((with_reducible refine blk_off _ _ _ _ ?_ ?_); focus (first | omega | (simp; omega))) | (with_reducible refine blk_drew _ _ ?_) | ((with_reducible refine blk_below (by assumption) ?_ ?_); focus (simp; done)) | ((with_reducible refine blk_below (by assumption) ?_ ?_); focus (first | omega | (simp; omega))))), (by repeat (first | (with_reducible assumption) | (with_reducible exact Below.refl _ _) | ((with_reducible refine bel_alloc _ ?_ ?_); focus (first | omega | (simp; done) | (simp; omega))) | ((with_reducible refine bel_row _ ?_ ?_); focus (first | omega | (simp; done) | (simp; omega))) | ((with_reducible refine bel_cell _ ?_ ?_); focus (first | omega | (simp; done) | (simp; omega))) | (with_reducible refine Below.drew ?_) | (with_reducible refine below_wideW _ ?_) | ((with_reducible refine bel_next (by assumption) ?_ ?_); focus (first | omega | (simp; done) | (simp; omega)))))⟩
    case round =>
      obtain ⟨k, hk, rfl, h1, h2, h3, h4, h5⟩ := hrel
      have p0 : wr.cell? ⟨w.heap.size, 0, none⟩ = some (.int .i8 a) := (cell_of_row wr _ 0 _ _ _ h1).trans (row_g0 _ _ _ _)
      have p1 : wr.cell? ⟨w.heap.size, 1, none⟩ = some (.int .i8 b) := (cell_of_row wr _ 1 _ _ _ h1).trans (row_g1 _ _ _ _ _)
      by_cases hlt : k < 64
      · have k0 : (0 : Int) ≤ k := by omega
        have k64 : (k : Int) < 64 := by omega
        have cf : wr.cell? ⟨w.heap.size, 2 + k, none⟩ = some (.float .f32 (F k)) := (cell_of_row wr _ (2 + k) _ _ _ h1).trans (row_k2 _ _ _ _ hlt)
        have co : wr.cell? ⟨w.heap.size + 3, 2 + k, none⟩ = some (.float .f32 (mapC a b (screenF F) (fun _ => 0) (cntC a b k) k)) := (cell_of_row wr _ (2 + k) _ _ _ h3).trans (row_k2 _ _ _ _ hlt)
        have ff : wr.frozen? ⟨w.heap.size + 3, 2 + k, none⟩ = false := frozen_of_row wr _ _ _ _ h3
        have ct : wr.cell? ⟨w.heap.size + 2, tIdx k, none⟩ = some (.int .i64 (tabI (tIdx k))) := (cell_of_row wr _ (tIdx k) _ _ _ h4).trans (tabC_at _ (tIdx_lt k))
        have q1 : (4 * ((k : Int) / 8 % 4) + (k : Int) % 4).toNat = tIdx k := by unfold tIdx; omega
        have q2 : (0 : Int) ≤ 4 * ((k : Int) / 8 % 4) + (k : Int) % 4 := by omega
        have q3 : 4 * ((k : Int) / 8 % 4) + (k : Int) % 4 < 16 := by omega
        have H1 := Lib.hid h1
        have H2 := Lib.hid h2
        have H3 := Lib.hid h3
        have H5 := Lib.hid h5
        have H4 := Lib.hid h4
        clear h4
        clear h1 h2 h3 h5
        cases hr : isC a b k
        · have HR := Lib.hid hr
          have hIs : ∀ w' : World, w'.cell? ⟨w.heap.size, 0, none⟩ = some (.int .i8 a) → w'.cell? ⟨w.heap.size, 1, none⟩ = some (.int .i8 b) → Calls Tryz.prog 46 #[.pointer (some ⟨w.heap.size, 0, none⟩), .int .i64 k] w' fun e w'' => e = .returned (.bool false) ∧ w' = w'' := fun w' c0 c1 => by have := specIs_any ha hb hlt w' (w.heap.size) c0 c1; rwa [HR.out] at this
          clear hr
          go_wp2_with (first | (go_at_call 46; (with_reducible refine (hIs _ (by assumption) (by assumption)).mono ?_); rintro e w' ⟨rfl, rfl⟩) | go_in)
          go_roundw
          case rel => exact ⟨k + 1, by omega, by go_num, H1.out, H2.out, by rw [cnt_skip a b k HR.out]; exact H3.out, H4.out, H5.out⟩
          case measure => simp [intOf]; omega
        · have HR := Lib.hid hr
          have hIs : ∀ w' : World, w'.cell? ⟨w.heap.size, 0, none⟩ = some (.int .i8 a) → w'.cell? ⟨w.heap.size, 1, none⟩ = some (.int .i8 b) → Calls Tryz.prog 46 #[.pointer (some ⟨w.heap.size, 0, none⟩), .int .i64 k] w' fun e w'' => e = .returned (.bool true) ∧ w' = w'' := fun w' c0 c1 => by have := specIs_any ha hb hlt w' (w.heap.size) c0 c1; rwa [HR.out] at this
          clear hr
          obtain ⟨t1, t2⟩ := tab_fin (tIdx k) (tIdx_lt k)
          rw [← tab_cvt _ (tIdx_lt k)] at t1 t2
          have hthr : thr (tIdx k) = fdiv (fadd (floatOfInt .f32 (tabI (tIdx k))) 1056964608) 1098907648 := by unfold thr; rw [tab_cvt _ (tIdx_lt k)]
          have hscr : screenF F k = if FloatKind.f32.format.order (F k) (thr (tIdx k)) == some .gt then 1065353216 else 0 := rfl
          rw [hthr] at hscr
          obtain ⟨tv, htv⟩ : ∃ tv, tv = tabI (tIdx k) := ⟨_, rfl⟩
          rw [← htv] at t1 t2 hscr ct
          have e1 := fun w => run_fadd (P := Tryz.prog) w 25 t1 f_half
          have e2 := fun w => run_fdiv (P := Tryz.prog) w 25 t2 f_16 Z_16s
          have HSC := Lib.hid hscr
          clear t1 t2 hthr hscr htv
          cases hgt : (FloatKind.f32.format.order (F k) (fdiv (fadd (floatOfInt .f32 tv) 1056964608) 1098907648) == some .gt)
          · have hs0 : screenF F k = 0 := by rw [HSC.out, hgt]; rfl
            have HS0 := Lib.hid hs0
            clear hs0
            go_wp2_with (first | (go_at_call 46; (with_reducible refine (hIs _ (by assumption) (by assumption)).mono ?_); rintro e w' ⟨rfl, rfl⟩) | go_in)
            go_roundw
            case rel => exact ⟨k + 1, by omega, by go_num, H1.out, H2.out, by rw [← show plate a b (mapC a b (screenF F) (fun _ => 0) (cntC a b k)) = plate a b (mapC a b (screenF F) (fun _ => 0) (cntC a b (k + 1))) from mapC_stay ha hb hlt HR.out HS0.out _]; exact H3.out, H4.out, H5.out⟩
            case measure => simp [intOf]; omega
          · have hs0 : screenF F k = 1065353216 := by rw [HSC.out, hgt]; rfl
            have HS0 := Lib.hid hs0
            clear hs0
            go_wp2_with (first | (go_at_call 46; (with_reducible refine (hIs _ (by assumption) (by assumption)).mono ?_); rintro e w' ⟨rfl, rfl⟩) | go_in)
            go_roundw
            case rel => exact ⟨k + 1, by omega, by go_num, put_off (by omega) H1.out, put_off (by omega) H2.out, put_cnt ha hb hlt HR.out rfl HS0.out.symm H3.out, put_off (by omega) H4.out, bel_cell _ (by simp; omega) H5.out⟩
            case measure => simp [intOf]; omega
      · obtain rfl : k = 64 := by omega
        rw [(cells_all a ha b hb).1, show plate a b (mapC a b (screenF F) (fun _ => 0) (a * b)) = plate a b (mapA a b (screenF F) (fun _ => 0)) from mapC_end ha hb _ _ _] at h3
        have H5 := Lib.hid h5
        have hz5 := h5.size
        clear h5
        go_wp2_with (first | (go_at_call 45; (with_reducible refine (specPOk_any a b F _ (by omega) (by omega) (by omega) (by omega) _ ?_).mono ?_); (focus (repeat (first | (with_reducible assumption) | ((with_reducible refine blk_new _ _ _ ?_); focus (simp; done)) | ((with_reducible refine blk_old _ _ _ ?_ ?_); focus (simp; done)) | ((with_reducible refine blk_old _ _ _ ?_ ?_); focus (first | omega | (simp; omega))) | ((with_reducible apply blk_set); focus (simp; done)) | ((with_reducible refine blk_off _ _ _ _ ?_ ?_); focus (simp; done)) | ((with_reducible refine blk_offc _ _ _ _ ?_ ?_); focus (first | (simp; done) | omega | (simp; omega))) | ((with_reducible refine blk_off _ _ _ _ ?_ ?_); focus (first | omega | (simp; omega))) | (with_reducible refine blk_drew _ _ ?_) | ((with_reducible refine blk_below (by assumption) ?_ ?_); focus (simp; done)) | ((with_reducible refine blk_below (by assumption) ?_ ?_); focus (first | omega | (simp; omega)))))); rintro e w' ⟨rfl, rfl⟩) | ((with_reducible refine at_store 29 ?_); refine wpList_store_part rfl 29 _ _ rfl _ 0 _ rfl rfl _ _ (by repeat (first | (with_reducible assumption) | ((with_reducible refine blk_new _ _ _ ?_); focus (simp; done)) | ((with_reducible refine blk_old _ _ _ ?_ ?_); focus (simp; done)) | ((with_reducible refine blk_old _ _ _ ?_ ?_); focus (first | omega | (simp; omega))) | ((with_reducible apply blk_set); focus (simp; done)) | ((with_reducible refine blk_off _ _ _ _ ?_ ?_); focus (simp; done)) | ((with_reducible refine blk_offc _ _ _ _ ?_ ?_); focus (first | (simp; done) | omega | (simp; omega))) | ((with_reducible refine blk_off _ _ _ _ ?_ ?_); focus (first | omega | (simp; omega))) | (with_reducible refine blk_drew _ _ ?_) | ((with_reducible refine blk_below (by assumption) ?_ ?_); focus (simp; done)) | ((with_reducible refine blk_below (by assumption) ?_ ?_); focus (first | omega | (simp; omega))))) (by rw [row_size]; kernel_rfl) (by simp [row_size]) (row_cells _ _ _ rfl) _ (row_over _ _ 64 _ _ (by simp)) ?_) | ((with_reducible refine at_load 29 ?_); refine wpList_load_part rfl 29 _ rfl _ 0 66 rfl _ _ _ _ (by repeat (first | (with_reducible assumption) | ((with_reducible refine blk_new _ _ _ ?_); focus (simp; done)) | ((with_reducible refine blk_old _ _ _ ?_ ?_); focus (simp; done)) | ((with_reducible refine blk_old _ _ _ ?_ ?_); focus (first | omega | (simp; omega))) | ((with_reducible apply blk_set); focus (simp; done)) | ((with_reducible refine blk_off _ _ _ _ ?_ ?_); focus (simp; done)) | ((with_reducible refine blk_offc _ _ _ _ ?_ ?_); focus (first | (simp; done) | omega | (simp; omega))) | ((with_reducible refine blk_off _ _ _ _ ?_ ?_); focus (first | omega | (simp; omega))) | (with_reducible refine blk_drew _ _ ?_) | ((with_reducible refine blk_below (by assumption) ?_ ?_); focus (simp; done)) | ((with_reducible refine blk_below (by assumption) ?_ ?_); focus (first | omega | (simp; omega))))) Tryz.underlying29 rfl (by kernel_rfl) (by simp [row_size]) _ (row_all [_, _] 64 _) ?_) | go_in)
        have h5 := H5.out
        refine bodyPost_ret (v := .tuple #[.agg (plate a b (mapA a b (screenF F) (fun _ => 0))), .int .i64 0]) ?_ ?_ ?_
        · refine results_row_tmp Tryz.results23 _ _ _ 29 (plate a b (mapA a b (screenF F) (fun _ => 0))) (0, 0) _ _ rfl rfl ?_ Tryz.underlying29 rfl (by simp only [row_size]; kernel_rfl)
          exact (by repeat (first | (with_reducible assumption) | ((with_reducible refine blk_new _ _ _ ?_); focus (simp; done)) | ((with_reducible refine blk_old _ _ _ ?_ ?_); focus (simp; done)) | ((with_reducible refine blk_old _ _ _ ?_ ?_); focus (first | omega | (simp; omega))) | ((with_reducible apply blk_set); focus (simp; done)) | ((with_reducible refine blk_off _ _ _ _ ?_ ?_); focus (simp; done)) | ((with_reducible refine blk_offc _ _ _ _ ?_ ?_); focus (first | (simp; done) | omega | (simp; omega))) | ((with_reducible refine blk_off _ _ _ _ ?_ ?_); focus (first | omega | (simp; omega))) | (with_reducible refine blk_drew _ _ ?_) | ((with_reducible refine blk_below (by assumption) ?_ ?_); focus (simp; done)) | ((with_reducible refine blk_below (by assumption) ?_ ?_); focus (first | omega | (simp; omega)))))
        · rfl
        · exact ⟨rfl, (by repeat (first | (with_reducible assumption) | (with_reducible exact Below.refl _ _) | ((with_reducible refine bel_alloc _ ?_ ?_); focus (first | omega | (simp; done) | (simp; omega))) | ((with_reducible refine bel_row _ ?_ ?_); focus (first | omega | (simp; done) | (simp; omega))) | ((with_reducible refine bel_cell _ ?_ ?_); focus (first | omega | (simp; done) | (simp; omega))) | (with_reducible refine Below.drew ?_) | (with_reducible refine below_wideW _ ?_) | ((with_reducible refine bel_next (by assumption) ?_ ?_); focus (first | omega | (simp; done) | (simp; omega)))))⟩

theorem giveScreen {a b : Nat} {F : Nat → Nat} {B : Nat} (ha : a < 9) (hb : b < 9) (w : World) (hB : B < w.heap.size) (hp : w.heap[B]? = some (.cells tabD 88 (0, 0))) : GivesDots Tryz.prog 61 #[.pointer (some ⟨B, 0, none⟩)] a b F (screenF F) w := by
  intro n W hn hbw
  have h64 := (cells_all a ha b hb).2
  obtain ⟨q1, q2, q3⟩ := cells_of a ha b hb n (by omega) hn
  obtain ⟨k, hk⟩ : ∃ k, k = cellAt a n := ⟨_, rfl⟩
  rw [← hk] at q1
  have h1 : W.heap[B]? = some (.cells tabD 88 (0, 0)) := (hbw.block B hB).trans hp
  show Calls Tryz.prog 61 #[.int .i64 (cellAt a n : Nat), .float .f32 (F (cellAt a n)), .pointer (some ⟨B, 0, none⟩)] W fun e w' => e = .returned (.float .f32 (screenF F (cellAt a n))) ∧ ∃ m, w' = W.drewN m
  rw [← hk]
  have ct : W.cell? ⟨B, k / 8 % 4 * 4 + k % 4, none⟩ = some (.float .f32 (tabB (tIdx k))) := (cell_of_row W _ _ _ _ _ h1).trans (by rw [show k / 8 % 4 * 4 + k % 4 = tIdx k from by unfold tIdx; omega]; exact tabD_at _ (tIdx_lt k))
  obtain ⟨t1, t2⟩ := tab_fin (tIdx k) (tIdx_lt k)
  have hscr : screenF F k = if FloatKind.f32.format.order (F k) (thr (tIdx k)) == some .gt then 1065353216 else 0 := rfl
  unfold thr at hscr
  obtain ⟨tv, htv⟩ : ∃ tv, tv = tabB (tIdx k) := ⟨_, rfl⟩
  rw [← htv] at t1 t2 hscr ct
  have e1 := fun w => run_fadd (P := Tryz.prog) w 25 t1 f_half
  have e2 := fun w => run_fdiv (P := Tryz.prog) w 25 t2 f_16 Z_16s
  have k0 : (0 : Int) ≤ k := by omega
  have k64 : (k : Int) < 64 := by omega
  have x1 : ((k : Int) / 8 % 4).toNat = k / 8 % 4 := by omega
  have x2 : ((k : Int) % 8 % 4).toNat = k % 8 % 4 := by omega
  have y1 : (0 : Int) ≤ (k : Int) / 8 % 4 := by omega
  have y2 : (k : Int) / 8 % 4 < 4 := by omega
  have y3 : (0 : Int) ≤ (k : Int) % 8 % 4 := by omega
  have y4 : (k : Int) % 8 % 4 < 4 := by omega
  have y5 : (0 : Int) ≤ (k : Int) / 8 := by omega
  have y6 : (0 : Int) ≤ (k : Int) % 8 := by omega
  cases hgt : (FloatKind.f32.format.order (F k) (fdiv (fadd tv 1056964608) 1098907648) == some .gt)
  all_goals
    rw [hgt] at hscr
    have HSC := Lib.hid hscr
    clear hk htv t1 t2 hscr h1 hn hbw h64 q1 q2 q3 hB hp
    go_enter Tryz.func61, Tryz.ntmps61
    go_wp2
    go_ret
    exact ⟨by rw [HSC.out]; rfl, 0, rfl⟩

set_option maxRecDepth 100000 in
set_option maxHeartbeats 3200000 in
theorem implScreen_any (x y : Int) (F : Nat → Nat) (w : World) (lx : -128 ≤ x) (ux : x ≤ 127) (ly : -128 ≤ y) (uy : y ≤ 127) : Calls Tryz.prog 22 #[.agg (plate x y F)] w fun e w' => e = .returned (.tuple #[.agg (if plateB x y F then plate x y (mapA x.toNat y.toNat (screenF F) (fun _ => 0)) else plate 0 0 (fun _ => 0)), .int .i64 (if plateB x y F then 0 else 1)]) ∧ Below w.heap.size w w' := by
  have hz : Tryz.zeroCells29 = row [.int .i8 0, .int .i8 0] 64 (fun _ => 0) := rfl
  cases ho : plateB x y F
  · go_enter Tryz.func22, Tryz.ntmps22
    go_wp2_with (first | (go_at_call 16; (with_reducible refine (implPOk_any x y F _ lx ux ly uy).mono ?_); rintro e w1 ⟨rfl, hb1⟩; have hz1 := hb1.size; (try simp at hz1); obtain ⟨hc1, hf1⟩ := bcell hb1) | ((with_reducible refine at_store 29 ?_); refine wpList_store_part rfl 29 _ _ rfl _ 0 _ rfl rfl _ _ (by repeat (first | (with_reducible assumption) | ((with_reducible refine blk_new _ _ _ ?_); focus (simp; done)) | ((with_reducible refine blk_old _ _ _ ?_ ?_); focus (simp; done)) | ((with_reducible refine blk_old _ _ _ ?_ ?_); focus (first | omega | (simp; omega))) | ((with_reducible apply blk_set); focus (simp; done)) | ((with_reducible refine blk_off _ _ _ _ ?_ ?_); focus (simp; done)) | ((with_reducible refine blk_offc _ _ _ _ ?_ ?_); focus (first | (simp; done) | omega | (simp; omega))) | ((with_reducible refine blk_off _ _ _ _ ?_ ?_); focus (first | omega | (simp; omega))) | (with_reducible refine blk_drew _ _ ?_) | ((with_reducible refine blk_below (by assumption) ?_ ?_); focus (simp; done)) | ((with_reducible refine blk_below (by assumption) ?_ ?_); focus (first | omega | (simp; omega))))) (by rw [row_size]; kernel_rfl) (by simp [row_size]) (row_cells _ _ _ rfl) _ (row_over _ _ 64 _ _ (by simp)) ?_) | ((with_reducible refine at_load 29 ?_); refine wpList_load_part rfl 29 _ rfl _ 0 66 rfl _ _ _ _ (by repeat (first | (with_reducible assumption) | ((with_reducible refine blk_new _ _ _ ?_); focus (simp; done)) | ((with_reducible refine blk_old _ _ _ ?_ ?_); focus (simp; done)) | ((with_reducible refine blk_old _ _ _ ?_ ?_); focus (first | omega | (simp; omega))) | ((with_reducible apply blk_set); focus (simp; done)) | ((with_reducible refine blk_off _ _ _ _ ?_ ?_); focus (simp; done)) | ((with_reducible refine blk_offc _ _ _ _ ?_ ?_); focus (first | (simp; done) | omega | (simp; omega))) | ((with_reducible refine blk_off _ _ _ _ ?_ ?_); focus (first | omega | (simp; omega))) | (with_reducible refine blk_drew _ _ ?_) | ((with_reducible refine blk_below (by assumption) ?_ ?_); focus (simp; done)) | ((with_reducible refine blk_below (by assumption) ?_ ?_); focus (first | omega | (simp; omega))))) Tryz.underlying29 rfl (by kernel_rfl) (by simp [row_size]) _ (row_all [_, _] 64 _) ?_) | go_in)
    refine bodyPost_ret (v := .tuple #[.agg (plate 0 0 (fun _ => 0)), .int .i64 1]) ?_ ?_ ?_
    · refine results_row_tmp Tryz.results22 _ _ _ 29 (plate 0 0 (fun _ => 0)) (0, 0) _ _ rfl rfl ?_ Tryz.underlying29 rfl (by simp only [row_size]; kernel_rfl)
      exact (by repeat (first | (with_reducible assumption) | ((with_reducible refine blk_new _ _ _ ?_); focus (simp; done)) | ((with_reducible refine blk_old _ _ _ ?_ ?_); focus (simp; done)) | ((with_reducible refine blk_old _ _ _ ?_ ?_); focus (first | omega | (simp; omega))) | ((with_reducible apply blk_set); focus (simp; done)) | ((with_reducible refine blk_off _ _ _ _ ?_ ?_); focus (simp; done)) | ((with_reducible refine blk_offc _ _ _ _ ?_ ?_); focus (first | (simp; done) | omega | (simp; omega))) | ((with_reducible refine blk_off _ _ _ _ ?_ ?_); focus (first | omega | (simp; omega))) | (with_reducible refine blk_drew _ _ ?_) | ((with_reducible refine blk_below (by assumption) ?_ ?_); focus (simp; done)) | ((with_reducible refine blk_below (by assumption) ?_ ?_); focus (first | omega | (simp; omega)))))
    · rfl
    · exact ⟨rfl, (by repeat (first | (with_reducible assumption) | (with_reducible exact Below.refl _ _) | ((with_reducible refine bel_alloc _ ?_ ?_); focus (first | omega | (simp; done) | (simp; omega))) | ((with_reducible refine bel_row _ ?_ ?_); focus (first | omega | (simp; done) | (simp; omega))) | ((with_reducible refine bel_cell _ ?_ ?_); focus (first | omega | (simp; done) | (simp; omega))) | (with_reducible refine Below.drew ?_) | (with_reducible refine below_wideW _ ?_) | ((with_reducible refine bel_next (by assumption) ?_ ?_); focus (first | omega | (simp; done) | (simp; omega)))))⟩
  · obtain ⟨a, b, rfl, rfl, la, ha, lb, hb, hp, hz0⟩ := plateB_size ho
    have HP := Lib.hid hp
    clear hp hz0
    go_enter Tryz.func22, Tryz.ntmps22
    go_wp2_with (first | (go_at_call 16; (with_reducible refine (implPOk_any a b F _ (by omega) (by omega) (by omega) (by omega)).mono ?_); rintro e w1 ⟨rfl, hb1⟩; have hz1 := hb1.size; (try simp at hz1); obtain ⟨hc1, hf1⟩ := bcell hb1) | ((with_reducible refine at_store 29 ?_); refine wpList_store_part rfl 29 _ _ rfl _ 0 _ rfl rfl _ _ (by repeat (first | (with_reducible assumption) | ((with_reducible refine blk_new _ _ _ ?_); focus (simp; done)) | ((with_reducible refine blk_old _ _ _ ?_ ?_); focus (simp; done)) | ((with_reducible refine blk_old _ _ _ ?_ ?_); focus (first | omega | (simp; omega))) | ((with_reducible apply blk_set); focus (simp; done)) | ((with_reducible refine blk_off _ _ _ _ ?_ ?_); focus (simp; done)) | ((with_reducible refine blk_offc _ _ _ _ ?_ ?_); focus (first | (simp; done) | omega | (simp; omega))) | ((with_reducible refine blk_off _ _ _ _ ?_ ?_); focus (first | omega | (simp; omega))) | (with_reducible refine blk_drew _ _ ?_) | ((with_reducible refine blk_below (by assumption) ?_ ?_); focus (simp; done)) | ((with_reducible refine blk_below (by assumption) ?_ ?_); focus (first | omega | (simp; omega))))) (by rw [row_size]; kernel_rfl) (by simp [row_size]) (row_cells _ _ _ rfl) _ (row_over _ _ 64 _ _ (by simp)) ?_) | ((with_reducible refine at_load 29 ?_); refine wpList_load_part rfl 29 _ rfl _ 0 66 rfl _ _ _ _ (by repeat (first | (with_reducible assumption) | ((with_reducible refine blk_new _ _ _ ?_); focus (simp; done)) | ((with_reducible refine blk_old _ _ _ ?_ ?_); focus (simp; done)) | ((with_reducible refine blk_old _ _ _ ?_ ?_); focus (first | omega | (simp; omega))) | ((with_reducible apply blk_set); focus (simp; done)) | ((with_reducible refine blk_off _ _ _ _ ?_ ?_); focus (simp; done)) | ((with_reducible refine blk_offc _ _ _ _ ?_ ?_); focus (first | (simp; done) | omega | (simp; omega))) | ((with_reducible refine blk_off _ _ _ _ ?_ ?_); focus (first | omega | (simp; omega))) | (with_reducible refine blk_drew _ _ ?_) | ((with_reducible refine blk_below (by assumption) ?_ ?_); focus (simp; done)) | ((with_reducible refine blk_below (by assumption) ?_ ?_); focus (first | omega | (simp; omega))))) Tryz.underlying29 rfl (by kernel_rfl) (by simp [row_size]) _ (row_all [_, _] 64 _) ?_) | (go_at_call 43; (with_reducible refine (freshDots_any 61 #[.pointer (some ⟨w1.heap.size, 0, none⟩)] (fun args w => by kernel_rfl) a b la ha lb hb F (screenF F) _ (giveScreen ha hb _ (by first | omega | (simp; done) | (simp; omega)) (by unfold tabD; repeat (first | (with_reducible assumption) | ((with_reducible refine blk_new _ _ _ ?_); focus (simp; done)) | ((with_reducible refine blk_old _ _ _ ?_ ?_); focus (simp; done)) | ((with_reducible refine blk_old _ _ _ ?_ ?_); focus (first | omega | (simp; omega))) | ((with_reducible apply blk_set); focus (simp; done)) | ((with_reducible refine blk_off _ _ _ _ ?_ ?_); focus (simp; done)) | ((with_reducible refine blk_offc _ _ _ _ ?_ ?_); focus (first | (simp; done) | omega | (simp; omega))) | ((with_reducible refine blk_off _ _ _ _ ?_ ?_); focus (first | omega | (simp; omega))) | (with_reducible refine blk_drew _ _ ?_) | ((with_reducible refine blk_below (by assumption) ?_ ?_); focus (simp; done)) | ((with_reducible refine blk_below (by assumption) ?_ ?_); focus (first | omega | (simp; omega))))))).mono ?_); rintro e w2 ⟨rfl, hb2⟩; have hz2 := hb2.size; (try simp at hz2)) | go_in)
    refine bodyPost_ret (v := .tuple #[.agg (plate a b (mapA a b (screenF F) (fun _ => 0))), .int .i64 0]) ?_ ?_ ?_
    · refine results_row_tmp Tryz.results22 _ _ _ 29 (plate a b (mapA a b (screenF F) (fun _ => 0))) (0, 0) _ _ rfl rfl ?_ Tryz.underlying29 rfl (by simp only [row_size]; kernel_rfl)
      exact (by repeat (first | (with_reducible assumption) | ((with_reducible refine blk_new _ _ _ ?_); focus (simp; done)) | ((with_reducible refine blk_old _ _ _ ?_ ?_); focus (simp; done)) | ((with_reducible refine blk_old _ _ _ ?_ ?_); focus (first | omega | (simp; omega))) | ((with_reducible apply blk_set); focus (simp; done)) | ((with_reducible refine blk_off _ _ _ _ ?_ ?_); focus (simp; done)) | ((with_reducible refine blk_offc _ _ _ _ ?_ ?_); focus (first | (simp; done) | omega | (simp; omega))) | ((with_reducible refine blk_off _ _ _ _ ?_ ?_); focus (first | omega | (simp; omega))) | (with_reducible refine blk_drew _ _ ?_) | ((with_reducible refine blk_below (by assumption) ?_ ?_); focus (simp; done)) | ((with_reducible refine blk_below (by assumption) ?_ ?_); focus (first | omega | (simp; omega)))))
    · rfl
    · exact ⟨rfl, (by repeat (first | (with_reducible assumption) | (with_reducible exact Below.refl _ _) | ((with_reducible refine bel_alloc _ ?_ ?_); focus (first | omega | (simp; done) | (simp; omega))) | ((with_reducible refine bel_row _ ?_ ?_); focus (first | omega | (simp; done) | (simp; omega))) | ((with_reducible refine bel_cell _ ?_ ?_); focus (first | omega | (simp; done) | (simp; omega))) | (with_reducible refine Below.drew ?_) | (with_reducible refine below_wideW _ ?_) | ((with_reducible refine bel_next (by assumption) ?_ ?_); focus (first | omega | (simp; done) | (simp; omega)))))⟩

end Go.Proofs.YtekfmjddlemboaaGreatDoor
