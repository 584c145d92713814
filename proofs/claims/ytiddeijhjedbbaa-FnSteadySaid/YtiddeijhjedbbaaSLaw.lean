/- The walk through FnSteady; under its own premises. -/
import Derived.Test.YtiddeijhjedbbaaSR38
import Derived.Test.YtiddeijhjedbbaaMB
import Derived.Deep.CutBlock
import Derived.Deep.CutRange
set_option linter.unusedVariables false
set_option linter.unusedSimpArgs false
namespace Go.Proofs.Ytiddeijhjedbbaa
open Go.RowKit Ieee

set_option maxRecDepth 100000 in
set_option maxHeartbeats 6400000 in
theorem steady_any (ao ao' : Option Addr) (n cap n' cap' : Nat) (w : World) (hy : BytesAt w w.heap.size ao n) (hy' : BytesAt w w.heap.size ao' n') :
    Calls Try.prog 3 #[.slice ao n cap, .slice ao' n' cap'] w fun e w' => e = .returned (.bool true) ∧ Below w.heap.size w w' := by
  have hz : (#[Value.int IntKind.i8 0, Value.float FloatKind.f32 0, Value.float FloatKind.f32 0, Value.float FloatKind.f32 0, Value.float FloatKind.f32 0, Value.float FloatKind.f32 0, Value.float FloatKind.f32 0, Value.float FloatKind.f32 0, Value.float FloatKind.f32 0, Value.float FloatKind.f32 0, Value.float FloatKind.f32 0, Value.float FloatKind.f32 0, Value.float FloatKind.f32 0, Value.float FloatKind.f32 0, Value.float FloatKind.f32 0] : Array Value) = row [Value.int IntKind.i8 0, Value.float FloatKind.f32 0, Value.float FloatKind.f32 0] 12 (fun _ => 0) := rfl
  have hLong := fun w => a2Long_any ao ao' n cap n' cap' w hy.1 hy'.1
  cases hL : (decide (3000 < n) || decide (3000 < n'))
  · rw [hL] at hLong
    go_enter Try.func3, Try.ntmps3
    go_wp2_with (go_at_call 4; (with_reducible refine (hLong _).mono ?_); rintro e w' ⟨rfl, rfl⟩)
    refine (a2train_any ao n cap _ hy).mono ?_
    rintro e w1 ⟨r, s, t, F, rfl, hS, hb1⟩
    have hz1 := hb1.size
    go_wp2_with (first | ((with_reducible refine at_store 28 ?_); refine wpList_store_part rfl 28 _ _ rfl _ 0 _ rfl rfl _ _ (by first | (with_reducible assumption) | (with_reducible exact blk_new _ _ _ rfl) | (with_reducible exact chainN _ _ _ _) | (with_reducible exact chain1 (by assumption)) | (with_reducible exact old0 (by assumption) (by assumption)) | (with_reducible exact old1 (by assumption) (by assumption)) | (with_reducible exact new1 (by assumption))) (by rw [row_size]; kernel_rfl) (by simp [row_size]) (row_cells _ _ _ rfl) _ (row_over _ _ 12 _ _ (by simp)) ?_))
    refine (a2film_any ao' n' cap' _ (bytes_wide (bytes_below (b := w.heap.size) (by first | (with_reducible assumption) | (with_reducible exact bel0 (by assumption) (by assumption) hB.size) | (with_reducible exact bel1 (by assumption) (by assumption) hB.size) | (repeat (first | (with_reducible assumption) | (with_reducible exact Below.refl _ _) | ((with_reducible refine bel_alloc _ ?_ ?_); focus (first | omega | (simp; done) | (simp; omega))) | ((with_reducible refine bel_row _ ?_ ?_); focus (first | omega | (simp; done) | (simp; omega))) | ((with_reducible refine bel_cell _ ?_ ?_); focus (first | omega | (simp; done) | (simp; omega))) | (with_reducible refine Below.drew ?_) | (with_reducible refine below_wideW _ ?_) | ((with_reducible refine bel_next (by assumption) ?_ ?_); focus (first | omega | (simp; done) | (simp; omega)))))) hy') (by simp; omega))).mono ?_
    rintro e w2 ⟨fed, rfl, hfed, hb2⟩
    have h5 : w2.heap[w1.heap.size]? = some (.cells (train r s t F) 28 (0, 0)) := (by first | (with_reducible assumption) | (with_reducible exact blk_new _ _ _ rfl) | (with_reducible exact chainN _ _ _ _) | (with_reducible exact chain1 (by assumption)) | (with_reducible exact old0 (by assumption) (by assumption)) | (with_reducible exact old1 (by assumption) (by assumption)) | (with_reducible exact new1 (by assumption)))
    have hB : Below w.heap.size w w2 := (by first | (with_reducible assumption) | (with_reducible exact bel0 (by assumption) (by assumption) hB.size) | (with_reducible exact bel1 (by assumption) (by assumption) hB.size) | (repeat (first | (with_reducible assumption) | (with_reducible exact Below.refl _ _) | ((with_reducible refine bel_alloc _ ?_ ?_); focus (first | omega | (simp; done) | (simp; omega))) | ((with_reducible refine bel_row _ ?_ ?_); focus (first | omega | (simp; done) | (simp; omega))) | ((with_reducible refine bel_cell _ ?_ ?_); focus (first | omega | (simp; done) | (simp; omega))) | (with_reducible refine Below.drew ?_) | (with_reducible refine below_wideW _ ?_) | ((with_reducible refine bel_next (by assumption) ?_ ?_); focus (first | omega | (simp; done) | (simp; omega))))))
    have hz2 := hb2.size
    simp at hz2
    clear hb1 hb2
    generalize w1.heap.size = g5 at *
    go_wp2_with (fail)
    refine (a2part_any ao' n' cap' _ (bytes_wide (bytes_below (b := w.heap.size) hB hy') (by omega))).mono ?_
    rintro e w3 ⟨cov, rfl, hcov, hb3⟩
    have hg5 : w3.heap[g5]? = some (.cells (train r s t F) 28 (0, 0)) := (by first | (with_reducible assumption) | (with_reducible exact blk_new _ _ _ rfl) | (with_reducible exact chainN _ _ _ _) | (with_reducible exact chain1 (by assumption)) | (with_reducible exact old0 (by assumption) (by assumption)) | (with_reducible exact old1 (by assumption) (by assumption)) | (with_reducible exact new1 (by assumption)))
    have hB' : Below w.heap.size w w3 := (by first | (with_reducible assumption) | (with_reducible exact bel0 (by assumption) (by assumption) hB.size) | (with_reducible exact bel1 (by assumption) (by assumption) hB.size) | (repeat (first | (with_reducible assumption) | (with_reducible exact Below.refl _ _) | ((with_reducible refine bel_alloc _ ?_ ?_); focus (first | omega | (simp; done) | (simp; omega))) | ((with_reducible refine bel_row _ ?_ ?_); focus (first | omega | (simp; done) | (simp; omega))) | ((with_reducible refine bel_cell _ ?_ ?_); focus (first | omega | (simp; done) | (simp; omega))) | (with_reducible refine Below.drew ?_) | (with_reducible refine below_wideW _ ?_) | ((with_reducible refine bel_next (by assumption) ?_ ?_); focus (first | omega | (simp; done) | (simp; omega))))))
    have hz3 := hb3.size
    clear hb3 h5 hB
    have hB := hB'
    clear hB'
    generalize w2.heap.size = z2 at *
    have lr := hS.h2
    have ur := hS.h6
    obtain ⟨A, hA⟩ : ∃ A, thickAt F r.toNat = A := ⟨_, rfl⟩
    have hAr : (A : Int) < r := by have := thickAt_lt F r.toNat (by omega); rw [hA] at this; omega
    have cThick : ∀ w, Calls Try.prog 16 #[.agg (train r s t F)] w fun e w' => e = .returned (.tuple #[.int .i64 (A : Nat), .float .f32 (F A), .int .i64 0]) ∧ Below w.heap.size w w' := fun w => by
      have := thickI hS w
      rwa [hA] at this
    obtain ⟨R, S, T', G, N, C, hcase, cuI, cuS⟩ := until_both hS hfed hcov
    go_wp2_with (first | ((with_reducible refine at_load 28 ?_); refine wpList_load_part rfl 28 _ rfl _ 0 15 rfl _ _ _ _ (by first | (with_reducible assumption) | (with_reducible exact blk_new _ _ _ rfl) | (with_reducible exact chainN _ _ _ _) | (with_reducible exact chain1 (by assumption)) | (with_reducible exact old0 (by assumption) (by assumption)) | (with_reducible exact old1 (by assumption) (by assumption)) | (with_reducible exact new1 (by assumption))) Try.underlying28 rfl (by kernel_rfl) (by simp [row_size]) _ (row_all [_, _, _] 12 _) ?_) | ((with_reducible refine at_store 28 ?_); refine wpList_store_part rfl 28 _ _ rfl _ 0 _ rfl rfl _ _ (by first | (with_reducible assumption) | (with_reducible exact blk_new _ _ _ rfl) | (with_reducible exact chainN _ _ _ _) | (with_reducible exact chain1 (by assumption)) | (with_reducible exact old0 (by assumption) (by assumption)) | (with_reducible exact old1 (by assumption) (by assumption)) | (with_reducible exact new1 (by assumption))) (by rw [row_size]; kernel_rfl) (by simp [row_size]) (row_cells _ _ _ rfl) _ (row_over _ _ 12 _ _ (by simp)) ?_))
    refine (cuI _).mono ?_
    rintro e w4 ⟨rfl, hb⟩
    have hg5' : w4.heap[g5]? = some (.cells (train r s t F) 28 (0, 0)) := (by first | (with_reducible assumption) | (with_reducible exact blk_new _ _ _ rfl) | (with_reducible exact chainN _ _ _ _) | (with_reducible exact chain1 (by assumption)) | (with_reducible exact old0 (by assumption) (by assumption)) | (with_reducible exact old1 (by assumption) (by assumption)) | (with_reducible exact new1 (by assumption)))
    have hB' : Below w.heap.size w w4 := (by first | (with_reducible assumption) | (with_reducible exact bel0 (by assumption) (by assumption) hB.size) | (with_reducible exact bel1 (by assumption) (by assumption) hB.size) | (with_reducible exact belr hB hB.size))
    have hz4 := hb.size
    try simp at hz4
    clear hB hb hg5 
    generalize hgz3 : w3.heap.size = z3 at *
    clear hgz3
    have hB := hB'; clear hB'
    have hg5 := hg5'; clear hg5'
    go_wp2_with (first | ((with_reducible refine at_load 28 ?_); refine wpList_load_part rfl 28 _ rfl _ 0 15 rfl _ _ _ _ (by first | (with_reducible assumption) | (with_reducible exact blk_new _ _ _ rfl) | (with_reducible exact chainN _ _ _ _) | (with_reducible exact chain1 (by assumption)) | (with_reducible exact old0 (by assumption) (by assumption)) | (with_reducible exact old1 (by assumption) (by assumption)) | (with_reducible exact new1 (by assumption))) Try.underlying28 rfl (by kernel_rfl) (by simp [row_size]) _ (row_all [_, _, _] 12 _) ?_) | ((with_reducible refine at_store 28 ?_); refine wpList_store_part rfl 28 _ _ rfl _ 0 _ rfl rfl _ _ (by first | (with_reducible assumption) | (with_reducible exact blk_new _ _ _ rfl) | (with_reducible exact chainN _ _ _ _) | (with_reducible exact chain1 (by assumption)) | (with_reducible exact old0 (by assumption) (by assumption)) | (with_reducible exact old1 (by assumption) (by assumption)) | (with_reducible exact new1 (by assumption))) (by rw [row_size]; kernel_rfl) (by simp [row_size]) (row_cells _ _ _ rfl) _ (row_over _ _ 12 _ _ (by simp)) ?_))
    refine (cuS _).mono ?_
    rintro e w5 ⟨rfl, hb⟩
    have hg5' : w5.heap[g5]? = some (.cells (train r s t F) 28 (0, 0)) := (by first | (with_reducible assumption) | (with_reducible exact blk_new _ _ _ rfl) | (with_reducible exact chainN _ _ _ _) | (with_reducible exact chain1 (by assumption)) | (with_reducible exact old0 (by assumption) (by assumption)) | (with_reducible exact old1 (by assumption) (by assumption)) | (with_reducible exact new1 (by assumption)))
    have hg8' : w5.heap[w4.heap.size]? = some (.cells (train R S T' G) 28 (0, 0)) := (by first | (with_reducible assumption) | (with_reducible exact blk_new _ _ _ rfl) | (with_reducible exact chainN _ _ _ _) | (with_reducible exact chain1 (by assumption)) | (with_reducible exact old0 (by assumption) (by assumption)) | (with_reducible exact old1 (by assumption) (by assumption)) | (with_reducible exact new1 (by assumption)))
    have hB' : Below w.heap.size w w5 := (by first | (with_reducible assumption) | (with_reducible exact bel0 (by assumption) (by assumption) hB.size) | (with_reducible exact bel1 (by assumption) (by assumption) hB.size) | (with_reducible exact belr hB hB.size))
    have hz5 := hb.size
    try simp at hz5
    clear hB hb hg5 
    generalize hgg8 : w4.heap.size = g8 at *
    clear hgg8
    have hB := hB'; clear hB'
    have hg5 := hg5'; clear hg5'
    have hg8 := hg8'; clear hg8'
    go_upto_region 8 with (first | ((with_reducible refine at_load 28 ?_); refine wpList_load_part rfl 28 _ rfl _ 0 15 rfl _ _ _ _ (by first | (with_reducible assumption) | (with_reducible exact blk_new _ _ _ rfl) | (with_reducible exact chainN _ _ _ _) | (with_reducible exact chain1 (by assumption)) | (with_reducible exact old0 (by assumption) (by assumption)) | (with_reducible exact old1 (by assumption) (by assumption)) | (with_reducible exact new1 (by assumption))) Try.underlying28 rfl (by kernel_rfl) (by simp [row_size]) _ (row_all [_, _, _] 12 _) ?_) | ((with_reducible refine at_store 28 ?_); refine wpList_store_part rfl 28 _ _ rfl _ 0 _ rfl rfl _ _ (by first | (with_reducible assumption) | (with_reducible exact blk_new _ _ _ rfl) | (with_reducible exact chainN _ _ _ _) | (with_reducible exact chain1 (by assumption)) | (with_reducible exact old0 (by assumption) (by assumption)) | (with_reducible exact old1 (by assumption) (by assumption)) | (with_reducible exact new1 (by assumption))) (by rw [row_size]; kernel_rfl) (by simp [row_size]) (row_cells _ _ _ rfl) _ (row_over _ _ 12 _ _ (by simp)) ?_))
    generalize hw : World.setRow _ _ _ = w6
    have hz6 : w5.heap.size + 1 ≤ w6.heap.size := by rw [← hw]; simp
    have hg5' : w6.heap[g5]? = some (.cells (train r s t F) 28 (0, 0)) := by rw [← hw]; exact (by first | (with_reducible assumption) | (with_reducible exact blk_new _ _ _ rfl) | (with_reducible exact chainN _ _ _ _) | (with_reducible exact chain1 (by assumption)) | (with_reducible exact old0 (by assumption) (by assumption)) | (with_reducible exact old1 (by assumption) (by assumption)) | (with_reducible exact new1 (by assumption)))
    have hg8' : w6.heap[g8]? = some (.cells (train R S T' G) 28 (0, 0)) := by rw [← hw]; exact (by first | (with_reducible assumption) | (with_reducible exact blk_new _ _ _ rfl) | (with_reducible exact chainN _ _ _ _) | (with_reducible exact chain1 (by assumption)) | (with_reducible exact old0 (by assumption) (by assumption)) | (with_reducible exact old1 (by assumption) (by assumption)) | (with_reducible exact new1 (by assumption)))
    have hg11' : w6.heap[w5.heap.size]? = some (.cells (train R S T' G) 28 (0, 0)) := by rw [← hw]; exact (by first | (with_reducible assumption) | (with_reducible exact blk_new _ _ _ rfl) | (with_reducible exact chainN _ _ _ _) | (with_reducible exact chain1 (by assumption)) | (with_reducible exact old0 (by assumption) (by assumption)) | (with_reducible exact old1 (by assumption) (by assumption)) | (with_reducible exact new1 (by assumption)))
    have hB' : Below w.heap.size w w6 := by rw [← hw]; exact (by first | (with_reducible assumption) | (with_reducible exact bel0 (by assumption) (by assumption) hB.size) | (with_reducible exact bel1 (by assumption) (by assumption) hB.size) | (with_reducible exact belr hB hB.size))
    clear hw
    clear hB  hg5 hg8 
    generalize hgg11 : w5.heap.size = g11 at *
    clear hgg11
    have hB := hB'; clear hB'
    have hg5 := hg5'; clear hg5'
    have hg8 := hg8'; clear hg8'
    have hg11 := hg11'; clear hg11'
    go_cut [104] from 83 to 104 (fun s104 wx => s104 = .bool false ∧ wx.heap[g5]? = some (.cells (train r s t F) 28 (0, 0)) ∧ wx.heap[g11]? = some (.cells (train R S T' G) 28 (0, 0)) ∧ Below w.heap.size w wx ∧ w6.heap.size ≤ wx.heap.size)
    case first =>
      rcases hcase with ⟨rfl, _⟩ | rfl
      · skip
        go_wp2_with (first | ((with_reducible refine at_load 28 ?_); refine wpList_load_part rfl 28 _ rfl _ 0 15 rfl _ _ _ _ (by first | (with_reducible assumption) | (with_reducible exact blk_new _ _ _ rfl) | (with_reducible exact chainN _ _ _ _) | (with_reducible exact chain1 (by assumption)) | (with_reducible exact old0 (by assumption) (by assumption)) | (with_reducible exact old1 (by assumption) (by assumption)) | (with_reducible exact new1 (by assumption))) Try.underlying28 rfl (by kernel_rfl) (by simp [row_size]) _ (row_all [_, _, _] 12 _) ?_) | ((with_reducible refine at_load 28 ?_); refine wpList_load_partg (by first | rfl | (simp only [hff]; rfl) | (go_simp; done)) 28 _ rfl _ 0 15 rfl _ _ _ _ (by first | (with_reducible assumption) | (with_reducible exact blk_new _ _ _ rfl) | (with_reducible exact chainN _ _ _ _) | (with_reducible exact chain1 (by assumption)) | (with_reducible exact old0 (by assumption) (by assumption)) | (with_reducible exact old1 (by assumption) (by assumption)) | (with_reducible exact new1 (by assumption))) Try.underlying28 rfl (by kernel_rfl) (by simp [row_size]) _ (row_all [_, _, _] 12 _) ?_) | ((with_reducible refine at_store 28 ?_); refine wpList_store_part rfl 28 _ _ rfl _ 0 _ rfl rfl _ _ (by first | (with_reducible assumption) | (with_reducible exact blk_new _ _ _ rfl) | (with_reducible exact chainN _ _ _ _) | (with_reducible exact chain1 (by assumption)) | (with_reducible exact old0 (by assumption) (by assumption)) | (with_reducible exact old1 (by assumption) (by assumption)) | (with_reducible exact new1 (by assumption))) (by rw [row_size]; kernel_rfl) (by simp [row_size]) (row_cells _ _ _ rfl) _ (row_over _ _ 12 _ _ (by simp)) ?_))
        refine (sameS (fun _ _ => rfl) _).mono ?_
        rintro e w7 ⟨rfl, hb⟩
        have hg5' : w7.heap[g5]? = some (.cells (train r s t F) 28 (0, 0)) := (by first | (with_reducible assumption) | (with_reducible exact blk_new _ _ _ rfl) | (with_reducible exact chainN _ _ _ _) | (with_reducible exact chain1 (by assumption)) | (with_reducible exact old0 (by assumption) (by assumption)) | (with_reducible exact old1 (by assumption) (by assumption)) | (with_reducible exact new1 (by assumption)))
        have hg8' : w7.heap[g8]? = some (.cells (train R S T' G) 28 (0, 0)) := (by first | (with_reducible assumption) | (with_reducible exact blk_new _ _ _ rfl) | (with_reducible exact chainN _ _ _ _) | (with_reducible exact chain1 (by assumption)) | (with_reducible exact old0 (by assumption) (by assumption)) | (with_reducible exact old1 (by assumption) (by assumption)) | (with_reducible exact new1 (by assumption)))
        have hg11' : w7.heap[g11]? = some (.cells (train R S T' G) 28 (0, 0)) := (by first | (with_reducible assumption) | (with_reducible exact blk_new _ _ _ rfl) | (with_reducible exact chainN _ _ _ _) | (with_reducible exact chain1 (by assumption)) | (with_reducible exact old0 (by assumption) (by assumption)) | (with_reducible exact old1 (by assumption) (by assumption)) | (with_reducible exact new1 (by assumption)))
        have hB' : Below w.heap.size w w7 := (by first | (with_reducible assumption) | (with_reducible exact bel0 (by assumption) (by assumption) hB.size) | (with_reducible exact bel1 (by assumption) (by assumption) hB.size) | (with_reducible exact belr hB hB.size))
        have hz7 := hb.size
        try simp at hz7
        clear hB hb hg5 hg8 hg11 
        generalize hgz6 : w6.heap.size = z6 at *
        clear hgz6
        have hB := hB'; clear hB'
        have hg5 := hg5'; clear hg5'
        have hg8 := hg8'; clear hg8'
        have hg11 := hg11'; clear hg11'
        go_wp2_with (first | ((with_reducible refine at_load 28 ?_); refine wpList_load_part rfl 28 _ rfl _ 0 15 rfl _ _ _ _ (by first | (with_reducible assumption) | (with_reducible exact blk_new _ _ _ rfl) | (with_reducible exact chainN _ _ _ _) | (with_reducible exact chain1 (by assumption)) | (with_reducible exact old0 (by assumption) (by assumption)) | (with_reducible exact old1 (by assumption) (by assumption)) | (with_reducible exact new1 (by assumption))) Try.underlying28 rfl (by kernel_rfl) (by simp [row_size]) _ (row_all [_, _, _] 12 _) ?_) | ((with_reducible refine at_store 28 ?_); refine wpList_store_part rfl 28 _ _ rfl _ 0 _ rfl rfl _ _ (by first | (with_reducible assumption) | (with_reducible exact blk_new _ _ _ rfl) | (with_reducible exact chainN _ _ _ _) | (with_reducible exact chain1 (by assumption)) | (with_reducible exact old0 (by assumption) (by assumption)) | (with_reducible exact old1 (by assumption) (by assumption)) | (with_reducible exact new1 (by assumption))) (by rw [row_size]; kernel_rfl) (by simp [row_size]) (row_cells _ _ _ rfl) _ (row_over _ _ 12 _ _ (by simp)) ?_))
        go_meet
        case rel => exact ⟨rfl, hg5, hg11, hB, by omega⟩
      · skip
        go_wp2_with (first | ((with_reducible refine at_load 28 ?_); refine wpList_load_part rfl 28 _ rfl _ 0 15 rfl _ _ _ _ (by first | (with_reducible assumption) | (with_reducible exact blk_new _ _ _ rfl) | (with_reducible exact chainN _ _ _ _) | (with_reducible exact chain1 (by assumption)) | (with_reducible exact old0 (by assumption) (by assumption)) | (with_reducible exact old1 (by assumption) (by assumption)) | (with_reducible exact new1 (by assumption))) Try.underlying28 rfl (by kernel_rfl) (by simp [row_size]) _ (row_all [_, _, _] 12 _) ?_) | ((with_reducible refine at_load 28 ?_); refine wpList_load_partg (by first | rfl | (simp only [hff]; rfl) | (go_simp; done)) 28 _ rfl _ 0 15 rfl _ _ _ _ (by first | (with_reducible assumption) | (with_reducible exact blk_new _ _ _ rfl) | (with_reducible exact chainN _ _ _ _) | (with_reducible exact chain1 (by assumption)) | (with_reducible exact old0 (by assumption) (by assumption)) | (with_reducible exact old1 (by assumption) (by assumption)) | (with_reducible exact new1 (by assumption))) Try.underlying28 rfl (by kernel_rfl) (by simp [row_size]) _ (row_all [_, _, _] 12 _) ?_) | ((with_reducible refine at_store 28 ?_); refine wpList_store_part rfl 28 _ _ rfl _ 0 _ rfl rfl _ _ (by first | (with_reducible assumption) | (with_reducible exact blk_new _ _ _ rfl) | (with_reducible exact chainN _ _ _ _) | (with_reducible exact chain1 (by assumption)) | (with_reducible exact old0 (by assumption) (by assumption)) | (with_reducible exact old1 (by assumption) (by assumption)) | (with_reducible exact new1 (by assumption))) (by rw [row_size]; kernel_rfl) (by simp [row_size]) (row_cells _ _ _ rfl) _ (row_over _ _ 12 _ _ (by simp)) ?_))
        refine (sameS (fun _ _ => rfl) _).mono ?_
        rintro e w7 ⟨rfl, hb⟩
        have hg5' : w7.heap[g5]? = some (.cells (train r s t F) 28 (0, 0)) := (by first | (with_reducible assumption) | (with_reducible exact blk_new _ _ _ rfl) | (with_reducible exact chainN _ _ _ _) | (with_reducible exact chain1 (by assumption)) | (with_reducible exact old0 (by assumption) (by assumption)) | (with_reducible exact old1 (by assumption) (by assumption)) | (with_reducible exact new1 (by assumption)))
        have hg8' : w7.heap[g8]? = some (.cells (train R S T' G) 28 (0, 0)) := (by first | (with_reducible assumption) | (with_reducible exact blk_new _ _ _ rfl) | (with_reducible exact chainN _ _ _ _) | (with_reducible exact chain1 (by assumption)) | (with_reducible exact old0 (by assumption) (by assumption)) | (with_reducible exact old1 (by assumption) (by assumption)) | (with_reducible exact new1 (by assumption)))
        have hg11' : w7.heap[g11]? = some (.cells (train R S T' G) 28 (0, 0)) := (by first | (with_reducible assumption) | (with_reducible exact blk_new _ _ _ rfl) | (with_reducible exact chainN _ _ _ _) | (with_reducible exact chain1 (by assumption)) | (with_reducible exact old0 (by assumption) (by assumption)) | (with_reducible exact old1 (by assumption) (by assumption)) | (with_reducible exact new1 (by assumption)))
        have hB' : Below w.heap.size w w7 := (by first | (with_reducible assumption) | (with_reducible exact bel0 (by assumption) (by assumption) hB.size) | (with_reducible exact bel1 (by assumption) (by assumption) hB.size) | (with_reducible exact belr hB hB.size))
        have hz7 := hb.size
        try simp at hz7
        clear hB hb hg5 hg8 hg11 
        generalize hgz6 : w6.heap.size = z6 at *
        clear hgz6
        have hB := hB'; clear hB'
        have hg5 := hg5'; clear hg5'
        have hg8 := hg8'; clear hg8'
        have hg11 := hg11'; clear hg11'
        go_wp2_with (first | ((with_reducible refine at_load 28 ?_); refine wpList_load_part rfl 28 _ rfl _ 0 15 rfl _ _ _ _ (by first | (with_reducible assumption) | (with_reducible exact blk_new _ _ _ rfl) | (with_reducible exact chainN _ _ _ _) | (with_reducible exact chain1 (by assumption)) | (with_reducible exact old0 (by assumption) (by assumption)) | (with_reducible exact old1 (by assumption) (by assumption)) | (with_reducible exact new1 (by assumption))) Try.underlying28 rfl (by kernel_rfl) (by simp [row_size]) _ (row_all [_, _, _] 12 _) ?_) | ((with_reducible refine at_store 28 ?_); refine wpList_store_part rfl 28 _ _ rfl _ 0 _ rfl rfl _ _ (by first | (with_reducible assumption) | (with_reducible exact blk_new _ _ _ rfl) | (with_reducible exact chainN _ _ _ _) | (with_reducible exact chain1 (by assumption)) | (with_reducible exact old0 (by assumption) (by assumption)) | (with_reducible exact old1 (by assumption) (by assumption)) | (with_reducible exact new1 (by assumption))) (by rw [row_size]; kernel_rfl) (by simp [row_size]) (row_cells _ _ _ rfl) _ (row_over _ _ 12 _ _ (by simp)) ?_))
        go_meet
        case rel => exact ⟨rfl, hg5, hg11, hB, by omega⟩
    case rest =>
      obtain ⟨rfl, hg5', hg11', hB', hzc⟩ := hcut
      clear hg5 hg8 hg11 hB
      have hg5 := hg5'; clear hg5'
      have hg11 := hg11'; clear hg11'
      have hB := hB'; clear hB'
      generalize hgz : w6.heap.size = zc at *
      clear hgz
      go_upto_if 106 with (fail)
      go_cut [] from 107 to 155 (fun wx => wx.heap[g5]? = some (.cells (train r s t F) 28 (0, 0)) ∧ Below w.heap.size w wx ∧ wc.heap.size ≤ wx.heap.size)
      case first =>
        rcases hcase with ⟨rfl, m, hm, rfl, rfl, rfl, rfl, rfl, hle⟩ | rfl
        · skip
          go_wp2_with (first | ((with_reducible refine at_load 28 ?_); refine wpList_load_part rfl 28 _ rfl _ 0 15 rfl _ _ _ _ (by repeat (first | (with_reducible assumption) | ((with_reducible refine blk_new _ _ _ ?_); focus (first | omega | (simp; done) | (simp; omega))) | ((with_reducible refine blk_old _ _ _ ?_ ?_); focus (simp; done)) | ((with_reducible refine blk_old _ _ _ ?_ ?_); focus (first | omega | (simp; omega))) | ((with_reducible apply blk_set); focus (first | omega | (simp; done))) | ((with_reducible refine blk_off _ _ _ _ ?_ ?_); focus (simp; done)) | ((with_reducible refine blk_offc _ _ _ _ ?_ ?_); focus (first | (simp; done) | omega | (simp; omega))) | ((with_reducible refine blk_off _ _ _ _ ?_ ?_); focus (first | omega | (simp; omega))) | (with_reducible refine blk_drew _ _ ?_) | ((with_reducible refine blk_below (by assumption) ?_ ?_); focus (simp; done)) | ((with_reducible refine blk_below (by assumption) ?_ ?_); focus (first | omega | (simp; omega))))) Try.underlying28 rfl (by kernel_rfl) (by simp [row_size]) _ (row_all [_, _, _] 12 _) ?_) | ((with_reducible refine at_load 28 ?_); refine wpList_load_partg (by first | rfl | (simp only [hff]; rfl) | (go_simp; done)) 28 _ rfl _ 0 15 rfl _ _ _ _ (by repeat (first | (with_reducible assumption) | ((with_reducible refine blk_new _ _ _ ?_); focus (first | omega | (simp; done) | (simp; omega))) | ((with_reducible refine blk_old _ _ _ ?_ ?_); focus (simp; done)) | ((with_reducible refine blk_old _ _ _ ?_ ?_); focus (first | omega | (simp; omega))) | ((with_reducible apply blk_set); focus (first | omega | (simp; done))) | ((with_reducible refine blk_off _ _ _ _ ?_ ?_); focus (simp; done)) | ((with_reducible refine blk_offc _ _ _ _ ?_ ?_); focus (first | (simp; done) | omega | (simp; omega))) | ((with_reducible refine blk_off _ _ _ _ ?_ ?_); focus (first | omega | (simp; omega))) | (with_reducible refine blk_drew _ _ ?_) | ((with_reducible refine blk_below (by assumption) ?_ ?_); focus (simp; done)) | ((with_reducible refine blk_below (by assumption) ?_ ?_); focus (first | omega | (simp; omega))))) Try.underlying28 rfl (by kernel_rfl) (by simp [row_size]) _ (row_all [_, _, _] 12 _) ?_) | ((with_reducible refine at_store 28 ?_); refine wpList_store_part rfl 28 _ _ rfl _ 0 _ rfl rfl _ _ (by repeat (first | (with_reducible assumption) | ((with_reducible refine blk_new _ _ _ ?_); focus (first | omega | (simp; done) | (simp; omega))) | ((with_reducible refine blk_old _ _ _ ?_ ?_); focus (simp; done)) | ((with_reducible refine blk_old _ _ _ ?_ ?_); focus (first | omega | (simp; omega))) | ((with_reducible apply blk_set); focus (first | omega | (simp; done))) | ((with_reducible refine blk_off _ _ _ _ ?_ ?_); focus (simp; done)) | ((with_reducible refine blk_offc _ _ _ _ ?_ ?_); focus (first | (simp; done) | omega | (simp; omega))) | ((with_reducible refine blk_off _ _ _ _ ?_ ?_); focus (first | omega | (simp; omega))) | (with_reducible refine blk_drew _ _ ?_) | ((with_reducible refine blk_below (by assumption) ?_ ?_); focus (simp; done)) | ((with_reducible refine blk_below (by assumption) ?_ ?_); focus (first | omega | (simp; omega))))) (by rw [row_size]; kernel_rfl) (by simp [row_size]) (row_cells _ _ _ rfl) _ (row_over _ _ 12 _ _ (by simp)) ?_) | ((with_reducible refine at_store 35 ?_); refine wpList_store_part rfl 35 _ _ rfl _ 0 _ rfl rfl _ _ (by repeat (first | (with_reducible assumption) | ((with_reducible refine blk_new _ _ _ ?_); focus (first | omega | (simp; done) | (simp; omega))) | ((with_reducible refine blk_old _ _ _ ?_ ?_); focus (simp; done)) | ((with_reducible refine blk_old _ _ _ ?_ ?_); focus (first | omega | (simp; omega))) | ((with_reducible apply blk_set); focus (first | omega | (simp; done))) | ((with_reducible refine blk_off _ _ _ _ ?_ ?_); focus (simp; done)) | ((with_reducible refine blk_offc _ _ _ _ ?_ ?_); focus (first | (simp; done) | omega | (simp; omega))) | ((with_reducible refine blk_off _ _ _ _ ?_ ?_); focus (first | omega | (simp; omega))) | (with_reducible refine blk_drew _ _ ?_) | ((with_reducible refine blk_below (by assumption) ?_ ?_); focus (simp; done)) | ((with_reducible refine blk_below (by assumption) ?_ ?_); focus (first | omega | (simp; omega))))) (by kernel_rfl) (by simp) (by kernel_rfl) _ (three_over _ _ _ _ _ _) ?_))
          refine (timesS hS hfed hcov (m := m) (by omega) _).mono ?_
          rintro e w8 ⟨a1, a2, a3, rfl, hb⟩
          have hg5' : w8.heap[g5]? = some (.cells (train r s t F) 28 (0, 0)) := (by repeat (first | (with_reducible assumption) | ((with_reducible refine blk_new _ _ _ ?_); focus (first | omega | (simp; done) | (simp; omega))) | ((with_reducible refine blk_old _ _ _ ?_ ?_); focus (simp; done)) | ((with_reducible refine blk_old _ _ _ ?_ ?_); focus (first | omega | (simp; omega))) | ((with_reducible apply blk_set); focus (first | omega | (simp; done))) | ((with_reducible refine blk_off _ _ _ _ ?_ ?_); focus (simp; done)) | ((with_reducible refine blk_offc _ _ _ _ ?_ ?_); focus (first | (simp; done) | omega | (simp; omega))) | ((with_reducible refine blk_off _ _ _ _ ?_ ?_); focus (first | omega | (simp; omega))) | (with_reducible refine blk_drew _ _ ?_) | ((with_reducible refine blk_below (by assumption) ?_ ?_); focus (simp; done)) | ((with_reducible refine blk_below (by assumption) ?_ ?_); focus (first | omega | (simp; omega)))))
          have hg11' : w8.heap[g11]? = some (.cells (train r s t (itF r s t fed cov F (m + 1))) 28 (0, 0)) := (by repeat (first | (with_reducible assumption) | ((with_reducible refine blk_new _ _ _ ?_); focus (first | omega | (simp; done) | (simp; omega))) | ((with_reducible refine blk_old _ _ _ ?_ ?_); focus (simp; done)) | ((with_reducible refine blk_old _ _ _ ?_ ?_); focus (first | omega | (simp; omega))) | ((with_reducible apply blk_set); focus (first | omega | (simp; done))) | ((with_reducible refine blk_off _ _ _ _ ?_ ?_); focus (simp; done)) | ((with_reducible refine blk_offc _ _ _ _ ?_ ?_); focus (first | (simp; done) | omega | (simp; omega))) | ((with_reducible refine blk_off _ _ _ _ ?_ ?_); focus (first | omega | (simp; omega))) | (with_reducible refine blk_drew _ _ ?_) | ((with_reducible refine blk_below (by assumption) ?_ ?_); focus (simp; done)) | ((with_reducible refine blk_below (by assumption) ?_ ?_); focus (first | omega | (simp; omega)))))
          have hB' : Below w.heap.size w w8 := (by repeat (first | (with_reducible assumption) | (with_reducible exact Below.refl _ _) | ((with_reducible refine bel_alloc _ ?_ ?_); focus (first | omega | (simp; done) | (simp; omega))) | ((with_reducible refine bel_row _ ?_ ?_); focus (first | omega | (simp; done) | (simp; omega))) | ((with_reducible refine bel_cell _ ?_ ?_); focus (first | omega | (simp; done) | (simp; omega))) | (with_reducible refine Below.drew ?_) | (with_reducible refine below_wideW _ ?_) | ((with_reducible refine bel_next (by assumption) ?_ ?_); focus (first | omega | (simp; done) | (simp; omega)))))
          have hz8 := hb.size
          try simp at hz8
          clear hB hb hg5 hg11 
          generalize hgz7 : wc.heap.size = z7 at *
          clear hgz7
          have hB := hB'; clear hB'
          have hg5 := hg5'; clear hg5'
          have hg11 := hg11'; clear hg11'
          go_wp2_with (first | ((with_reducible refine at_load 28 ?_); refine wpList_load_part rfl 28 _ rfl _ 0 15 rfl _ _ _ _ (by repeat (first | (with_reducible assumption) | ((with_reducible refine blk_new _ _ _ ?_); focus (first | omega | (simp; done) | (simp; omega))) | ((with_reducible refine blk_old _ _ _ ?_ ?_); focus (simp; done)) | ((with_reducible refine blk_old _ _ _ ?_ ?_); focus (first | omega | (simp; omega))) | ((with_reducible apply blk_set); focus (first | omega | (simp; done))) | ((with_reducible refine blk_off _ _ _ _ ?_ ?_); focus (simp; done)) | ((with_reducible refine blk_offc _ _ _ _ ?_ ?_); focus (first | (simp; done) | omega | (simp; omega))) | ((with_reducible refine blk_off _ _ _ _ ?_ ?_); focus (first | omega | (simp; omega))) | (with_reducible refine blk_drew _ _ ?_) | ((with_reducible refine blk_below (by assumption) ?_ ?_); focus (simp; done)) | ((with_reducible refine blk_below (by assumption) ?_ ?_); focus (first | omega | (simp; omega))))) Try.underlying28 rfl (by kernel_rfl) (by simp [row_size]) _ (row_all [_, _, _] 12 _) ?_) | ((with_reducible refine at_load 28 ?_); refine wpList_load_partg (by first | rfl | (simp only [hff]; rfl) | (go_simp; done)) 28 _ rfl _ 0 15 rfl _ _ _ _ (by repeat (first | (with_reducible assumption) | ((with_reducible refine blk_new _ _ _ ?_); focus (first | omega | (simp; done) | (simp; omega))) | ((with_reducible refine blk_old _ _ _ ?_ ?_); focus (simp; done)) | ((with_reducible refine blk_old _ _ _ ?_ ?_); focus (first | omega | (simp; omega))) | ((with_reducible apply blk_set); focus (first | omega | (simp; done))) | ((with_reducible refine blk_off _ _ _ _ ?_ ?_); focus (simp; done)) | ((with_reducible refine blk_offc _ _ _ _ ?_ ?_); focus (first | (simp; done) | omega | (simp; omega))) | ((with_reducible refine blk_off _ _ _ _ ?_ ?_); focus (first | omega | (simp; omega))) | (with_reducible refine blk_drew _ _ ?_) | ((with_reducible refine blk_below (by assumption) ?_ ?_); focus (simp; done)) | ((with_reducible refine blk_below (by assumption) ?_ ?_); focus (first | omega | (simp; omega))))) Try.underlying28 rfl (by kernel_rfl) (by simp [row_size]) _ (row_all [_, _, _] 12 _) ?_) | ((with_reducible refine at_store 28 ?_); refine wpList_store_part rfl 28 _ _ rfl _ 0 _ rfl rfl _ _ (by repeat (first | (with_reducible assumption) | ((with_reducible refine blk_new _ _ _ ?_); focus (first | omega | (simp; done) | (simp; omega))) | ((with_reducible refine blk_old _ _ _ ?_ ?_); focus (simp; done)) | ((with_reducible refine blk_old _ _ _ ?_ ?_); focus (first | omega | (simp; omega))) | ((with_reducible apply blk_set); focus (first | omega | (simp; done))) | ((with_reducible refine blk_off _ _ _ _ ?_ ?_); focus (simp; done)) | ((with_reducible refine blk_offc _ _ _ _ ?_ ?_); focus (first | (simp; done) | omega | (simp; omega))) | ((with_reducible refine blk_off _ _ _ _ ?_ ?_); focus (first | omega | (simp; omega))) | (with_reducible refine blk_drew _ _ ?_) | ((with_reducible refine blk_below (by assumption) ?_ ?_); focus (simp; done)) | ((with_reducible refine blk_below (by assumption) ?_ ?_); focus (first | omega | (simp; omega))))) (by rw [row_size]; kernel_rfl) (by simp [row_size]) (row_cells _ _ _ rfl) _ (row_over _ _ 12 _ _ (by simp)) ?_) | ((with_reducible refine at_store 35 ?_); refine wpList_store_part rfl 35 _ _ rfl _ 0 _ rfl rfl _ _ (by repeat (first | (with_reducible assumption) | ((with_reducible refine blk_new _ _ _ ?_); focus (first | omega | (simp; done) | (simp; omega))) | ((with_reducible refine blk_old _ _ _ ?_ ?_); focus (simp; done)) | ((with_reducible refine blk_old _ _ _ ?_ ?_); focus (first | omega | (simp; omega))) | ((with_reducible apply blk_set); focus (first | omega | (simp; done))) | ((with_reducible refine blk_off _ _ _ _ ?_ ?_); focus (simp; done)) | ((with_reducible refine blk_offc _ _ _ _ ?_ ?_); focus (first | (simp; done) | omega | (simp; omega))) | ((with_reducible refine blk_off _ _ _ _ ?_ ?_); focus (first | omega | (simp; omega))) | (with_reducible refine blk_drew _ _ ?_) | ((with_reducible refine blk_below (by assumption) ?_ ?_); focus (simp; done)) | ((with_reducible refine blk_below (by assumption) ?_ ?_); focus (first | omega | (simp; omega))))) (by kernel_rfl) (by simp) (by kernel_rfl) _ (three_over _ _ _ _ _ _) ?_))
          refine (timesI hS hfed hcov (m := m + 1) (by omega) _).mono ?_
          rintro e w9 ⟨b1, b2, b3, rfl, hb⟩
          have hg5' : w9.heap[g5]? = some (.cells (train r s t F) 28 (0, 0)) := (by repeat (first | (with_reducible assumption) | ((with_reducible refine blk_new _ _ _ ?_); focus (first | omega | (simp; done) | (simp; omega))) | ((with_reducible refine blk_old _ _ _ ?_ ?_); focus (simp; done)) | ((with_reducible refine blk_old _ _ _ ?_ ?_); focus (first | omega | (simp; omega))) | ((with_reducible apply blk_set); focus (first | omega | (simp; done))) | ((with_reducible refine blk_off _ _ _ _ ?_ ?_); focus (simp; done)) | ((with_reducible refine blk_offc _ _ _ _ ?_ ?_); focus (first | (simp; done) | omega | (simp; omega))) | ((with_reducible refine blk_off _ _ _ _ ?_ ?_); focus (first | omega | (simp; omega))) | (with_reducible refine blk_drew _ _ ?_) | ((with_reducible refine blk_below (by assumption) ?_ ?_); focus (simp; done)) | ((with_reducible refine blk_below (by assumption) ?_ ?_); focus (first | omega | (simp; omega)))))
          have hg11' : w9.heap[g11]? = some (.cells (train r s t (itF r s t fed cov F (m + 1))) 28 (0, 0)) := (by repeat (first | (with_reducible assumption) | ((with_reducible refine blk_new _ _ _ ?_); focus (first | omega | (simp; done) | (simp; omega))) | ((with_reducible refine blk_old _ _ _ ?_ ?_); focus (simp; done)) | ((with_reducible refine blk_old _ _ _ ?_ ?_); focus (first | omega | (simp; omega))) | ((with_reducible apply blk_set); focus (first | omega | (simp; done))) | ((with_reducible refine blk_off _ _ _ _ ?_ ?_); focus (simp; done)) | ((with_reducible refine blk_offc _ _ _ _ ?_ ?_); focus (first | (simp; done) | omega | (simp; omega))) | ((with_reducible refine blk_off _ _ _ _ ?_ ?_); focus (first | omega | (simp; omega))) | (with_reducible refine blk_drew _ _ ?_) | ((with_reducible refine blk_below (by assumption) ?_ ?_); focus (simp; done)) | ((with_reducible refine blk_below (by assumption) ?_ ?_); focus (first | omega | (simp; omega)))))
          have hg14' : w9.heap[w8.heap.size]? = some (.cells (train r s t (itF r s t fed cov F m)) 28 (0, 0)) := (by repeat (first | (with_reducible assumption) | ((with_reducible refine blk_new _ _ _ ?_); focus (first | omega | (simp; done) | (simp; omega))) | ((with_reducible refine blk_old _ _ _ ?_ ?_); focus (simp; done)) | ((with_reducible refine blk_old _ _ _ ?_ ?_); focus (first | omega | (simp; omega))) | ((with_reducible apply blk_set); focus (first | omega | (simp; done))) | ((with_reducible refine blk_off _ _ _ _ ?_ ?_); focus (simp; done)) | ((with_reducible refine blk_offc _ _ _ _ ?_ ?_); focus (first | (simp; done) | omega | (simp; omega))) | ((with_reducible refine blk_off _ _ _ _ ?_ ?_); focus (first | omega | (simp; omega))) | (with_reducible refine blk_drew _ _ ?_) | ((with_reducible refine blk_below (by assumption) ?_ ?_); focus (simp; done)) | ((with_reducible refine blk_below (by assumption) ?_ ?_); focus (first | omega | (simp; omega)))))
          have hB' : Below w.heap.size w w9 := (by repeat (first | (with_reducible assumption) | (with_reducible exact Below.refl _ _) | ((with_reducible refine bel_alloc _ ?_ ?_); focus (first | omega | (simp; done) | (simp; omega))) | ((with_reducible refine bel_row _ ?_ ?_); focus (first | omega | (simp; done) | (simp; omega))) | ((with_reducible refine bel_cell _ ?_ ?_); focus (first | omega | (simp; done) | (simp; omega))) | (with_reducible refine Below.drew ?_) | (with_reducible refine below_wideW _ ?_) | ((with_reducible refine bel_next (by assumption) ?_ ?_); focus (first | omega | (simp; done) | (simp; omega)))))
          have hz9 := hb.size
          try simp at hz9
          clear hB hb hg5 hg11 
          generalize hgg14 : w8.heap.size = g14 at *
          obtain ⟨g15, hgg15⟩ : ∃ z, z = g14 + 1 := ⟨_, rfl⟩
          rw [← hgg15]
          clear hgg14
          have hB := hB'; clear hB'
          have hg5 := hg5'; clear hg5'
          have hg11 := hg11'; clear hg11'
          have hg14 := hg14'; clear hg14'
          go_wp2_with (first | ((with_reducible refine at_load 28 ?_); refine wpList_load_part rfl 28 _ rfl _ 0 15 rfl _ _ _ _ (by repeat (first | (with_reducible assumption) | ((with_reducible refine blk_new _ _ _ ?_); focus (first | omega | (simp; done) | (simp; omega))) | ((with_reducible refine blk_old _ _ _ ?_ ?_); focus (simp; done)) | ((with_reducible refine blk_old _ _ _ ?_ ?_); focus (first | omega | (simp; omega))) | ((with_reducible apply blk_set); focus (first | omega | (simp; done))) | ((with_reducible refine blk_off _ _ _ _ ?_ ?_); focus (simp; done)) | ((with_reducible refine blk_offc _ _ _ _ ?_ ?_); focus (first | (simp; done) | omega | (simp; omega))) | ((with_reducible refine blk_off _ _ _ _ ?_ ?_); focus (first | omega | (simp; omega))) | (with_reducible refine blk_drew _ _ ?_) | ((with_reducible refine blk_below (by assumption) ?_ ?_); focus (simp; done)) | ((with_reducible refine blk_below (by assumption) ?_ ?_); focus (first | omega | (simp; omega))))) Try.underlying28 rfl (by kernel_rfl) (by simp [row_size]) _ (row_all [_, _, _] 12 _) ?_) | ((with_reducible refine at_load 28 ?_); refine wpList_load_partg (by first | rfl | (simp only [hff]; rfl) | (go_simp; done)) 28 _ rfl _ 0 15 rfl _ _ _ _ (by repeat (first | (with_reducible assumption) | ((with_reducible refine blk_new _ _ _ ?_); focus (first | omega | (simp; done) | (simp; omega))) | ((with_reducible refine blk_old _ _ _ ?_ ?_); focus (simp; done)) | ((with_reducible refine blk_old _ _ _ ?_ ?_); focus (first | omega | (simp; omega))) | ((with_reducible apply blk_set); focus (first | omega | (simp; done))) | ((with_reducible refine blk_off _ _ _ _ ?_ ?_); focus (simp; done)) | ((with_reducible refine blk_offc _ _ _ _ ?_ ?_); focus (first | (simp; done) | omega | (simp; omega))) | ((with_reducible refine blk_off _ _ _ _ ?_ ?_); focus (first | omega | (simp; omega))) | (with_reducible refine blk_drew _ _ ?_) | ((with_reducible refine blk_below (by assumption) ?_ ?_); focus (simp; done)) | ((with_reducible refine blk_below (by assumption) ?_ ?_); focus (first | omega | (simp; omega))))) Try.underlying28 rfl (by kernel_rfl) (by simp [row_size]) _ (row_all [_, _, _] 12 _) ?_) | ((with_reducible refine at_store 28 ?_); refine wpList_store_part rfl 28 _ _ rfl _ 0 _ rfl rfl _ _ (by repeat (first | (with_reducible assumption) | ((with_reducible refine blk_new _ _ _ ?_); focus (first | omega | (simp; done) | (simp; omega))) | ((with_reducible refine blk_old _ _ _ ?_ ?_); focus (simp; done)) | ((with_reducible refine blk_old _ _ _ ?_ ?_); focus (first | omega | (simp; omega))) | ((with_reducible apply blk_set); focus (first | omega | (simp; done))) | ((with_reducible refine blk_off _ _ _ _ ?_ ?_); focus (simp; done)) | ((with_reducible refine blk_offc _ _ _ _ ?_ ?_); focus (first | (simp; done) | omega | (simp; omega))) | ((with_reducible refine blk_off _ _ _ _ ?_ ?_); focus (first | omega | (simp; omega))) | (with_reducible refine blk_drew _ _ ?_) | ((with_reducible refine blk_below (by assumption) ?_ ?_); focus (simp; done)) | ((with_reducible refine blk_below (by assumption) ?_ ?_); focus (first | omega | (simp; omega))))) (by rw [row_size]; kernel_rfl) (by simp [row_size]) (row_cells _ _ _ rfl) _ (row_over _ _ 12 _ _ (by simp)) ?_) | ((with_reducible refine at_store 35 ?_); refine wpList_store_part rfl 35 _ _ rfl _ 0 _ rfl rfl _ _ (by repeat (first | (with_reducible assumption) | ((with_reducible refine blk_new _ _ _ ?_); focus (first | omega | (simp; done) | (simp; omega))) | ((with_reducible refine blk_old _ _ _ ?_ ?_); focus (simp; done)) | ((with_reducible refine blk_old _ _ _ ?_ ?_); focus (first | omega | (simp; omega))) | ((with_reducible apply blk_set); focus (first | omega | (simp; done))) | ((with_reducible refine blk_off _ _ _ _ ?_ ?_); focus (simp; done)) | ((with_reducible refine blk_offc _ _ _ _ ?_ ?_); focus (first | (simp; done) | omega | (simp; omega))) | ((with_reducible refine blk_off _ _ _ _ ?_ ?_); focus (first | omega | (simp; omega))) | (with_reducible refine blk_drew _ _ ?_) | ((with_reducible refine blk_below (by assumption) ?_ ?_); focus (simp; done)) | ((with_reducible refine blk_below (by assumption) ?_ ?_); focus (first | omega | (simp; omega))))) (by kernel_rfl) (by simp) (by kernel_rfl) _ (three_over _ _ _ _ _ _) ?_))
          refine (sameS (fun _ _ => rfl) _).mono ?_
          rintro e w10 ⟨rfl, hb⟩
          have hg5' : w10.heap[g5]? = some (.cells (train r s t F) 28 (0, 0)) := (by repeat (first | (with_reducible assumption) | ((with_reducible refine blk_new _ _ _ ?_); focus (first | omega | (simp; done) | (simp; omega))) | ((with_reducible refine blk_old _ _ _ ?_ ?_); focus (simp; done)) | ((with_reducible refine blk_old _ _ _ ?_ ?_); focus (first | omega | (simp; omega))) | ((with_reducible apply blk_set); focus (first | omega | (simp; done))) | ((with_reducible refine blk_off _ _ _ _ ?_ ?_); focus (simp; done)) | ((with_reducible refine blk_offc _ _ _ _ ?_ ?_); focus (first | (simp; done) | omega | (simp; omega))) | ((with_reducible refine blk_off _ _ _ _ ?_ ?_); focus (first | omega | (simp; omega))) | (with_reducible refine blk_drew _ _ ?_) | ((with_reducible refine blk_below (by assumption) ?_ ?_); focus (simp; done)) | ((with_reducible refine blk_below (by assumption) ?_ ?_); focus (first | omega | (simp; omega)))))
          have hg11' : w10.heap[g11]? = some (.cells (train r s t (itF r s t fed cov F (m + 1))) 28 (0, 0)) := (by repeat (first | (with_reducible assumption) | ((with_reducible refine blk_new _ _ _ ?_); focus (first | omega | (simp; done) | (simp; omega))) | ((with_reducible refine blk_old _ _ _ ?_ ?_); focus (simp; done)) | ((with_reducible refine blk_old _ _ _ ?_ ?_); focus (first | omega | (simp; omega))) | ((with_reducible apply blk_set); focus (first | omega | (simp; done))) | ((with_reducible refine blk_off _ _ _ _ ?_ ?_); focus (simp; done)) | ((with_reducible refine blk_offc _ _ _ _ ?_ ?_); focus (first | (simp; done) | omega | (simp; omega))) | ((with_reducible refine blk_off _ _ _ _ ?_ ?_); focus (first | omega | (simp; omega))) | (with_reducible refine blk_drew _ _ ?_) | ((with_reducible refine blk_below (by assumption) ?_ ?_); focus (simp; done)) | ((with_reducible refine blk_below (by assumption) ?_ ?_); focus (first | omega | (simp; omega)))))
          have hg14' : w10.heap[g14]? = some (.cells (train r s t (itF r s t fed cov F m)) 28 (0, 0)) := (by repeat (first | (with_reducible assumption) | ((with_reducible refine blk_new _ _ _ ?_); focus (first | omega | (simp; done) | (simp; omega))) | ((with_reducible refine blk_old _ _ _ ?_ ?_); focus (simp; done)) | ((with_reducible refine blk_old _ _ _ ?_ ?_); focus (first | omega | (simp; omega))) | ((with_reducible apply blk_set); focus (first | omega | (simp; done))) | ((with_reducible refine blk_off _ _ _ _ ?_ ?_); focus (simp; done)) | ((with_reducible refine blk_offc _ _ _ _ ?_ ?_); focus (first | (simp; done) | omega | (simp; omega))) | ((with_reducible refine blk_off _ _ _ _ ?_ ?_); focus (first | omega | (simp; omega))) | (with_reducible refine blk_drew _ _ ?_) | ((with_reducible refine blk_below (by assumption) ?_ ?_); focus (simp; done)) | ((with_reducible refine blk_below (by assumption) ?_ ?_); focus (first | omega | (simp; omega)))))
          have hg17' : w10.heap[w9.heap.size]? = some (.cells (train r s t (itF r s t fed cov F (m + 1))) 28 (0, 0)) := (by repeat (first | (with_reducible assumption) | ((with_reducible refine blk_new _ _ _ ?_); focus (first | omega | (simp; done) | (simp; omega))) | ((with_reducible refine blk_old _ _ _ ?_ ?_); focus (simp; done)) | ((with_reducible refine blk_old _ _ _ ?_ ?_); focus (first | omega | (simp; omega))) | ((with_reducible apply blk_set); focus (first | omega | (simp; done))) | ((with_reducible refine blk_off _ _ _ _ ?_ ?_); focus (simp; done)) | ((with_reducible refine blk_offc _ _ _ _ ?_ ?_); focus (first | (simp; done) | omega | (simp; omega))) | ((with_reducible refine blk_off _ _ _ _ ?_ ?_); focus (first | omega | (simp; omega))) | (with_reducible refine blk_drew _ _ ?_) | ((with_reducible refine blk_below (by assumption) ?_ ?_); focus (simp; done)) | ((with_reducible refine blk_below (by assumption) ?_ ?_); focus (first | omega | (simp; omega)))))
          have hB' : Below w.heap.size w w10 := (by repeat (first | (with_reducible assumption) | (with_reducible exact Below.refl _ _) | ((with_reducible refine bel_alloc _ ?_ ?_); focus (first | omega | (simp; done) | (simp; omega))) | ((with_reducible refine bel_row _ ?_ ?_); focus (first | omega | (simp; done) | (simp; omega))) | ((with_reducible refine bel_cell _ ?_ ?_); focus (first | omega | (simp; done) | (simp; omega))) | (with_reducible refine Below.drew ?_) | (with_reducible refine below_wideW _ ?_) | ((with_reducible refine bel_next (by assumption) ?_ ?_); focus (first | omega | (simp; done) | (simp; omega)))))
          have hz10 := hb.size
          try simp at hz10
          clear hB hb hg5 hg11 hg14 
          generalize hgg17 : w9.heap.size = g17 at *
          obtain ⟨g18, hgg18⟩ : ∃ z, z = g17 + 1 := ⟨_, rfl⟩
          rw [← hgg18]
          clear hgg17
          have hB := hB'; clear hB'
          have hg5 := hg5'; clear hg5'
          have hg11 := hg11'; clear hg11'
          have hg14 := hg14'; clear hg14'
          have hg17 := hg17'; clear hg17'
          clear hg17
          go_wp2_with (first | ((with_reducible refine at_load 28 ?_); refine wpList_load_part rfl 28 _ rfl _ 0 15 rfl _ _ _ _ (by first | (with_reducible assumption) | (with_reducible exact blk_new _ _ _ rfl) | (with_reducible exact chainN _ _ _ _) | (with_reducible exact chain1 (by assumption)) | (with_reducible exact old0 (by assumption) (by assumption)) | (with_reducible exact old1 (by assumption) (by assumption)) | (with_reducible exact new1 (by assumption))) Try.underlying28 rfl (by kernel_rfl) (by simp [row_size]) _ (row_all [_, _, _] 12 _) ?_) | ((with_reducible refine at_store 28 ?_); refine wpList_store_part rfl 28 _ _ rfl _ 0 _ rfl rfl _ _ (by first | (with_reducible assumption) | (with_reducible exact blk_new _ _ _ rfl) | (with_reducible exact chainN _ _ _ _) | (with_reducible exact chain1 (by assumption)) | (with_reducible exact old0 (by assumption) (by assumption)) | (with_reducible exact old1 (by assumption) (by assumption)) | (with_reducible exact new1 (by assumption))) (by rw [row_size]; kernel_rfl) (by simp [row_size]) (row_cells _ _ _ rfl) _ (row_over _ _ 12 _ _ (by simp)) ?_))
          have hN := near_most (wi := 1008981770) (by decide) (it_train hS hfed hcov (m + 1) (by omega)) (it_train hS hfed hcov m (by omega)) hle
          have hX := train_films (it_train hS hfed hcov (m + 1) (by omega))
          have hY := train_films (it_train hS hfed hcov m (by omega))
          have HN := Lib.hid hN
          have HX := Lib.hid hX
          have HY := Lib.hid hY
          clear hN hX hY
          go_loopw [20] (fun i wr => ∃ k q : Nat, k ≤ 12 ∧ i = .int .i64 k ∧ wr = w10.drewN q) (fun i _ => 12 - (intOf i).toNat)
          case atStart => exact ⟨0, 0, by omega, rfl, rfl⟩
          case round =>
            obtain ⟨k, q, hk, rfl, hwr⟩ := hrel
            by_cases hlt : k < 12
            · have ca : wr.cell? ⟨g11, 3 + k, none⟩ = some (.float .f32 (itF r s t fed cov F (m + 1) k)) := by rw [hwr]; exact (cell_of_row w10 _ (3 + k) _ _ _ hg11).trans (row_k3 _ _ _ _ _ hlt)
              have cb : wr.cell? ⟨g14, 3 + k, none⟩ = some (.float .f32 (itF r s t fed cov F m k)) := by rw [hwr]; exact (cell_of_row w10 _ (3 + k) _ _ _ hg14).trans (row_k3 _ _ _ _ _ hlt)
              have HW := Lib.hid hwr
              clear hwr hg5 hg11 hg14 hB
              go_wp2_with (fail)
              go_quiet ((go_at_call 13; with_reducible exact near_q (film_Z (HX.out k hlt)).1 (film_Z (HY.out k hlt)).1 (step_fin (HX.out k hlt) (HY.out k hlt)) (by decide) (HN.out k hlt) _ _))
              go_wp2_with (fail)
              go_roundw
              case rel => exact ⟨k + 1, _, by omega, by go_num, by rw [HW.out, World.drewN_drewN]⟩
              case measure => simp [intOf]; omega
            · obtain rfl : k = 12 := by omega
              have hg5' : wr.heap[g5]? = some (.cells (train r s t F) 28 (0, 0)) := by rw [hwr]; exact hg5
              have hB' : Below w.heap.size w wr := by rw [hwr]; exact bel_drewN q hB
              have hzr : w10.heap.size ≤ wr.heap.size := by rw [hwr]; exact Nat.le_refl _
              clear hwr hg5 hg11 hg14 hB HN HX HY
              go_wp2_with (fail)
              go_meet
              case rel => exact ⟨hg5', hB', by omega⟩
        · go_wp2_with (fail)
          go_meet
          case rel => exact ⟨hg5, hB, Nat.le_refl _⟩
      case rest =>
        obtain ⟨hg5', hB', hzd⟩ := hcut
        clear hg5 hg11 hB hcase cuI cuS
        have hg5 := hg5'; clear hg5'
        have hB := hB'; clear hB'
        go_wp2_with (first | ((with_reducible refine at_load 28 ?_); refine wpList_load_part rfl 28 _ rfl _ 0 15 rfl _ _ _ _ (by first | (with_reducible assumption) | (with_reducible exact blk_new _ _ _ rfl) | (with_reducible exact chainN _ _ _ _) | (with_reducible exact chain1 (by assumption)) | (with_reducible exact old0 (by assumption) (by assumption)) | (with_reducible exact old1 (by assumption) (by assumption)) | (with_reducible exact new1 (by assumption))) Try.underlying28 rfl (by kernel_rfl) (by simp [row_size]) _ (row_all [_, _, _] 12 _) ?_) | ((with_reducible refine at_store 28 ?_); refine wpList_store_part rfl 28 _ _ rfl _ 0 _ rfl rfl _ _ (by first | (with_reducible assumption) | (with_reducible exact blk_new _ _ _ rfl) | (with_reducible exact chainN _ _ _ _) | (with_reducible exact chain1 (by assumption)) | (with_reducible exact old0 (by assumption) (by assumption)) | (with_reducible exact old1 (by assumption) (by assumption)) | (with_reducible exact new1 (by assumption))) (by rw [row_size]; kernel_rfl) (by simp [row_size]) (row_cells _ _ _ rfl) _ (row_over _ _ 12 _ _ (by simp)) ?_))
        refine (washI hS hcov _).mono ?_
        rintro e w12 ⟨rfl, hb⟩
        have hg5' : w12.heap[g5]? = some (.cells (train r s t F) 28 (0, 0)) := (by first | (with_reducible assumption) | (with_reducible exact blk_new _ _ _ rfl) | (with_reducible exact chainN _ _ _ _) | (with_reducible exact chain1 (by assumption)) | (with_reducible exact old0 (by assumption) (by assumption)) | (with_reducible exact old1 (by assumption) (by assumption)) | (with_reducible exact new1 (by assumption)))
        have hB' : Below w.heap.size w w12 := (by first | (with_reducible assumption) | (with_reducible exact bel0 (by assumption) (by assumption) hB.size) | (with_reducible exact bel1 (by assumption) (by assumption) hB.size) | (with_reducible exact belr hB hB.size))
        have hz12 := hb.size
        try simp at hz12
        clear hB hb hg5 
        generalize hgz11 : wc.heap.size = z11 at *
        clear hgz11
        have hB := hB'; clear hB'
        have hg5 := hg5'; clear hg5'
        go_wp2_with (first | ((with_reducible refine at_load 28 ?_); refine wpList_load_part rfl 28 _ rfl _ 0 15 rfl _ _ _ _ (by first | (with_reducible assumption) | (with_reducible exact blk_new _ _ _ rfl) | (with_reducible exact chainN _ _ _ _) | (with_reducible exact chain1 (by assumption)) | (with_reducible exact old0 (by assumption) (by assumption)) | (with_reducible exact old1 (by assumption) (by assumption)) | (with_reducible exact new1 (by assumption))) Try.underlying28 rfl (by kernel_rfl) (by simp [row_size]) _ (row_all [_, _, _] 12 _) ?_) | ((with_reducible refine at_store 28 ?_); refine wpList_store_part rfl 28 _ _ rfl _ 0 _ rfl rfl _ _ (by first | (with_reducible assumption) | (with_reducible exact blk_new _ _ _ rfl) | (with_reducible exact chainN _ _ _ _) | (with_reducible exact chain1 (by assumption)) | (with_reducible exact old0 (by assumption) (by assumption)) | (with_reducible exact old1 (by assumption) (by assumption)) | (with_reducible exact new1 (by assumption))) (by rw [row_size]; kernel_rfl) (by simp [row_size]) (row_cells _ _ _ rfl) _ (row_over _ _ 12 _ _ (by simp)) ?_))
        refine (washS hS hcov _).mono ?_
        rintro e w13 ⟨rfl, hb⟩
        have hg5' : w13.heap[g5]? = some (.cells (train r s t F) 28 (0, 0)) := (by first | (with_reducible assumption) | (with_reducible exact blk_new _ _ _ rfl) | (with_reducible exact chainN _ _ _ _) | (with_reducible exact chain1 (by assumption)) | (with_reducible exact old0 (by assumption) (by assumption)) | (with_reducible exact old1 (by assumption) (by assumption)) | (with_reducible exact new1 (by assumption)))
        have hg21' : w13.heap[w12.heap.size]? = some (.cells (train r s t (washF r F cov)) 28 (0, 0)) := (by first | (with_reducible assumption) | (with_reducible exact blk_new _ _ _ rfl) | (with_reducible exact chainN _ _ _ _) | (with_reducible exact chain1 (by assumption)) | (with_reducible exact old0 (by assumption) (by assumption)) | (with_reducible exact old1 (by assumption) (by assumption)) | (with_reducible exact new1 (by assumption)))
        have hB' : Below w.heap.size w w13 := (by first | (with_reducible assumption) | (with_reducible exact bel0 (by assumption) (by assumption) hB.size) | (with_reducible exact bel1 (by assumption) (by assumption) hB.size) | (with_reducible exact belr hB hB.size))
        have hz13 := hb.size
        try simp at hz13
        clear hB hb hg5 
        generalize hgg21 : w12.heap.size = g21 at *
        clear hgg21
        have hB := hB'; clear hB'
        have hg5 := hg5'; clear hg5'
        have hg21 := hg21'; clear hg21'
        go_wp2_with (first | ((with_reducible refine at_load 28 ?_); refine wpList_load_part rfl 28 _ rfl _ 0 15 rfl _ _ _ _ (by first | (with_reducible assumption) | (with_reducible exact blk_new _ _ _ rfl) | (with_reducible exact chainN _ _ _ _) | (with_reducible exact chain1 (by assumption)) | (with_reducible exact old0 (by assumption) (by assumption)) | (with_reducible exact old1 (by assumption) (by assumption)) | (with_reducible exact new1 (by assumption))) Try.underlying28 rfl (by kernel_rfl) (by simp [row_size]) _ (row_all [_, _, _] 12 _) ?_) | ((with_reducible refine at_store 28 ?_); refine wpList_store_part rfl 28 _ _ rfl _ 0 _ rfl rfl _ _ (by first | (with_reducible assumption) | (with_reducible exact blk_new _ _ _ rfl) | (with_reducible exact chainN _ _ _ _) | (with_reducible exact chain1 (by assumption)) | (with_reducible exact old0 (by assumption) (by assumption)) | (with_reducible exact old1 (by assumption) (by assumption)) | (with_reducible exact new1 (by assumption))) (by rw [row_size]; kernel_rfl) (by simp [row_size]) (row_cells _ _ _ rfl) _ (row_over _ _ 12 _ _ (by simp)) ?_))
        refine (cThick _).mono ?_
        rintro e w14 ⟨rfl, hb⟩
        have hg5' : w14.heap[g5]? = some (.cells (train r s t F) 28 (0, 0)) := (by first | (with_reducible assumption) | (with_reducible exact blk_new _ _ _ rfl) | (with_reducible exact chainN _ _ _ _) | (with_reducible exact chain1 (by assumption)) | (with_reducible exact old0 (by assumption) (by assumption)) | (with_reducible exact old1 (by assumption) (by assumption)) | (with_reducible exact new1 (by assumption)))
        have hg21' : w14.heap[g21]? = some (.cells (train r s t (washF r F cov)) 28 (0, 0)) := (by first | (with_reducible assumption) | (with_reducible exact blk_new _ _ _ rfl) | (with_reducible exact chainN _ _ _ _) | (with_reducible exact chain1 (by assumption)) | (with_reducible exact old0 (by assumption) (by assumption)) | (with_reducible exact old1 (by assumption) (by assumption)) | (with_reducible exact new1 (by assumption)))
        have hg23' : w14.heap[w13.heap.size]? = some (.cells (train r s t (washF r F cov)) 28 (0, 0)) := (by first | (with_reducible assumption) | (with_reducible exact blk_new _ _ _ rfl) | (with_reducible exact chainN _ _ _ _) | (with_reducible exact chain1 (by assumption)) | (with_reducible exact old0 (by assumption) (by assumption)) | (with_reducible exact old1 (by assumption) (by assumption)) | (with_reducible exact new1 (by assumption)))
        have hB' : Below w.heap.size w w14 := (by first | (with_reducible assumption) | (with_reducible exact bel0 (by assumption) (by assumption) hB.size) | (with_reducible exact bel1 (by assumption) (by assumption) hB.size) | (with_reducible exact belr hB hB.size))
        have hz14 := hb.size
        try simp at hz14
        clear hB hb hg5 hg21 
        generalize hgg23 : w13.heap.size = g23 at *
        clear hgg23
        have hB := hB'; clear hB'
        have hg5 := hg5'; clear hg5'
        have hg21 := hg21'; clear hg21'
        have hg23 := hg23'; clear hg23'
        go_wp2_with (first | ((with_reducible refine at_load 28 ?_); refine wpList_load_part rfl 28 _ rfl _ 0 15 rfl _ _ _ _ (by first | (with_reducible assumption) | (with_reducible exact blk_new _ _ _ rfl) | (with_reducible exact chainN _ _ _ _) | (with_reducible exact chain1 (by assumption)) | (with_reducible exact old0 (by assumption) (by assumption)) | (with_reducible exact old1 (by assumption) (by assumption)) | (with_reducible exact new1 (by assumption))) Try.underlying28 rfl (by kernel_rfl) (by simp [row_size]) _ (row_all [_, _, _] 12 _) ?_) | ((with_reducible refine at_store 28 ?_); refine wpList_store_part rfl 28 _ _ rfl _ 0 _ rfl rfl _ _ (by first | (with_reducible assumption) | (with_reducible exact blk_new _ _ _ rfl) | (with_reducible exact chainN _ _ _ _) | (with_reducible exact chain1 (by assumption)) | (with_reducible exact old0 (by assumption) (by assumption)) | (with_reducible exact old1 (by assumption) (by assumption)) | (with_reducible exact new1 (by assumption))) (by rw [row_size]; kernel_rfl) (by simp [row_size]) (row_cells _ _ _ rfl) _ (row_over _ _ 12 _ _ (by simp)) ?_))
        refine (fallsI hS _).mono ?_
        rintro e w15 ⟨rfl, hb⟩
        have hg5' : w15.heap[g5]? = some (.cells (train r s t F) 28 (0, 0)) := (by first | (with_reducible assumption) | (with_reducible exact blk_new _ _ _ rfl) | (with_reducible exact chainN _ _ _ _) | (with_reducible exact chain1 (by assumption)) | (with_reducible exact old0 (by assumption) (by assumption)) | (with_reducible exact old1 (by assumption) (by assumption)) | (with_reducible exact new1 (by assumption)))
        have hg21' : w15.heap[g21]? = some (.cells (train r s t (washF r F cov)) 28 (0, 0)) := (by first | (with_reducible assumption) | (with_reducible exact blk_new _ _ _ rfl) | (with_reducible exact chainN _ _ _ _) | (with_reducible exact chain1 (by assumption)) | (with_reducible exact old0 (by assumption) (by assumption)) | (with_reducible exact old1 (by assumption) (by assumption)) | (with_reducible exact new1 (by assumption)))
        have hg23' : w15.heap[g23]? = some (.cells (train r s t (washF r F cov)) 28 (0, 0)) := (by first | (with_reducible assumption) | (with_reducible exact blk_new _ _ _ rfl) | (with_reducible exact chainN _ _ _ _) | (with_reducible exact chain1 (by assumption)) | (with_reducible exact old0 (by assumption) (by assumption)) | (with_reducible exact old1 (by assumption) (by assumption)) | (with_reducible exact new1 (by assumption)))
        have hB' : Below w.heap.size w w15 := (by first | (with_reducible assumption) | (with_reducible exact bel0 (by assumption) (by assumption) hB.size) | (with_reducible exact bel1 (by assumption) (by assumption) hB.size) | (with_reducible exact belr hB hB.size))
        have hz15 := hb.size
        try simp at hz15
        clear hB hb hg5 hg21 hg23 
        generalize hgz14 : w14.heap.size = z14 at *
        clear hgz14
        have hB := hB'; clear hB'
        have hg5 := hg5'; clear hg5'
        have hg21 := hg21'; clear hg21'
        have hg23 := hg23'; clear hg23'
        go_wp2_with (first | ((with_reducible refine at_load 28 ?_); refine wpList_load_part rfl 28 _ rfl _ 0 15 rfl _ _ _ _ (by first | (with_reducible assumption) | (with_reducible exact blk_new _ _ _ rfl) | (with_reducible exact chainN _ _ _ _) | (with_reducible exact chain1 (by assumption)) | (with_reducible exact old0 (by assumption) (by assumption)) | (with_reducible exact old1 (by assumption) (by assumption)) | (with_reducible exact new1 (by assumption))) Try.underlying28 rfl (by kernel_rfl) (by simp [row_size]) _ (row_all [_, _, _] 12 _) ?_) | ((with_reducible refine at_store 28 ?_); refine wpList_store_part rfl 28 _ _ rfl _ 0 _ rfl rfl _ _ (by first | (with_reducible assumption) | (with_reducible exact blk_new _ _ _ rfl) | (with_reducible exact chainN _ _ _ _) | (with_reducible exact chain1 (by assumption)) | (with_reducible exact old0 (by assumption) (by assumption)) | (with_reducible exact old1 (by assumption) (by assumption)) | (with_reducible exact new1 (by assumption))) (by rw [row_size]; kernel_rfl) (by simp [row_size]) (row_cells _ _ _ rfl) _ (row_over _ _ 12 _ _ (by simp)) ?_))
        refine (fallsS hS _).mono ?_
        rintro e w16 ⟨rfl, hb⟩
        have hg5' : w16.heap[g5]? = some (.cells (train r s t F) 28 (0, 0)) := (by first | (with_reducible assumption) | (with_reducible exact blk_new _ _ _ rfl) | (with_reducible exact chainN _ _ _ _) | (with_reducible exact chain1 (by assumption)) | (with_reducible exact old0 (by assumption) (by assumption)) | (with_reducible exact old1 (by assumption) (by assumption)) | (with_reducible exact new1 (by assumption)))
        have hg21' : w16.heap[g21]? = some (.cells (train r s t (washF r F cov)) 28 (0, 0)) := (by first | (with_reducible assumption) | (with_reducible exact blk_new _ _ _ rfl) | (with_reducible exact chainN _ _ _ _) | (with_reducible exact chain1 (by assumption)) | (with_reducible exact old0 (by assumption) (by assumption)) | (with_reducible exact old1 (by assumption) (by assumption)) | (with_reducible exact new1 (by assumption)))
        have hg23' : w16.heap[g23]? = some (.cells (train r s t (washF r F cov)) 28 (0, 0)) := (by first | (with_reducible assumption) | (with_reducible exact blk_new _ _ _ rfl) | (with_reducible exact chainN _ _ _ _) | (with_reducible exact chain1 (by assumption)) | (with_reducible exact old0 (by assumption) (by assumption)) | (with_reducible exact old1 (by assumption) (by assumption)) | (with_reducible exact new1 (by assumption)))
        have hB' : Below w.heap.size w w16 := (by first | (with_reducible assumption) | (with_reducible exact bel0 (by assumption) (by assumption) hB.size) | (with_reducible exact bel1 (by assumption) (by assumption) hB.size) | (with_reducible exact belr hB hB.size))
        have hz16 := hb.size
        try simp at hz16
        clear hB hb hg5 hg21 hg23 
        generalize hgz15 : w15.heap.size = z15 at *
        clear hgz15
        have hB := hB'; clear hB'
        have hg5 := hg5'; clear hg5'
        have hg21 := hg21'; clear hg21'
        have hg23 := hg23'; clear hg23'
        go_wp2_with (first | ((with_reducible refine at_load 28 ?_); refine wpList_load_part rfl 28 _ rfl _ 0 15 rfl _ _ _ _ (by first | (with_reducible assumption) | (with_reducible exact blk_new _ _ _ rfl) | (with_reducible exact chainN _ _ _ _) | (with_reducible exact chain1 (by assumption)) | (with_reducible exact old0 (by assumption) (by assumption)) | (with_reducible exact old1 (by assumption) (by assumption)) | (with_reducible exact new1 (by assumption))) Try.underlying28 rfl (by kernel_rfl) (by simp [row_size]) _ (row_all [_, _, _] 12 _) ?_) | ((with_reducible refine at_store 28 ?_); refine wpList_store_part rfl 28 _ _ rfl _ 0 _ rfl rfl _ _ (by first | (with_reducible assumption) | (with_reducible exact blk_new _ _ _ rfl) | (with_reducible exact chainN _ _ _ _) | (with_reducible exact chain1 (by assumption)) | (with_reducible exact old0 (by assumption) (by assumption)) | (with_reducible exact old1 (by assumption) (by assumption)) | (with_reducible exact new1 (by assumption))) (by rw [row_size]; kernel_rfl) (by simp [row_size]) (row_cells _ _ _ rfl) _ (row_over _ _ 12 _ _ (by simp)) ?_))
        refine (addI hS hfed _).mono ?_
        rintro e w17 ⟨rfl, hb⟩
        have hg5' : w17.heap[g5]? = some (.cells (train r s t F) 28 (0, 0)) := (by first | (with_reducible assumption) | (with_reducible exact blk_new _ _ _ rfl) | (with_reducible exact chainN _ _ _ _) | (with_reducible exact chain1 (by assumption)) | (with_reducible exact old0 (by assumption) (by assumption)) | (with_reducible exact old1 (by assumption) (by assumption)) | (with_reducible exact new1 (by assumption)))
        have hg21' : w17.heap[g21]? = some (.cells (train r s t (washF r F cov)) 28 (0, 0)) := (by first | (with_reducible assumption) | (with_reducible exact blk_new _ _ _ rfl) | (with_reducible exact chainN _ _ _ _) | (with_reducible exact chain1 (by assumption)) | (with_reducible exact old0 (by assumption) (by assumption)) | (with_reducible exact old1 (by assumption) (by assumption)) | (with_reducible exact new1 (by assumption)))
        have hg23' : w17.heap[g23]? = some (.cells (train r s t (washF r F cov)) 28 (0, 0)) := (by first | (with_reducible assumption) | (with_reducible exact blk_new _ _ _ rfl) | (with_reducible exact chainN _ _ _ _) | (with_reducible exact chain1 (by assumption)) | (with_reducible exact old0 (by assumption) (by assumption)) | (with_reducible exact old1 (by assumption) (by assumption)) | (with_reducible exact new1 (by assumption)))
        have hB' : Below w.heap.size w w17 := (by first | (with_reducible assumption) | (with_reducible exact bel0 (by assumption) (by assumption) hB.size) | (with_reducible exact bel1 (by assumption) (by assumption) hB.size) | (with_reducible exact belr hB hB.size))
        have hz17 := hb.size
        try simp at hz17
        clear hB hb hg5 hg21 hg23 
        generalize hgz16 : w16.heap.size = z16 at *
        clear hgz16
        have hB := hB'; clear hB'
        have hg5 := hg5'; clear hg5'
        have hg21 := hg21'; clear hg21'
        have hg23 := hg23'; clear hg23'
        go_wp2_with (first | ((with_reducible refine at_load 28 ?_); refine wpList_load_part rfl 28 _ rfl _ 0 15 rfl _ _ _ _ (by first | (with_reducible assumption) | (with_reducible exact blk_new _ _ _ rfl) | (with_reducible exact chainN _ _ _ _) | (with_reducible exact chain1 (by assumption)) | (with_reducible exact old0 (by assumption) (by assumption)) | (with_reducible exact old1 (by assumption) (by assumption)) | (with_reducible exact new1 (by assumption))) Try.underlying28 rfl (by kernel_rfl) (by simp [row_size]) _ (row_all [_, _, _] 12 _) ?_) | ((with_reducible refine at_store 28 ?_); refine wpList_store_part rfl 28 _ _ rfl _ 0 _ rfl rfl _ _ (by first | (with_reducible assumption) | (with_reducible exact blk_new _ _ _ rfl) | (with_reducible exact chainN _ _ _ _) | (with_reducible exact chain1 (by assumption)) | (with_reducible exact old0 (by assumption) (by assumption)) | (with_reducible exact old1 (by assumption) (by assumption)) | (with_reducible exact new1 (by assumption))) (by rw [row_size]; kernel_rfl) (by simp [row_size]) (row_cells _ _ _ rfl) _ (row_over _ _ 12 _ _ (by simp)) ?_))
        refine (addS hS hfed _).mono ?_
        rintro e w18 ⟨rfl, hb⟩
        have hg5' : w18.heap[g5]? = some (.cells (train r s t F) 28 (0, 0)) := (by first | (with_reducible assumption) | (with_reducible exact blk_new _ _ _ rfl) | (with_reducible exact chainN _ _ _ _) | (with_reducible exact chain1 (by assumption)) | (with_reducible exact old0 (by assumption) (by assumption)) | (with_reducible exact old1 (by assumption) (by assumption)) | (with_reducible exact new1 (by assumption)))
        have hg21' : w18.heap[g21]? = some (.cells (train r s t (washF r F cov)) 28 (0, 0)) := (by first | (with_reducible assumption) | (with_reducible exact blk_new _ _ _ rfl) | (with_reducible exact chainN _ _ _ _) | (with_reducible exact chain1 (by assumption)) | (with_reducible exact old0 (by assumption) (by assumption)) | (with_reducible exact old1 (by assumption) (by assumption)) | (with_reducible exact new1 (by assumption)))
        have hg23' : w18.heap[g23]? = some (.cells (train r s t (washF r F cov)) 28 (0, 0)) := (by first | (with_reducible assumption) | (with_reducible exact blk_new _ _ _ rfl) | (with_reducible exact chainN _ _ _ _) | (with_reducible exact chain1 (by assumption)) | (with_reducible exact old0 (by assumption) (by assumption)) | (with_reducible exact old1 (by assumption) (by assumption)) | (with_reducible exact new1 (by assumption)))
        have hg32' : w18.heap[w17.heap.size]? = some (.cells (train (r + 1) s t (upd F r.toNat fed)) 28 (0, 0)) := (by first | (with_reducible assumption) | (with_reducible exact blk_new _ _ _ rfl) | (with_reducible exact chainN _ _ _ _) | (with_reducible exact chain1 (by assumption)) | (with_reducible exact old0 (by assumption) (by assumption)) | (with_reducible exact old1 (by assumption) (by assumption)) | (with_reducible exact new1 (by assumption)))
        have hB' : Below w.heap.size w w18 := (by first | (with_reducible assumption) | (with_reducible exact bel0 (by assumption) (by assumption) hB.size) | (with_reducible exact bel1 (by assumption) (by assumption) hB.size) | (with_reducible exact belr hB hB.size))
        have hz18 := hb.size
        try simp at hz18
        clear hB hb hg5 hg21 hg23 
        generalize hgg32 : w17.heap.size = g32 at *
        clear hgg32
        have hB := hB'; clear hB'
        have hg5 := hg5'; clear hg5'
        have hg21 := hg21'; clear hg21'
        have hg23 := hg23'; clear hg23'
        have hg32 := hg32'; clear hg32'
        go_upto_region 27 with (first | ((with_reducible refine at_load 28 ?_); refine wpList_load_part rfl 28 _ rfl _ 0 15 rfl _ _ _ _ (by first | (with_reducible assumption) | (with_reducible exact blk_new _ _ _ rfl) | (with_reducible exact chainN _ _ _ _) | (with_reducible exact chain1 (by assumption)) | (with_reducible exact old0 (by assumption) (by assumption)) | (with_reducible exact old1 (by assumption) (by assumption)) | (with_reducible exact new1 (by assumption))) Try.underlying28 rfl (by kernel_rfl) (by simp [row_size]) _ (row_all [_, _, _] 12 _) ?_) | ((with_reducible refine at_store 28 ?_); refine wpList_store_part rfl 28 _ _ rfl _ 0 _ rfl rfl _ _ (by first | (with_reducible assumption) | (with_reducible exact blk_new _ _ _ rfl) | (with_reducible exact chainN _ _ _ _) | (with_reducible exact chain1 (by assumption)) | (with_reducible exact old0 (by assumption) (by assumption)) | (with_reducible exact old1 (by assumption) (by assumption)) | (with_reducible exact new1 (by assumption))) (by rw [row_size]; kernel_rfl) (by simp [row_size]) (row_cells _ _ _ rfl) _ (row_over _ _ 12 _ _ (by simp)) ?_))
        generalize hw : World.setRow _ _ _ = w19
        have hz19 : w18.heap.size + 1 ≤ w19.heap.size := by rw [← hw]; simp
        have hg5' : w19.heap[g5]? = some (.cells (train r s t F) 28 (0, 0)) := by rw [← hw]; exact (by first | (with_reducible assumption) | (with_reducible exact blk_new _ _ _ rfl) | (with_reducible exact chainN _ _ _ _) | (with_reducible exact chain1 (by assumption)) | (with_reducible exact old0 (by assumption) (by assumption)) | (with_reducible exact old1 (by assumption) (by assumption)) | (with_reducible exact new1 (by assumption)))
        have hg21' : w19.heap[g21]? = some (.cells (train r s t (washF r F cov)) 28 (0, 0)) := by rw [← hw]; exact (by first | (with_reducible assumption) | (with_reducible exact blk_new _ _ _ rfl) | (with_reducible exact chainN _ _ _ _) | (with_reducible exact chain1 (by assumption)) | (with_reducible exact old0 (by assumption) (by assumption)) | (with_reducible exact old1 (by assumption) (by assumption)) | (with_reducible exact new1 (by assumption)))
        have hg23' : w19.heap[g23]? = some (.cells (train r s t (washF r F cov)) 28 (0, 0)) := by rw [← hw]; exact (by first | (with_reducible assumption) | (with_reducible exact blk_new _ _ _ rfl) | (with_reducible exact chainN _ _ _ _) | (with_reducible exact chain1 (by assumption)) | (with_reducible exact old0 (by assumption) (by assumption)) | (with_reducible exact old1 (by assumption) (by assumption)) | (with_reducible exact new1 (by assumption)))
        have hg32' : w19.heap[g32]? = some (.cells (train (r + 1) s t (upd F r.toNat fed)) 28 (0, 0)) := by rw [← hw]; exact (by first | (with_reducible assumption) | (with_reducible exact blk_new _ _ _ rfl) | (with_reducible exact chainN _ _ _ _) | (with_reducible exact chain1 (by assumption)) | (with_reducible exact old0 (by assumption) (by assumption)) | (with_reducible exact old1 (by assumption) (by assumption)) | (with_reducible exact new1 (by assumption)))
        have hg34' : w19.heap[w18.heap.size]? = some (.cells (train (r + 1) s t (upd F r.toNat fed)) 28 (0, 0)) := by rw [← hw]; exact (by first | (with_reducible assumption) | (with_reducible exact blk_new _ _ _ rfl) | (with_reducible exact chainN _ _ _ _) | (with_reducible exact chain1 (by assumption)) | (with_reducible exact old0 (by assumption) (by assumption)) | (with_reducible exact old1 (by assumption) (by assumption)) | (with_reducible exact new1 (by assumption)))
        have hB' : Below w.heap.size w w19 := by rw [← hw]; exact (by first | (with_reducible assumption) | (with_reducible exact bel0 (by assumption) (by assumption) hB.size) | (with_reducible exact bel1 (by assumption) (by assumption) hB.size) | (with_reducible exact belr hB hB.size))
        clear hw
        clear hB  hg5 hg21 hg23 hg32 
        generalize hgg34 : w18.heap.size = g34 at *
        clear hgg34
        have hB := hB'; clear hB'
        have hg5 := hg5'; clear hg5'
        have hg21 := hg21'; clear hg21'
        have hg23 := hg23'; clear hg23'
        have hg32 := hg32'; clear hg32'
        have hg34 := hg34'; clear hg34'
        have c5 : w19.cell? ⟨g5, 0, none⟩ = some (.int .i8 r) := (cell_of_row _ _ 0 _ _ _ hg5).trans (row_g0 _ _ _ _)
        go_wp2_with (first | ((with_reducible refine at_load 28 ?_); refine wpList_load_part rfl 28 _ rfl _ 0 15 rfl _ _ _ _ (by first | (with_reducible assumption) | (with_reducible exact blk_new _ _ _ rfl) | (with_reducible exact chainN _ _ _ _) | (with_reducible exact chain1 (by assumption)) | (with_reducible exact old0 (by assumption) (by assumption)) | (with_reducible exact old1 (by assumption) (by assumption)) | (with_reducible exact new1 (by assumption))) Try.underlying28 rfl (by kernel_rfl) (by simp [row_size]) _ (row_all [_, _, _] 12 _) ?_) | ((with_reducible refine at_store 28 ?_); refine wpList_store_part rfl 28 _ _ rfl _ 0 _ rfl rfl _ _ (by first | (with_reducible assumption) | (with_reducible exact blk_new _ _ _ rfl) | (with_reducible exact chainN _ _ _ _) | (with_reducible exact chain1 (by assumption)) | (with_reducible exact old0 (by assumption) (by assumption)) | (with_reducible exact old1 (by assumption) (by assumption)) | (with_reducible exact new1 (by assumption))) (by rw [row_size]; kernel_rfl) (by simp [row_size]) (row_cells _ _ _ rfl) _ (row_over _ _ 12 _ _ (by simp)) ?_))
        refine (dropI hS hfed _).mono ?_
        rintro e w20 ⟨rfl, hb⟩
        have hg5' : w20.heap[g5]? = some (.cells (train r s t F) 28 (0, 0)) := (by first | (with_reducible assumption) | (with_reducible exact blk_new _ _ _ rfl) | (with_reducible exact chainN _ _ _ _) | (with_reducible exact chain1 (by assumption)) | (with_reducible exact old0 (by assumption) (by assumption)) | (with_reducible exact old1 (by assumption) (by assumption)) | (with_reducible exact new1 (by assumption)))
        have hg21' : w20.heap[g21]? = some (.cells (train r s t (washF r F cov)) 28 (0, 0)) := (by first | (with_reducible assumption) | (with_reducible exact blk_new _ _ _ rfl) | (with_reducible exact chainN _ _ _ _) | (with_reducible exact chain1 (by assumption)) | (with_reducible exact old0 (by assumption) (by assumption)) | (with_reducible exact old1 (by assumption) (by assumption)) | (with_reducible exact new1 (by assumption)))
        have hg23' : w20.heap[g23]? = some (.cells (train r s t (washF r F cov)) 28 (0, 0)) := (by first | (with_reducible assumption) | (with_reducible exact blk_new _ _ _ rfl) | (with_reducible exact chainN _ _ _ _) | (with_reducible exact chain1 (by assumption)) | (with_reducible exact old0 (by assumption) (by assumption)) | (with_reducible exact old1 (by assumption) (by assumption)) | (with_reducible exact new1 (by assumption)))
        have hg32' : w20.heap[g32]? = some (.cells (train (r + 1) s t (upd F r.toNat fed)) 28 (0, 0)) := (by first | (with_reducible assumption) | (with_reducible exact blk_new _ _ _ rfl) | (with_reducible exact chainN _ _ _ _) | (with_reducible exact chain1 (by assumption)) | (with_reducible exact old0 (by assumption) (by assumption)) | (with_reducible exact old1 (by assumption) (by assumption)) | (with_reducible exact new1 (by assumption)))
        have hg34' : w20.heap[g34]? = some (.cells (train (r + 1) s t (upd F r.toNat fed)) 28 (0, 0)) := (by first | (with_reducible assumption) | (with_reducible exact blk_new _ _ _ rfl) | (with_reducible exact chainN _ _ _ _) | (with_reducible exact chain1 (by assumption)) | (with_reducible exact old0 (by assumption) (by assumption)) | (with_reducible exact old1 (by assumption) (by assumption)) | (with_reducible exact new1 (by assumption)))
        have hB' : Below w.heap.size w w20 := (by first | (with_reducible assumption) | (with_reducible exact bel0 (by assumption) (by assumption) hB.size) | (with_reducible exact bel1 (by assumption) (by assumption) hB.size) | (with_reducible exact belr hB hB.size))
        have hz20 := hb.size
        try simp at hz20
        clear hB hb hg5 hg21 hg23 hg32 hg34 
        generalize hgz19 : w19.heap.size = z19 at *
        clear hgz19
        have hB := hB'; clear hB'
        have hg5 := hg5'; clear hg5'
        have hg21 := hg21'; clear hg21'
        have hg23 := hg23'; clear hg23'
        have hg32 := hg32'; clear hg32'
        have hg34 := hg34'; clear hg34'
        go_wp2_with (first | ((with_reducible refine at_load 28 ?_); refine wpList_load_part rfl 28 _ rfl _ 0 15 rfl _ _ _ _ (by first | (with_reducible assumption) | (with_reducible exact blk_new _ _ _ rfl) | (with_reducible exact chainN _ _ _ _) | (with_reducible exact chain1 (by assumption)) | (with_reducible exact old0 (by assumption) (by assumption)) | (with_reducible exact old1 (by assumption) (by assumption)) | (with_reducible exact new1 (by assumption))) Try.underlying28 rfl (by kernel_rfl) (by simp [row_size]) _ (row_all [_, _, _] 12 _) ?_) | ((with_reducible refine at_store 28 ?_); refine wpList_store_part rfl 28 _ _ rfl _ 0 _ rfl rfl _ _ (by first | (with_reducible assumption) | (with_reducible exact blk_new _ _ _ rfl) | (with_reducible exact chainN _ _ _ _) | (with_reducible exact chain1 (by assumption)) | (with_reducible exact old0 (by assumption) (by assumption)) | (with_reducible exact old1 (by assumption) (by assumption)) | (with_reducible exact new1 (by assumption))) (by rw [row_size]; kernel_rfl) (by simp [row_size]) (row_cells _ _ _ rfl) _ (row_over _ _ 12 _ _ (by simp)) ?_))
        refine (a2train_any ao' n' cap' _ (bytes_wide (bytes_below (b := w.heap.size) (by first | (with_reducible assumption) | (with_reducible exact bel0 (by assumption) (by assumption) hB.size) | (with_reducible exact bel1 (by assumption) (by assumption) hB.size) | (repeat (first | (with_reducible assumption) | (with_reducible exact Below.refl _ _) | ((with_reducible refine bel_alloc _ ?_ ?_); focus (first | omega | (simp; done) | (simp; omega))) | ((with_reducible refine bel_row _ ?_ ?_); focus (first | omega | (simp; done) | (simp; omega))) | ((with_reducible refine bel_cell _ ?_ ?_); focus (first | omega | (simp; done) | (simp; omega))) | (with_reducible refine Below.drew ?_) | (with_reducible refine below_wideW _ ?_) | ((with_reducible refine bel_next (by assumption) ?_ ?_); focus (first | omega | (simp; done) | (simp; omega)))))) hy') (by simp; omega))).mono ?_
        rintro e w21 ⟨r', s', t', F', rfl, hS', hb⟩
        have hg5' : w21.heap[g5]? = some (.cells (train r s t F) 28 (0, 0)) := (by first | (with_reducible assumption) | (with_reducible exact blk_new _ _ _ rfl) | (with_reducible exact chainN _ _ _ _) | (with_reducible exact chain1 (by assumption)) | (with_reducible exact old0 (by assumption) (by assumption)) | (with_reducible exact old1 (by assumption) (by assumption)) | (with_reducible exact new1 (by assumption)))
        have hg21' : w21.heap[g21]? = some (.cells (train r s t (washF r F cov)) 28 (0, 0)) := (by first | (with_reducible assumption) | (with_reducible exact blk_new _ _ _ rfl) | (with_reducible exact chainN _ _ _ _) | (with_reducible exact chain1 (by assumption)) | (with_reducible exact old0 (by assumption) (by assumption)) | (with_reducible exact old1 (by assumption) (by assumption)) | (with_reducible exact new1 (by assumption)))
        have hg23' : w21.heap[g23]? = some (.cells (train r s t (washF r F cov)) 28 (0, 0)) := (by first | (with_reducible assumption) | (with_reducible exact blk_new _ _ _ rfl) | (with_reducible exact chainN _ _ _ _) | (with_reducible exact chain1 (by assumption)) | (with_reducible exact old0 (by assumption) (by assumption)) | (with_reducible exact old1 (by assumption) (by assumption)) | (with_reducible exact new1 (by assumption)))
        have hg32' : w21.heap[g32]? = some (.cells (train (r + 1) s t (upd F r.toNat fed)) 28 (0, 0)) := (by first | (with_reducible assumption) | (with_reducible exact blk_new _ _ _ rfl) | (with_reducible exact chainN _ _ _ _) | (with_reducible exact chain1 (by assumption)) | (with_reducible exact old0 (by assumption) (by assumption)) | (with_reducible exact old1 (by assumption) (by assumption)) | (with_reducible exact new1 (by assumption)))
        have hg34' : w21.heap[g34]? = some (.cells (train (r + 1) s t (upd F r.toNat fed)) 28 (0, 0)) := (by first | (with_reducible assumption) | (with_reducible exact blk_new _ _ _ rfl) | (with_reducible exact chainN _ _ _ _) | (with_reducible exact chain1 (by assumption)) | (with_reducible exact old0 (by assumption) (by assumption)) | (with_reducible exact old1 (by assumption) (by assumption)) | (with_reducible exact new1 (by assumption)))
        have hg36' : w21.heap[w20.heap.size]? = some (.cells (train r s t (dropF r.toNat r.toNat (upd F r.toNat fed))) 28 (0, 0)) := (by first | (with_reducible assumption) | (with_reducible exact blk_new _ _ _ rfl) | (with_reducible exact chainN _ _ _ _) | (with_reducible exact chain1 (by assumption)) | (with_reducible exact old0 (by assumption) (by assumption)) | (with_reducible exact old1 (by assumption) (by assumption)) | (with_reducible exact new1 (by assumption)))
        have hB' : Below w.heap.size w w21 := (by first | (with_reducible assumption) | (with_reducible exact bel0 (by assumption) (by assumption) hB.size) | (with_reducible exact bel1 (by assumption) (by assumption) hB.size) | (with_reducible exact belr hB hB.size))
        have hz21 := hb.size
        try simp at hz21
        clear hB hb hg5 hg21 hg23 hg32 hg34 
        generalize hgg36 : w20.heap.size = g36 at *
        clear hgg36
        have hB := hB'; clear hB'
        have hg5 := hg5'; clear hg5'
        have hg21 := hg21'; clear hg21'
        have hg23 := hg23'; clear hg23'
        have hg32 := hg32'; clear hg32'
        have hg34 := hg34'; clear hg34'
        have hg36 := hg36'; clear hg36'
        go_upto_region 29 with (first | ((with_reducible refine at_load 28 ?_); refine wpList_load_part rfl 28 _ rfl _ 0 15 rfl _ _ _ _ (by first | (with_reducible assumption) | (with_reducible exact blk_new _ _ _ rfl) | (with_reducible exact chainN _ _ _ _) | (with_reducible exact chain1 (by assumption)) | (with_reducible exact old0 (by assumption) (by assumption)) | (with_reducible exact old1 (by assumption) (by assumption)) | (with_reducible exact new1 (by assumption))) Try.underlying28 rfl (by kernel_rfl) (by simp [row_size]) _ (row_all [_, _, _] 12 _) ?_) | ((with_reducible refine at_store 28 ?_); refine wpList_store_part rfl 28 _ _ rfl _ 0 _ rfl rfl _ _ (by first | (with_reducible assumption) | (with_reducible exact blk_new _ _ _ rfl) | (with_reducible exact chainN _ _ _ _) | (with_reducible exact chain1 (by assumption)) | (with_reducible exact old0 (by assumption) (by assumption)) | (with_reducible exact old1 (by assumption) (by assumption)) | (with_reducible exact new1 (by assumption))) (by rw [row_size]; kernel_rfl) (by simp [row_size]) (row_cells _ _ _ rfl) _ (row_over _ _ 12 _ _ (by simp)) ?_))
        generalize hw : World.setRow _ _ _ = w22
        have hz22 : w21.heap.size + 1 ≤ w22.heap.size := by rw [← hw]; simp
        have hg5' : w22.heap[g5]? = some (.cells (train r s t F) 28 (0, 0)) := by rw [← hw]; exact (by first | (with_reducible assumption) | (with_reducible exact blk_new _ _ _ rfl) | (with_reducible exact chainN _ _ _ _) | (with_reducible exact chain1 (by assumption)) | (with_reducible exact old0 (by assumption) (by assumption)) | (with_reducible exact old1 (by assumption) (by assumption)) | (with_reducible exact new1 (by assumption)))
        have hg21' : w22.heap[g21]? = some (.cells (train r s t (washF r F cov)) 28 (0, 0)) := by rw [← hw]; exact (by first | (with_reducible assumption) | (with_reducible exact blk_new _ _ _ rfl) | (with_reducible exact chainN _ _ _ _) | (with_reducible exact chain1 (by assumption)) | (with_reducible exact old0 (by assumption) (by assumption)) | (with_reducible exact old1 (by assumption) (by assumption)) | (with_reducible exact new1 (by assumption)))
        have hg23' : w22.heap[g23]? = some (.cells (train r s t (washF r F cov)) 28 (0, 0)) := by rw [← hw]; exact (by first | (with_reducible assumption) | (with_reducible exact blk_new _ _ _ rfl) | (with_reducible exact chainN _ _ _ _) | (with_reducible exact chain1 (by assumption)) | (with_reducible exact old0 (by assumption) (by assumption)) | (with_reducible exact old1 (by assumption) (by assumption)) | (with_reducible exact new1 (by assumption)))
        have hg32' : w22.heap[g32]? = some (.cells (train (r + 1) s t (upd F r.toNat fed)) 28 (0, 0)) := by rw [← hw]; exact (by first | (with_reducible assumption) | (with_reducible exact blk_new _ _ _ rfl) | (with_reducible exact chainN _ _ _ _) | (with_reducible exact chain1 (by assumption)) | (with_reducible exact old0 (by assumption) (by assumption)) | (with_reducible exact old1 (by assumption) (by assumption)) | (with_reducible exact new1 (by assumption)))
        have hg34' : w22.heap[g34]? = some (.cells (train (r + 1) s t (upd F r.toNat fed)) 28 (0, 0)) := by rw [← hw]; exact (by first | (with_reducible assumption) | (with_reducible exact blk_new _ _ _ rfl) | (with_reducible exact chainN _ _ _ _) | (with_reducible exact chain1 (by assumption)) | (with_reducible exact old0 (by assumption) (by assumption)) | (with_reducible exact old1 (by assumption) (by assumption)) | (with_reducible exact new1 (by assumption)))
        have hg36' : w22.heap[g36]? = some (.cells (train r s t (dropF r.toNat r.toNat (upd F r.toNat fed))) 28 (0, 0)) := by rw [← hw]; exact (by first | (with_reducible assumption) | (with_reducible exact blk_new _ _ _ rfl) | (with_reducible exact chainN _ _ _ _) | (with_reducible exact chain1 (by assumption)) | (with_reducible exact old0 (by assumption) (by assumption)) | (with_reducible exact old1 (by assumption) (by assumption)) | (with_reducible exact new1 (by assumption)))
        have hg38' : w22.heap[w21.heap.size]? = some (.cells (train r' s' t' F') 28 (0, 0)) := by rw [← hw]; exact (by first | (with_reducible assumption) | (with_reducible exact blk_new _ _ _ rfl) | (with_reducible exact chainN _ _ _ _) | (with_reducible exact chain1 (by assumption)) | (with_reducible exact old0 (by assumption) (by assumption)) | (with_reducible exact old1 (by assumption) (by assumption)) | (with_reducible exact new1 (by assumption)))
        have hB' : Below w.heap.size w w22 := by rw [← hw]; exact (by first | (with_reducible assumption) | (with_reducible exact bel0 (by assumption) (by assumption) hB.size) | (with_reducible exact bel1 (by assumption) (by assumption) hB.size) | (with_reducible exact belr hB hB.size))
        clear hw
        clear hB  hg5 hg21 hg23 hg32 hg34 hg36 
        generalize hgg38 : w21.heap.size = g38 at *
        clear hgg38
        have hB := hB'; clear hB'
        have hg5 := hg5'; clear hg5'
        have hg21 := hg21'; clear hg21'
        have hg23 := hg23'; clear hg23'
        have hg32 := hg32'; clear hg32'
        have hg34 := hg34'; clear hg34'
        have hg36 := hg36'; clear hg36'
        have hg38 := hg38'; clear hg38'
        have c5 : w22.cell? ⟨g5, 0, none⟩ = some (.int .i8 r) := (cell_of_row _ _ 0 _ _ _ hg5).trans (row_g0 _ _ _ _)
        have c38 : w22.cell? ⟨g38, 0, none⟩ = some (.int .i8 r') := (cell_of_row _ _ 0 _ _ _ hg38).trans (row_g0 _ _ _ _)
        have f38 : w22.frozen? ⟨g38, 0, none⟩ = false := frozen_of_row _ _ _ _ _ hg38
        go_upto_region 30 with (fail)
        generalize hw : World.setCell _ _ _ = w23
        have h38' : w23.heap[g38]? = some (.cells (train r s' t' (cutF r F' r.toNat)) 28 (0, 0)) := by rw [← hw, cutF_none]; exact put_pre (pre := tpre r' s' t') (i := 0) (by simp) hg38
        have hg5' : w23.heap[g5]? = some (.cells (train r s t F) 28 (0, 0)) := by rw [← hw]; exact put_off (by omega) hg5
        have hg21' : w23.heap[g21]? = some (.cells (train r s t (washF r F cov)) 28 (0, 0)) := by rw [← hw]; exact put_off (by omega) hg21
        have hg23' : w23.heap[g23]? = some (.cells (train r s t (washF r F cov)) 28 (0, 0)) := by rw [← hw]; exact put_off (by omega) hg23
        have hg32' : w23.heap[g32]? = some (.cells (train (r + 1) s t (upd F r.toNat fed)) 28 (0, 0)) := by rw [← hw]; exact put_off (by omega) hg32
        have hg34' : w23.heap[g34]? = some (.cells (train (r + 1) s t (upd F r.toNat fed)) 28 (0, 0)) := by rw [← hw]; exact put_off (by omega) hg34
        have hg36' : w23.heap[g36]? = some (.cells (train r s t (dropF r.toNat r.toNat (upd F r.toNat fed))) 28 (0, 0)) := by rw [← hw]; exact put_off (by omega) hg36
        have hB' : Below w.heap.size w w23 := by rw [← hw]; exact hB.setCell (by simp; omega) _
        have hzz : w23.heap.size = w22.heap.size := by rw [← hw]; simp
        clear hw c5 c38 f38 hB hg38 hg5 hg21 hg23 hg32 hg34 hg36
        have hg5 := hg5'; clear hg5'
        have hg21 := hg21'; clear hg21'
        have hg23 := hg23'; clear hg23'
        have hg32 := hg32'; clear hg32'
        have hg34 := hg34'; clear hg34'
        have hg36 := hg36'; clear hg36'
        have hB := hB'; clear hB'
        have c5 : w23.cell? ⟨g5, 0, none⟩ = some (.int .i8 r) := (cell_of_row _ _ 0 _ _ _ hg5).trans (row_g0 _ _ _ _)
        go_wp2_with (fail)
        clear c5
        go_loopw [39] (fun i wr => ∃ k : Nat, k ≤ 12 ∧ r ≤ (k : Int) ∧ i = .int .i64 k ∧ wr.heap[g38]? = some (.cells (train r s' t' (cutF r F' k)) 28 (0, 0)) ∧ (∀ i, i ≠ g38 → wr.heap[i]? = w23.heap[i]?) ∧ wr.heap.size = w23.heap.size ∧ Below w.heap.size w wr) (fun i _ => 12 - (intOf i).toNat)
        case atStart => exact ⟨r.toNat, by omega, by omega, by rw [Int.toNat_of_nonneg (by omega)], h38', fun _ _ => rfl, rfl, hB⟩
        case round =>
          obtain ⟨k, hk, hrk, rfl, h38, hoff, hsz, hBr⟩ := hrel
          by_cases hlt : k < 12
          · have ck : wr.cell? ⟨g38, 3 + k, none⟩ = some (.float .f32 (cutF r F' k k)) := (cell_of_row _ _ (3 + k) _ _ _ h38).trans (row_k3 _ _ _ _ _ hlt)
            have fk : wr.frozen? ⟨g38, 3 + k, none⟩ = false := frozen_of_row _ _ _ _ _ h38
            clear hg5 hg21 hg23 hg32 hg34 hg36 hB h38'
            go_wp2_with (fail)
            go_roundw
            case rel => exact ⟨k + 1, by omega, by omega, by go_num, cutF_put (pre := tpre r s' t') (by omega) hlt h38, fun i hi => (heap_setCell_other _ _ i _ hi).trans (hoff i hi), by simp [hsz], hBr.setCell (by simp; omega) _⟩
            case measure => simp [intOf]; omega
          · obtain rfl : k = 12 := by omega
            have hg5' : wr.heap[g5]? = some (.cells (train r s t F) 28 (0, 0)) := (hoff _ (by omega)).trans hg5
            have hg21' : wr.heap[g21]? = some (.cells (train r s t (washF r F cov)) 28 (0, 0)) := (hoff _ (by omega)).trans hg21
            have hg23' : wr.heap[g23]? = some (.cells (train r s t (washF r F cov)) 28 (0, 0)) := (hoff _ (by omega)).trans hg23
            have hg32' : wr.heap[g32]? = some (.cells (train (r + 1) s t (upd F r.toNat fed)) 28 (0, 0)) := (hoff _ (by omega)).trans hg32
            have hg34' : wr.heap[g34]? = some (.cells (train (r + 1) s t (upd F r.toNat fed)) 28 (0, 0)) := (hoff _ (by omega)).trans hg34
            have hg36' : wr.heap[g36]? = some (.cells (train r s t (dropF r.toNat r.toNat (upd F r.toNat fed))) 28 (0, 0)) := (hoff _ (by omega)).trans hg36
            have hzr : wr.heap.size = w23.heap.size := hsz
            clear hg5 hg21 hg23 hg32 hg34 hg36 hB h38' hoff hsz
            have hg5 := hg5'; clear hg5'
            have hg21 := hg21'; clear hg21'
            have hg23 := hg23'; clear hg23'
            have hg32 := hg32'; clear hg32'
            have hg34 := hg34'; clear hg34'
            have hg36 := hg36'; clear hg36'
            have hB := hBr; clear hBr
            have hg38 := h38; clear h38
            have hU := cut_small hS hS'
            go_wp2_with (first | ((with_reducible refine at_load 28 ?_); refine wpList_load_part rfl 28 _ rfl _ 0 15 rfl _ _ _ _ (by first | (with_reducible assumption) | (with_reducible exact blk_new _ _ _ rfl) | (with_reducible exact chainN _ _ _ _) | (with_reducible exact chain1 (by assumption)) | (with_reducible exact old0 (by assumption) (by assumption)) | (with_reducible exact old1 (by assumption) (by assumption)) | (with_reducible exact new1 (by assumption))) Try.underlying28 rfl (by kernel_rfl) (by simp [row_size]) _ (row_all [_, _, _] 12 _) ?_) | ((with_reducible refine at_store 28 ?_); refine wpList_store_part rfl 28 _ _ rfl _ 0 _ rfl rfl _ _ (by first | (with_reducible assumption) | (with_reducible exact blk_new _ _ _ rfl) | (with_reducible exact chainN _ _ _ _) | (with_reducible exact chain1 (by assumption)) | (with_reducible exact old0 (by assumption) (by assumption)) | (with_reducible exact old1 (by assumption) (by assumption)) | (with_reducible exact new1 (by assumption))) (by rw [row_size]; kernel_rfl) (by simp [row_size]) (row_cells _ _ _ rfl) _ (row_over _ _ 12 _ _ (by simp)) ?_))
            refine (mixI hS hU _).mono ?_
            rintro e w24 ⟨rfl, hb⟩
            have hg5' : w24.heap[g5]? = some (.cells (train r s t F) 28 (0, 0)) := (by first | (with_reducible assumption) | (with_reducible exact blk_new _ _ _ rfl) | (with_reducible exact chainN _ _ _ _) | (with_reducible exact chain1 (by assumption)) | (with_reducible exact old0 (by assumption) (by assumption)) | (with_reducible exact old1 (by assumption) (by assumption)) | (with_reducible exact new1 (by assumption)))
            have hg21' : w24.heap[g21]? = some (.cells (train r s t (washF r F cov)) 28 (0, 0)) := (by first | (with_reducible assumption) | (with_reducible exact blk_new _ _ _ rfl) | (with_reducible exact chainN _ _ _ _) | (with_reducible exact chain1 (by assumption)) | (with_reducible exact old0 (by assumption) (by assumption)) | (with_reducible exact old1 (by assumption) (by assumption)) | (with_reducible exact new1 (by assumption)))
            have hg23' : w24.heap[g23]? = some (.cells (train r s t (washF r F cov)) 28 (0, 0)) := (by first | (with_reducible assumption) | (with_reducible exact blk_new _ _ _ rfl) | (with_reducible exact chainN _ _ _ _) | (with_reducible exact chain1 (by assumption)) | (with_reducible exact old0 (by assumption) (by assumption)) | (with_reducible exact old1 (by assumption) (by assumption)) | (with_reducible exact new1 (by assumption)))
            have hg32' : w24.heap[g32]? = some (.cells (train (r + 1) s t (upd F r.toNat fed)) 28 (0, 0)) := (by first | (with_reducible assumption) | (with_reducible exact blk_new _ _ _ rfl) | (with_reducible exact chainN _ _ _ _) | (with_reducible exact chain1 (by assumption)) | (with_reducible exact old0 (by assumption) (by assumption)) | (with_reducible exact old1 (by assumption) (by assumption)) | (with_reducible exact new1 (by assumption)))
            have hg34' : w24.heap[g34]? = some (.cells (train (r + 1) s t (upd F r.toNat fed)) 28 (0, 0)) := (by first | (with_reducible assumption) | (with_reducible exact blk_new _ _ _ rfl) | (with_reducible exact chainN _ _ _ _) | (with_reducible exact chain1 (by assumption)) | (with_reducible exact old0 (by assumption) (by assumption)) | (with_reducible exact old1 (by assumption) (by assumption)) | (with_reducible exact new1 (by assumption)))
            have hg36' : w24.heap[g36]? = some (.cells (train r s t (dropF r.toNat r.toNat (upd F r.toNat fed))) 28 (0, 0)) := (by first | (with_reducible assumption) | (with_reducible exact blk_new _ _ _ rfl) | (with_reducible exact chainN _ _ _ _) | (with_reducible exact chain1 (by assumption)) | (with_reducible exact old0 (by assumption) (by assumption)) | (with_reducible exact old1 (by assumption) (by assumption)) | (with_reducible exact new1 (by assumption)))
            have hg38' : w24.heap[g38]? = some (.cells (train r s' t' (cutF r F' 12)) 28 (0, 0)) := (by first | (with_reducible assumption) | (with_reducible exact blk_new _ _ _ rfl) | (with_reducible exact chainN _ _ _ _) | (with_reducible exact chain1 (by assumption)) | (with_reducible exact old0 (by assumption) (by assumption)) | (with_reducible exact old1 (by assumption) (by assumption)) | (with_reducible exact new1 (by assumption)))
            have hB' : Below w.heap.size w w24 := (by first | (with_reducible assumption) | (with_reducible exact bel0 (by assumption) (by assumption) hB.size) | (with_reducible exact bel1 (by assumption) (by assumption) hB.size) | (with_reducible exact belr hB hB.size))
            have hz24 := hb.size
            try simp at hz24
            clear hB hb hg5 hg21 hg23 hg32 hg34 hg36 hg38 
            generalize hgz23 : wr.heap.size = z23 at *
            clear hgz23
            have hB := hB'; clear hB'
            have hg5 := hg5'; clear hg5'
            have hg21 := hg21'; clear hg21'
            have hg23 := hg23'; clear hg23'
            have hg32 := hg32'; clear hg32'
            have hg34 := hg34'; clear hg34'
            have hg36 := hg36'; clear hg36'
            have hg38 := hg38'; clear hg38'
            go_wp2_with (first | ((with_reducible refine at_load 28 ?_); refine wpList_load_part rfl 28 _ rfl _ 0 15 rfl _ _ _ _ (by first | (with_reducible assumption) | (with_reducible exact blk_new _ _ _ rfl) | (with_reducible exact chainN _ _ _ _) | (with_reducible exact chain1 (by assumption)) | (with_reducible exact old0 (by assumption) (by assumption)) | (with_reducible exact old1 (by assumption) (by assumption)) | (with_reducible exact new1 (by assumption))) Try.underlying28 rfl (by kernel_rfl) (by simp [row_size]) _ (row_all [_, _, _] 12 _) ?_) | ((with_reducible refine at_store 28 ?_); refine wpList_store_part rfl 28 _ _ rfl _ 0 _ rfl rfl _ _ (by first | (with_reducible assumption) | (with_reducible exact blk_new _ _ _ rfl) | (with_reducible exact chainN _ _ _ _) | (with_reducible exact chain1 (by assumption)) | (with_reducible exact old0 (by assumption) (by assumption)) | (with_reducible exact old1 (by assumption) (by assumption)) | (with_reducible exact new1 (by assumption))) (by rw [row_size]; kernel_rfl) (by simp [row_size]) (row_cells _ _ _ rfl) _ (row_over _ _ 12 _ _ (by simp)) ?_))
            refine (mixS hS hU _).mono ?_
            rintro e w25 ⟨rfl, hb⟩
            have hg5' : w25.heap[g5]? = some (.cells (train r s t F) 28 (0, 0)) := (by first | (with_reducible assumption) | (with_reducible exact blk_new _ _ _ rfl) | (with_reducible exact chainN _ _ _ _) | (with_reducible exact chain1 (by assumption)) | (with_reducible exact old0 (by assumption) (by assumption)) | (with_reducible exact old1 (by assumption) (by assumption)) | (with_reducible exact new1 (by assumption)))
            have hg21' : w25.heap[g21]? = some (.cells (train r s t (washF r F cov)) 28 (0, 0)) := (by first | (with_reducible assumption) | (with_reducible exact blk_new _ _ _ rfl) | (with_reducible exact chainN _ _ _ _) | (with_reducible exact chain1 (by assumption)) | (with_reducible exact old0 (by assumption) (by assumption)) | (with_reducible exact old1 (by assumption) (by assumption)) | (with_reducible exact new1 (by assumption)))
            have hg23' : w25.heap[g23]? = some (.cells (train r s t (washF r F cov)) 28 (0, 0)) := (by first | (with_reducible assumption) | (with_reducible exact blk_new _ _ _ rfl) | (with_reducible exact chainN _ _ _ _) | (with_reducible exact chain1 (by assumption)) | (with_reducible exact old0 (by assumption) (by assumption)) | (with_reducible exact old1 (by assumption) (by assumption)) | (with_reducible exact new1 (by assumption)))
            have hg32' : w25.heap[g32]? = some (.cells (train (r + 1) s t (upd F r.toNat fed)) 28 (0, 0)) := (by first | (with_reducible assumption) | (with_reducible exact blk_new _ _ _ rfl) | (with_reducible exact chainN _ _ _ _) | (with_reducible exact chain1 (by assumption)) | (with_reducible exact old0 (by assumption) (by assumption)) | (with_reducible exact old1 (by assumption) (by assumption)) | (with_reducible exact new1 (by assumption)))
            have hg34' : w25.heap[g34]? = some (.cells (train (r + 1) s t (upd F r.toNat fed)) 28 (0, 0)) := (by first | (with_reducible assumption) | (with_reducible exact blk_new _ _ _ rfl) | (with_reducible exact chainN _ _ _ _) | (with_reducible exact chain1 (by assumption)) | (with_reducible exact old0 (by assumption) (by assumption)) | (with_reducible exact old1 (by assumption) (by assumption)) | (with_reducible exact new1 (by assumption)))
            have hg36' : w25.heap[g36]? = some (.cells (train r s t (dropF r.toNat r.toNat (upd F r.toNat fed))) 28 (0, 0)) := (by first | (with_reducible assumption) | (with_reducible exact blk_new _ _ _ rfl) | (with_reducible exact chainN _ _ _ _) | (with_reducible exact chain1 (by assumption)) | (with_reducible exact old0 (by assumption) (by assumption)) | (with_reducible exact old1 (by assumption) (by assumption)) | (with_reducible exact new1 (by assumption)))
            have hg38' : w25.heap[g38]? = some (.cells (train r s' t' (cutF r F' 12)) 28 (0, 0)) := (by first | (with_reducible assumption) | (with_reducible exact blk_new _ _ _ rfl) | (with_reducible exact chainN _ _ _ _) | (with_reducible exact chain1 (by assumption)) | (with_reducible exact old0 (by assumption) (by assumption)) | (with_reducible exact old1 (by assumption) (by assumption)) | (with_reducible exact new1 (by assumption)))
            have hg40' : w25.heap[w24.heap.size]? = some (.cells (train r s t (mixTF r F (cutF r F' 12))) 28 (0, 0)) := (by first | (with_reducible assumption) | (with_reducible exact blk_new _ _ _ rfl) | (with_reducible exact chainN _ _ _ _) | (with_reducible exact chain1 (by assumption)) | (with_reducible exact old0 (by assumption) (by assumption)) | (with_reducible exact old1 (by assumption) (by assumption)) | (with_reducible exact new1 (by assumption)))
            have hB' : Below w.heap.size w w25 := (by first | (with_reducible assumption) | (with_reducible exact bel0 (by assumption) (by assumption) hB.size) | (with_reducible exact bel1 (by assumption) (by assumption) hB.size) | (with_reducible exact belr hB hB.size))
            have hz25 := hb.size
            try simp at hz25
            clear hB hb hg5 hg21 hg23 hg32 hg34 hg36 hg38 
            generalize hgg40 : w24.heap.size = g40 at *
            clear hgg40
            have hB := hB'; clear hB'
            have hg5 := hg5'; clear hg5'
            have hg21 := hg21'; clear hg21'
            have hg23 := hg23'; clear hg23'
            have hg32 := hg32'; clear hg32'
            have hg34 := hg34'; clear hg34'
            have hg36 := hg36'; clear hg36'
            have hg38 := hg38'; clear hg38'
            have hg40 := hg40'; clear hg40'
            go_wp2_with (first | ((with_reducible refine at_load 28 ?_); refine wpList_load_part rfl 28 _ rfl _ 0 15 rfl _ _ _ _ (by first | (with_reducible assumption) | (with_reducible exact blk_new _ _ _ rfl) | (with_reducible exact chainN _ _ _ _) | (with_reducible exact chain1 (by assumption)) | (with_reducible exact old0 (by assumption) (by assumption)) | (with_reducible exact old1 (by assumption) (by assumption)) | (with_reducible exact new1 (by assumption))) Try.underlying28 rfl (by kernel_rfl) (by simp [row_size]) _ (row_all [_, _, _] 12 _) ?_) | ((with_reducible refine at_store 28 ?_); refine wpList_store_part rfl 28 _ _ rfl _ 0 _ rfl rfl _ _ (by first | (with_reducible assumption) | (with_reducible exact blk_new _ _ _ rfl) | (with_reducible exact chainN _ _ _ _) | (with_reducible exact chain1 (by assumption)) | (with_reducible exact old0 (by assumption) (by assumption)) | (with_reducible exact old1 (by assumption) (by assumption)) | (with_reducible exact new1 (by assumption))) (by rw [row_size]; kernel_rfl) (by simp [row_size]) (row_cells _ _ _ rfl) _ (row_over _ _ 12 _ _ (by simp)) ?_))
            refine (fedI hS hfed hcov _).mono ?_
            rintro e w26 ⟨rfl, hb⟩
            have hg5' : w26.heap[g5]? = some (.cells (train r s t F) 28 (0, 0)) := (by first | (with_reducible assumption) | (with_reducible exact blk_new _ _ _ rfl) | (with_reducible exact chainN _ _ _ _) | (with_reducible exact chain1 (by assumption)) | (with_reducible exact old0 (by assumption) (by assumption)) | (with_reducible exact old1 (by assumption) (by assumption)) | (with_reducible exact new1 (by assumption)))
            have hg21' : w26.heap[g21]? = some (.cells (train r s t (washF r F cov)) 28 (0, 0)) := (by first | (with_reducible assumption) | (with_reducible exact blk_new _ _ _ rfl) | (with_reducible exact chainN _ _ _ _) | (with_reducible exact chain1 (by assumption)) | (with_reducible exact old0 (by assumption) (by assumption)) | (with_reducible exact old1 (by assumption) (by assumption)) | (with_reducible exact new1 (by assumption)))
            have hg23' : w26.heap[g23]? = some (.cells (train r s t (washF r F cov)) 28 (0, 0)) := (by first | (with_reducible assumption) | (with_reducible exact blk_new _ _ _ rfl) | (with_reducible exact chainN _ _ _ _) | (with_reducible exact chain1 (by assumption)) | (with_reducible exact old0 (by assumption) (by assumption)) | (with_reducible exact old1 (by assumption) (by assumption)) | (with_reducible exact new1 (by assumption)))
            have hg32' : w26.heap[g32]? = some (.cells (train (r + 1) s t (upd F r.toNat fed)) 28 (0, 0)) := (by first | (with_reducible assumption) | (with_reducible exact blk_new _ _ _ rfl) | (with_reducible exact chainN _ _ _ _) | (with_reducible exact chain1 (by assumption)) | (with_reducible exact old0 (by assumption) (by assumption)) | (with_reducible exact old1 (by assumption) (by assumption)) | (with_reducible exact new1 (by assumption)))
            have hg34' : w26.heap[g34]? = some (.cells (train (r + 1) s t (upd F r.toNat fed)) 28 (0, 0)) := (by first | (with_reducible assumption) | (with_reducible exact blk_new _ _ _ rfl) | (with_reducible exact chainN _ _ _ _) | (with_reducible exact chain1 (by assumption)) | (with_reducible exact old0 (by assumption) (by assumption)) | (with_reducible exact old1 (by assumption) (by assumption)) | (with_reducible exact new1 (by assumption)))
            have hg36' : w26.heap[g36]? = some (.cells (train r s t (dropF r.toNat r.toNat (upd F r.toNat fed))) 28 (0, 0)) := (by first | (with_reducible assumption) | (with_reducible exact blk_new _ _ _ rfl) | (with_reducible exact chainN _ _ _ _) | (with_reducible exact chain1 (by assumption)) | (with_reducible exact old0 (by assumption) (by assumption)) | (with_reducible exact old1 (by assumption) (by assumption)) | (with_reducible exact new1 (by assumption)))
            have hg38' : w26.heap[g38]? = some (.cells (train r s' t' (cutF r F' 12)) 28 (0, 0)) := (by first | (with_reducible assumption) | (with_reducible exact blk_new _ _ _ rfl) | (with_reducible exact chainN _ _ _ _) | (with_reducible exact chain1 (by assumption)) | (with_reducible exact old0 (by assumption) (by assumption)) | (with_reducible exact old1 (by assumption) (by assumption)) | (with_reducible exact new1 (by assumption)))
            have hg40' : w26.heap[g40]? = some (.cells (train r s t (mixTF r F (cutF r F' 12))) 28 (0, 0)) := (by first | (with_reducible assumption) | (with_reducible exact blk_new _ _ _ rfl) | (with_reducible exact chainN _ _ _ _) | (with_reducible exact chain1 (by assumption)) | (with_reducible exact old0 (by assumption) (by assumption)) | (with_reducible exact old1 (by assumption) (by assumption)) | (with_reducible exact new1 (by assumption)))
            have hg42' : w26.heap[w25.heap.size]? = some (.cells (train r s t (mixTF r F (cutF r F' 12))) 28 (0, 0)) := (by first | (with_reducible assumption) | (with_reducible exact blk_new _ _ _ rfl) | (with_reducible exact chainN _ _ _ _) | (with_reducible exact chain1 (by assumption)) | (with_reducible exact old0 (by assumption) (by assumption)) | (with_reducible exact old1 (by assumption) (by assumption)) | (with_reducible exact new1 (by assumption)))
            have hB' : Below w.heap.size w w26 := (by first | (with_reducible assumption) | (with_reducible exact bel0 (by assumption) (by assumption) hB.size) | (with_reducible exact bel1 (by assumption) (by assumption) hB.size) | (with_reducible exact belr hB hB.size))
            have hz26 := hb.size
            try simp at hz26
            clear hB hb hg5 hg21 hg23 hg32 hg34 hg36 hg38 hg40 
            generalize hgg42 : w25.heap.size = g42 at *
            clear hgg42
            have hB := hB'; clear hB'
            have hg5 := hg5'; clear hg5'
            have hg21 := hg21'; clear hg21'
            have hg23 := hg23'; clear hg23'
            have hg32 := hg32'; clear hg32'
            have hg34 := hg34'; clear hg34'
            have hg36 := hg36'; clear hg36'
            have hg38 := hg38'; clear hg38'
            have hg40 := hg40'; clear hg40'
            have hg42 := hg42'; clear hg42'
            go_wp2_with (first | ((with_reducible refine at_load 28 ?_); refine wpList_load_part rfl 28 _ rfl _ 0 15 rfl _ _ _ _ (by first | (with_reducible assumption) | (with_reducible exact blk_new _ _ _ rfl) | (with_reducible exact chainN _ _ _ _) | (with_reducible exact chain1 (by assumption)) | (with_reducible exact old0 (by assumption) (by assumption)) | (with_reducible exact old1 (by assumption) (by assumption)) | (with_reducible exact new1 (by assumption))) Try.underlying28 rfl (by kernel_rfl) (by simp [row_size]) _ (row_all [_, _, _] 12 _) ?_) | ((with_reducible refine at_store 28 ?_); refine wpList_store_part rfl 28 _ _ rfl _ 0 _ rfl rfl _ _ (by first | (with_reducible assumption) | (with_reducible exact blk_new _ _ _ rfl) | (with_reducible exact chainN _ _ _ _) | (with_reducible exact chain1 (by assumption)) | (with_reducible exact old0 (by assumption) (by assumption)) | (with_reducible exact old1 (by assumption) (by assumption)) | (with_reducible exact new1 (by assumption))) (by rw [row_size]; kernel_rfl) (by simp [row_size]) (row_cells _ _ _ rfl) _ (row_over _ _ 12 _ _ (by simp)) ?_))
            refine (fedS hS hfed hcov _).mono ?_
            rintro e w27 ⟨rfl, hb⟩
            have hg5' : w27.heap[g5]? = some (.cells (train r s t F) 28 (0, 0)) := (by first | (with_reducible assumption) | (with_reducible exact blk_new _ _ _ rfl) | (with_reducible exact chainN _ _ _ _) | (with_reducible exact chain1 (by assumption)) | (with_reducible exact old0 (by assumption) (by assumption)) | (with_reducible exact old1 (by assumption) (by assumption)) | (with_reducible exact new1 (by assumption)))
            have hg21' : w27.heap[g21]? = some (.cells (train r s t (washF r F cov)) 28 (0, 0)) := (by first | (with_reducible assumption) | (with_reducible exact blk_new _ _ _ rfl) | (with_reducible exact chainN _ _ _ _) | (with_reducible exact chain1 (by assumption)) | (with_reducible exact old0 (by assumption) (by assumption)) | (with_reducible exact old1 (by assumption) (by assumption)) | (with_reducible exact new1 (by assumption)))
            have hg23' : w27.heap[g23]? = some (.cells (train r s t (washF r F cov)) 28 (0, 0)) := (by first | (with_reducible assumption) | (with_reducible exact blk_new _ _ _ rfl) | (with_reducible exact chainN _ _ _ _) | (with_reducible exact chain1 (by assumption)) | (with_reducible exact old0 (by assumption) (by assumption)) | (with_reducible exact old1 (by assumption) (by assumption)) | (with_reducible exact new1 (by assumption)))
            have hg32' : w27.heap[g32]? = some (.cells (train (r + 1) s t (upd F r.toNat fed)) 28 (0, 0)) := (by first | (with_reducible assumption) | (with_reducible exact blk_new _ _ _ rfl) | (with_reducible exact chainN _ _ _ _) | (with_reducible exact chain1 (by assumption)) | (with_reducible exact old0 (by assumption) (by assumption)) | (with_reducible exact old1 (by assumption) (by assumption)) | (with_reducible exact new1 (by assumption)))
            have hg34' : w27.heap[g34]? = some (.cells (train (r + 1) s t (upd F r.toNat fed)) 28 (0, 0)) := (by first | (with_reducible assumption) | (with_reducible exact blk_new _ _ _ rfl) | (with_reducible exact chainN _ _ _ _) | (with_reducible exact chain1 (by assumption)) | (with_reducible exact old0 (by assumption) (by assumption)) | (with_reducible exact old1 (by assumption) (by assumption)) | (with_reducible exact new1 (by assumption)))
            have hg36' : w27.heap[g36]? = some (.cells (train r s t (dropF r.toNat r.toNat (upd F r.toNat fed))) 28 (0, 0)) := (by first | (with_reducible assumption) | (with_reducible exact blk_new _ _ _ rfl) | (with_reducible exact chainN _ _ _ _) | (with_reducible exact chain1 (by assumption)) | (with_reducible exact old0 (by assumption) (by assumption)) | (with_reducible exact old1 (by assumption) (by assumption)) | (with_reducible exact new1 (by assumption)))
            have hg38' : w27.heap[g38]? = some (.cells (train r s' t' (cutF r F' 12)) 28 (0, 0)) := (by first | (with_reducible assumption) | (with_reducible exact blk_new _ _ _ rfl) | (with_reducible exact chainN _ _ _ _) | (with_reducible exact chain1 (by assumption)) | (with_reducible exact old0 (by assumption) (by assumption)) | (with_reducible exact old1 (by assumption) (by assumption)) | (with_reducible exact new1 (by assumption)))
            have hg40' : w27.heap[g40]? = some (.cells (train r s t (mixTF r F (cutF r F' 12))) 28 (0, 0)) := (by first | (with_reducible assumption) | (with_reducible exact blk_new _ _ _ rfl) | (with_reducible exact chainN _ _ _ _) | (with_reducible exact chain1 (by assumption)) | (with_reducible exact old0 (by assumption) (by assumption)) | (with_reducible exact old1 (by assumption) (by assumption)) | (with_reducible exact new1 (by assumption)))
            have hg42' : w27.heap[g42]? = some (.cells (train r s t (mixTF r F (cutF r F' 12))) 28 (0, 0)) := (by first | (with_reducible assumption) | (with_reducible exact blk_new _ _ _ rfl) | (with_reducible exact chainN _ _ _ _) | (with_reducible exact chain1 (by assumption)) | (with_reducible exact old0 (by assumption) (by assumption)) | (with_reducible exact old1 (by assumption) (by assumption)) | (with_reducible exact new1 (by assumption)))
            have hB' : Below w.heap.size w w27 := (by first | (with_reducible assumption) | (with_reducible exact bel0 (by assumption) (by assumption) hB.size) | (with_reducible exact bel1 (by assumption) (by assumption) hB.size) | (with_reducible exact belr hB hB.size))
            have hz27 := hb.size
            try simp at hz27
            clear hB hb hg5 hg21 hg23 hg32 hg34 hg36 hg38 hg40 hg42 
            generalize hgz26 : w26.heap.size = z26 at *
            clear hgz26
            have hB := hB'; clear hB'
            have hg5 := hg5'; clear hg5'
            have hg21 := hg21'; clear hg21'
            have hg23 := hg23'; clear hg23'
            have hg32 := hg32'; clear hg32'
            have hg34 := hg34'; clear hg34'
            have hg36 := hg36'; clear hg36'
            have hg38 := hg38'; clear hg38'
            have hg40 := hg40'; clear hg40'
            have hg42 := hg42'; clear hg42'
            have hA12 : A < 12 := by omega
            go_upto_region 38 with (fail)
            dsimp only [List.append]
            go_cut [350] from 245 to 350 (fun sx wx => sx = .bool false ∧ wx.heap[g5]? = some (.cells (train r s t F) 28 (0, 0)) ∧ wx.heap[g23]? = some (.cells (train r s t (washF r F cov)) 28 (0, 0)) ∧ wx.heap[g38]? = some (.cells (train r s' t' (cutF r F' 12)) 28 (0, 0)) ∧ wx.heap[g42]? = some (.cells (train r s t (mixTF r F (cutF r F' 12))) 28 (0, 0)) ∧ Below w.heap.size w wx ∧ w27.heap.size ≤ wx.heap.size)
            case first =>
              rename_i J K1 hRJ hMK
              exact steady_tests (U := cutF r F' 12) hS hfed hAr hB hg5 hg21 hg23 hg32 hg34 hg36 hg38 hg40 hg42 (fun a' w' h => hMK _ _ (Met.intro (hRJ _ _ h)))
            case rest =>
              rename World => wd
              obtain ⟨rfl, hg5', hg23', hg38', hg42', hB', hzc3⟩ := hcut
              clear hB hg5 hg21 hg23 hg32 hg34 hg36 hg38 hg40 hg42
              have hg5 := hg5'; clear hg5'
              have hg23 := hg23'; clear hg23'
              have hg38 := hg38'; clear hg38'
              have hg42 := hg42'; clear hg42'
              have hB := hB'; clear hB'
              generalize hgz : w27.heap.size = zc3 at *
              clear hgz
              go_upto_block 4 with (fail)
              go_cut [48] from 351 to 452 (fun sx wx => sx = .bool (fallsTo F r.toNat) ∧ wx.heap[g5]? = some (.cells (train r s t F) 28 (0, 0)) ∧ Below w.heap.size w wx)
              case first =>
                rename_i J K1 hRJ hMK
                exact steady_loop hS hU hcov hA hAr hB hg5 hg23 hg38 hg42 (fun a' w' h => hMK _ _ (Met.intro (hRJ _ _ h)))
              case rest =>
                clear hg5 hg23 hg38 hg42 hB
                obtain ⟨rfl, hg5, hB⟩ := hcut
                apply_assumption
                exact steady_tail hS hfed hcov hB hg5 rfl
  · rw [hL] at hLong
    go_enter Try.func3, Try.ntmps3
    go_wp2_with (go_at_call 4; (with_reducible refine (hLong _).mono ?_); rintro e w' ⟨rfl, rfl⟩)
    go_ret
    exact ⟨rfl, (by first | (with_reducible assumption) | (with_reducible exact bel0 (by assumption) (by assumption) hB.size) | (with_reducible exact bel1 (by assumption) (by assumption) hB.size) | (repeat (first | (with_reducible assumption) | (with_reducible exact Below.refl _ _) | ((with_reducible refine bel_alloc _ ?_ ?_); focus (first | omega | (simp; done) | (simp; omega))) | ((with_reducible refine bel_row _ ?_ ?_); focus (first | omega | (simp; done) | (simp; omega))) | ((with_reducible refine bel_cell _ ?_ ?_); focus (first | omega | (simp; done) | (simp; omega))) | (with_reducible refine Below.drew ?_) | (with_reducible refine below_wideW _ ?_) | ((with_reducible refine bel_next (by assumption) ?_ ?_); focus (first | omega | (simp; done) | (simp; omega))))))⟩
end Go.Proofs.Ytiddeijhjedbbaa
