/- The walk through FnGains; under its own premises. -/
import Derived.Test.YtihddajpkcjokaaDoorPF
import Derived.Deep.CutRange
import Derived.Deep.CutBlock

/-! The walk through FnGains; under its own premises. -/
set_option linter.unusedVariables false
set_option linter.unusedSimpArgs false
namespace Go.Proofs.YtihddajpkcjokaaDoor
open Go.RowKit Ieee

set_option maxRecDepth 100000 in
set_option maxHeartbeats 6400000 in
theorem gains_any (ao ao' : Option Addr) (n cap n' cap' : Nat) (w : World) (hy : BytesAt w w.heap.size ao n) (hy' : BytesAt w w.heap.size ao' n') (hT : Libs w) :
    Calls Tryd.prog 3 #[.slice ao n cap, .slice ao' n' cap'] w fun e w' => e = .returned (.bool true) ∧ Below w.heap.size w w' := by
  have hz : Tryd.zeroCells35 = row [.int .i8 0, .int .i8 0] 64 (fun _ => 0) := rfl
  have hLong := fun w => a2Long_any ao ao' n cap n' cap' w hy.1 hy'.1
  cases hL : (decide (3000 < n) || decide (3000 < n'))
  · rw [hL] at hLong
    go_enter Tryd.func3, Tryd.ntmps3
    go_wp2_with (go_at_call 4; (with_reducible refine (hLong _).mono ?_); rintro e w' ⟨rfl, rfl⟩)
    refine (a2part_any ao n cap _ hy).mono ?_
    rintro e w1 ⟨dot, rfl, hd, hb1⟩
    have hz1 := hb1.size
    go_wp2_with (fail)
    refine (a2gain_any ao' n' cap' _ (bytes_wide (bytes_below (b := w.heap.size) hb1 hy') (by omega))).mono ?_
    rintro e w3 ⟨g, rfl, hg, hb2⟩
    have hz2 := hb2.size
    have hB : Below w.heap.size w w3 := bel0 hb2 hb1 hb1.size
    clear hb1 hb2
    generalize w1.heap.size = z1 at *
    have hf := gain_first hd hg
    clear hLong
    go_wp2_with (first | ((with_reducible refine at_load 35 ?_); refine wpList_load_part rfl 35 _ rfl _ 0 66 rfl _ _ _ _ (by first | (with_reducible assumption) | (with_reducible exact blk_new _ _ _ rfl) | (with_reducible exact chainN _ _ _ _) | (with_reducible exact chain1 (by assumption)) | (with_reducible exact old0 (by assumption) (by assumption)) | (with_reducible exact old1 (by assumption) (by assumption)) | (with_reducible exact new1 (by assumption))) Tryd.underlying35 rfl (by kernel_rfl) (by simp [row_size]) _ (row_all [_, _] 64 _) ?_) | ((with_reducible refine at_store 35 ?_); refine wpList_store_part rfl 35 _ _ rfl _ 0 _ rfl rfl _ _ (by first | (with_reducible assumption) | (with_reducible exact blk_new _ _ _ rfl) | (with_reducible exact chainN _ _ _ _) | (with_reducible exact chain1 (by assumption)) | (with_reducible exact old0 (by assumption) (by assumption)) | (with_reducible exact old1 (by assumption) (by assumption)) | (with_reducible exact new1 (by assumption))) (by rw [row_size]; kernel_rfl) (by simp [row_size]) (row_cells _ _ _ rfl) _ (row_over _ _ 64 _ _ (by simp)) ?_))
    refine (gainIG hd hg _).mono ?_
    rintro e w4 ⟨rfl, hb⟩
    have hB' : Below w.heap.size w w4 := (by first | (with_reducible assumption) | (with_reducible exact bel0 (by assumption) (by assumption) hB.size) | (with_reducible exact bel1 (by assumption) (by assumption) hB.size) | (with_reducible exact belr hB hB.size))
    have hz4 := hb.size
    try simp at hz4
    clear hB hb   
    generalize hgz3 : w3.heap.size = z3 at *
    clear hgz3
    have hB := hB'; clear hB'
    go_wp2_with (first | ((with_reducible refine at_load 35 ?_); refine wpList_load_part rfl 35 _ rfl _ 0 66 rfl _ _ _ _ (by first | (with_reducible assumption) | (with_reducible exact blk_new _ _ _ rfl) | (with_reducible exact chainN _ _ _ _) | (with_reducible exact chain1 (by assumption)) | (with_reducible exact old0 (by assumption) (by assumption)) | (with_reducible exact old1 (by assumption) (by assumption)) | (with_reducible exact new1 (by assumption))) Tryd.underlying35 rfl (by kernel_rfl) (by simp [row_size]) _ (row_all [_, _] 64 _) ?_) | ((with_reducible refine at_store 35 ?_); refine wpList_store_part rfl 35 _ _ rfl _ 0 _ rfl rfl _ _ (by first | (with_reducible assumption) | (with_reducible exact blk_new _ _ _ rfl) | (with_reducible exact chainN _ _ _ _) | (with_reducible exact chain1 (by assumption)) | (with_reducible exact old0 (by assumption) (by assumption)) | (with_reducible exact old1 (by assumption) (by assumption)) | (with_reducible exact new1 (by assumption))) (by rw [row_size]; kernel_rfl) (by simp [row_size]) (row_cells _ _ _ rfl) _ (row_over _ _ 64 _ _ (by simp)) ?_))
    refine (gainSG hd hg _).mono ?_
    rintro e w5 ⟨rfl, hb⟩
    have hB' : Below w.heap.size w w5 := (by first | (with_reducible assumption) | (with_reducible exact bel0 (by assumption) (by assumption) hB.size) | (with_reducible exact bel1 (by assumption) (by assumption) hB.size) | (with_reducible exact belr hB hB.size))
    have hz5 := hb.size
    try simp at hz5
    clear hB hb   
    generalize hgz4 : w4.heap.size = z4 at *
    clear hgz4
    have hB := hB'; clear hB'
    go_wp2_with (first | ((with_reducible refine at_load 35 ?_); refine wpList_load_part rfl 35 _ rfl _ 0 66 rfl _ _ _ _ (by first | (with_reducible assumption) | (with_reducible exact blk_new _ _ _ rfl) | (with_reducible exact chainN _ _ _ _) | (with_reducible exact chain1 (by assumption)) | (with_reducible exact old0 (by assumption) (by assumption)) | (with_reducible exact old1 (by assumption) (by assumption)) | (with_reducible exact new1 (by assumption))) Tryd.underlying35 rfl (by kernel_rfl) (by simp [row_size]) _ (row_all [_, _] 64 _) ?_) | ((with_reducible refine at_store 35 ?_); refine wpList_store_part rfl 35 _ _ rfl _ 0 _ rfl rfl _ _ (by first | (with_reducible assumption) | (with_reducible exact blk_new _ _ _ rfl) | (with_reducible exact chainN _ _ _ _) | (with_reducible exact chain1 (by assumption)) | (with_reducible exact old0 (by assumption) (by assumption)) | (with_reducible exact old1 (by assumption) (by assumption)) | (with_reducible exact new1 (by assumption))) (by rw [row_size]; kernel_rfl) (by simp [row_size]) (row_cells _ _ _ rfl) _ (row_over _ _ 64 _ _ (by simp)) ?_))
    refine (loseIG hd hg _).mono ?_
    rintro e w6 ⟨rfl, hb⟩
    have hB' : Below w.heap.size w w6 := (by first | (with_reducible assumption) | (with_reducible exact bel0 (by assumption) (by assumption) hB.size) | (with_reducible exact bel1 (by assumption) (by assumption) hB.size) | (with_reducible exact belr hB hB.size))
    have hz6 := hb.size
    try simp at hz6
    clear hB hb   
    generalize hgz5 : w5.heap.size = z5 at *
    clear hgz5
    have hB := hB'; clear hB'
    go_wp2_with (first | ((with_reducible refine at_load 35 ?_); refine wpList_load_part rfl 35 _ rfl _ 0 66 rfl _ _ _ _ (by first | (with_reducible assumption) | (with_reducible exact blk_new _ _ _ rfl) | (with_reducible exact chainN _ _ _ _) | (with_reducible exact chain1 (by assumption)) | (with_reducible exact old0 (by assumption) (by assumption)) | (with_reducible exact old1 (by assumption) (by assumption)) | (with_reducible exact new1 (by assumption))) Tryd.underlying35 rfl (by kernel_rfl) (by simp [row_size]) _ (row_all [_, _] 64 _) ?_) | ((with_reducible refine at_store 35 ?_); refine wpList_store_part rfl 35 _ _ rfl _ 0 _ rfl rfl _ _ (by first | (with_reducible assumption) | (with_reducible exact blk_new _ _ _ rfl) | (with_reducible exact chainN _ _ _ _) | (with_reducible exact chain1 (by assumption)) | (with_reducible exact old0 (by assumption) (by assumption)) | (with_reducible exact old1 (by assumption) (by assumption)) | (with_reducible exact new1 (by assumption))) (by rw [row_size]; kernel_rfl) (by simp [row_size]) (row_cells _ _ _ rfl) _ (row_over _ _ 64 _ _ (by simp)) ?_))
    refine (loseSG hd hg _).mono ?_
    rintro e w7 ⟨rfl, hb⟩
    have hB' : Below w.heap.size w w7 := (by first | (with_reducible assumption) | (with_reducible exact bel0 (by assumption) (by assumption) hB.size) | (with_reducible exact bel1 (by assumption) (by assumption) hB.size) | (with_reducible exact belr hB hB.size))
    have hz7 := hb.size
    try simp at hz7
    clear hB hb   
    generalize hgz6 : w6.heap.size = z6 at *
    clear hgz6
    have hB := hB'; clear hB'
    go_wp2_with (first | ((with_reducible refine at_load 35 ?_); refine wpList_load_part rfl 35 _ rfl _ 0 66 rfl _ _ _ _ (by first | (with_reducible assumption) | (with_reducible exact blk_new _ _ _ rfl) | (with_reducible exact chainN _ _ _ _) | (with_reducible exact chain1 (by assumption)) | (with_reducible exact old0 (by assumption) (by assumption)) | (with_reducible exact old1 (by assumption) (by assumption)) | (with_reducible exact new1 (by assumption))) Tryd.underlying35 rfl (by kernel_rfl) (by simp [row_size]) _ (row_all [_, _] 64 _) ?_) | ((with_reducible refine at_store 35 ?_); refine wpList_store_part rfl 35 _ _ rfl _ 0 _ rfl rfl _ _ (by first | (with_reducible assumption) | (with_reducible exact blk_new _ _ _ rfl) | (with_reducible exact chainN _ _ _ _) | (with_reducible exact chain1 (by assumption)) | (with_reducible exact old0 (by assumption) (by assumption)) | (with_reducible exact old1 (by assumption) (by assumption)) | (with_reducible exact new1 (by assumption))) (by rw [row_size]; kernel_rfl) (by simp [row_size]) (row_cells _ _ _ rfl) _ (row_over _ _ 64 _ _ (by simp)) ?_))
    refine (gainIG hf.p hg _).mono ?_
    rintro e w8 ⟨rfl, hb⟩
    have hB' : Below w.heap.size w w8 := (by first | (with_reducible assumption) | (with_reducible exact bel0 (by assumption) (by assumption) hB.size) | (with_reducible exact bel1 (by assumption) (by assumption) hB.size) | (with_reducible exact belr hB hB.size))
    have hz8 := hb.size
    try simp at hz8
    clear hB hb   
    generalize hgz7 : w7.heap.size = z7 at *
    clear hgz7
    have hB := hB'; clear hB'
    go_wp2_with (first | ((with_reducible refine at_load 35 ?_); refine wpList_load_part rfl 35 _ rfl _ 0 66 rfl _ _ _ _ (by first | (with_reducible assumption) | (with_reducible exact blk_new _ _ _ rfl) | (with_reducible exact chainN _ _ _ _) | (with_reducible exact chain1 (by assumption)) | (with_reducible exact old0 (by assumption) (by assumption)) | (with_reducible exact old1 (by assumption) (by assumption)) | (with_reducible exact new1 (by assumption))) Tryd.underlying35 rfl (by kernel_rfl) (by simp [row_size]) _ (row_all [_, _] 64 _) ?_) | ((with_reducible refine at_store 35 ?_); refine wpList_store_part rfl 35 _ _ rfl _ 0 _ rfl rfl _ _ (by first | (with_reducible assumption) | (with_reducible exact blk_new _ _ _ rfl) | (with_reducible exact chainN _ _ _ _) | (with_reducible exact chain1 (by assumption)) | (with_reducible exact old0 (by assumption) (by assumption)) | (with_reducible exact old1 (by assumption) (by assumption)) | (with_reducible exact new1 (by assumption))) (by rw [row_size]; kernel_rfl) (by simp [row_size]) (row_cells _ _ _ rfl) _ (row_over _ _ 64 _ _ (by simp)) ?_))
    refine (gainIG hd (by decide +kernel : gainB 0 = true) _).mono ?_
    rintro e w9 ⟨rfl, hb⟩
    have hB' : Below w.heap.size w w9 := (by first | (with_reducible assumption) | (with_reducible exact bel0 (by assumption) (by assumption) hB.size) | (with_reducible exact bel1 (by assumption) (by assumption) hB.size) | (with_reducible exact belr hB hB.size))
    have hz9 := hb.size
    try simp at hz9
    clear hB hb   
    generalize hgz8 : w8.heap.size = z8 at *
    clear hgz8
    have hB := hB'; clear hB'
    go_upto_region 11 with (fail)
    dsimp only [List.append]
    go_cut [143] from 78 to 143 (fun sx wx => sx = .bool false ∧ Below w.heap.size w wx ∧ w9.heap.size ≤ wx.heap.size)
    case first =>
      rename_i J K1 hRJ hMK
      exact gains_first hf.p hf.f1 hf.f2 hf.f3 hf.f4 hf.n1 (part_fin hd) hf.n2 hf.n3 hB (fun a' w' h => hMK _ _ (Met.intro (hRJ _ _ h)))
    case rest =>
      rename World => wd
      obtain ⟨rfl, hB', hzc⟩ := hcut
      clear hB
      have hB := hB'; clear hB'
      generalize hgz : w9.heap.size = zc at *
      clear hgz
      go_wp2_with (first | ((with_reducible refine at_load 35 ?_); refine wpList_load_part rfl 35 _ rfl _ 0 66 rfl _ _ _ _ (by first | (with_reducible assumption) | (with_reducible exact blk_new _ _ _ rfl) | (with_reducible exact chainN _ _ _ _) | (with_reducible exact chain1 (by assumption)) | (with_reducible exact old0 (by assumption) (by assumption)) | (with_reducible exact old1 (by assumption) (by assumption)) | (with_reducible exact new1 (by assumption))) Tryd.underlying35 rfl (by kernel_rfl) (by simp [row_size]) _ (row_all [_, _] 64 _) ?_) | ((with_reducible refine at_store 35 ?_); refine wpList_store_part rfl 35 _ _ rfl _ 0 _ rfl rfl _ _ (by first | (with_reducible assumption) | (with_reducible exact blk_new _ _ _ rfl) | (with_reducible exact chainN _ _ _ _) | (with_reducible exact chain1 (by assumption)) | (with_reducible exact old0 (by assumption) (by assumption)) | (with_reducible exact old1 (by assumption) (by assumption)) | (with_reducible exact new1 (by assumption))) (by rw [row_size]; kernel_rfl) (by simp [row_size]) (row_cells _ _ _ rfl) _ (row_over _ _ 64 _ _ (by simp)) ?_))
      refine (a2part_any ao' n' cap' _ (bytes_wide (bytes_below (b := w.heap.size) hB hy') (by omega))).mono ?_
      rintro e w11 ⟨sol, rfl, hsol, hb⟩
      have hB' : Below w.heap.size w w11 := (by first | (with_reducible assumption) | (with_reducible exact bel0 (by assumption) (by assumption) hB.size) | (with_reducible exact bel1 (by assumption) (by assumption) hB.size) | (with_reducible exact belr hB hB.size))
      have hz11 := hb.size
      try simp at hz11
      clear hB hb   
      generalize hgz10 : wd.heap.size = z10 at *
      clear hgz10
      have hB := hB'; clear hB'
      obtain ⟨q, C, hout, cI, cS⟩ := light_both hd hsol
      go_wp2_with (first | ((with_reducible refine at_load 35 ?_); refine wpList_load_part rfl 35 _ rfl _ 0 66 rfl _ _ _ _ (by first | (with_reducible assumption) | (with_reducible exact blk_new _ _ _ rfl) | (with_reducible exact chainN _ _ _ _) | (with_reducible exact chain1 (by assumption)) | (with_reducible exact old0 (by assumption) (by assumption)) | (with_reducible exact old1 (by assumption) (by assumption)) | (with_reducible exact new1 (by assumption))) Tryd.underlying35 rfl (by kernel_rfl) (by simp [row_size]) _ (row_all [_, _] 64 _) ?_) | ((with_reducible refine at_store 35 ?_); refine wpList_store_part rfl 35 _ _ rfl _ 0 _ rfl rfl _ _ (by first | (with_reducible assumption) | (with_reducible exact blk_new _ _ _ rfl) | (with_reducible exact chainN _ _ _ _) | (with_reducible exact chain1 (by assumption)) | (with_reducible exact old0 (by assumption) (by assumption)) | (with_reducible exact old1 (by assumption) (by assumption)) | (with_reducible exact new1 (by assumption))) (by rw [row_size]; kernel_rfl) (by simp [row_size]) (row_cells _ _ _ rfl) _ (row_over _ _ 64 _ _ (by simp)) ?_))
      refine (lightIG hd hsol _).mono ?_
      rintro e w12 ⟨rfl, hb⟩
      have hB' : Below w.heap.size w w12 := (by first | (with_reducible assumption) | (with_reducible exact bel0 (by assumption) (by assumption) hB.size) | (with_reducible exact bel1 (by assumption) (by assumption) hB.size) | (with_reducible exact belr hB hB.size))
      have hz12 := hb.size
      try simp at hz12
      clear hB hb   
      generalize hgz11 : w11.heap.size = z11 at *
      clear hgz11
      have hB := hB'; clear hB'
      go_wp2_with (first | ((with_reducible refine at_load 35 ?_); refine wpList_load_part rfl 35 _ rfl _ 0 66 rfl _ _ _ _ (by first | (with_reducible assumption) | (with_reducible exact blk_new _ _ _ rfl) | (with_reducible exact chainN _ _ _ _) | (with_reducible exact chain1 (by assumption)) | (with_reducible exact old0 (by assumption) (by assumption)) | (with_reducible exact old1 (by assumption) (by assumption)) | (with_reducible exact new1 (by assumption))) Tryd.underlying35 rfl (by kernel_rfl) (by simp [row_size]) _ (row_all [_, _] 64 _) ?_) | ((with_reducible refine at_store 35 ?_); refine wpList_store_part rfl 35 _ _ rfl _ 0 _ rfl rfl _ _ (by first | (with_reducible assumption) | (with_reducible exact blk_new _ _ _ rfl) | (with_reducible exact chainN _ _ _ _) | (with_reducible exact chain1 (by assumption)) | (with_reducible exact old0 (by assumption) (by assumption)) | (with_reducible exact old1 (by assumption) (by assumption)) | (with_reducible exact new1 (by assumption))) (by rw [row_size]; kernel_rfl) (by simp [row_size]) (row_cells _ _ _ rfl) _ (row_over _ _ 64 _ _ (by simp)) ?_))
      refine (lightSG hd hsol _).mono ?_
      rintro e w13 ⟨rfl, hb⟩
      have hB' : Below w.heap.size w w13 := (by first | (with_reducible assumption) | (with_reducible exact bel0 (by assumption) (by assumption) hB.size) | (with_reducible exact bel1 (by assumption) (by assumption) hB.size) | (with_reducible exact belr hB hB.size))
      have hz13 := hb.size
      try simp at hz13
      clear hB hb   
      generalize hgz12 : w12.heap.size = z12 at *
      clear hgz12
      have hB := hB'; clear hB'
      go_wp2_with (first | ((with_reducible refine at_load 35 ?_); refine wpList_load_part rfl 35 _ rfl _ 0 66 rfl _ _ _ _ (by first | (with_reducible assumption) | (with_reducible exact blk_new _ _ _ rfl) | (with_reducible exact chainN _ _ _ _) | (with_reducible exact chain1 (by assumption)) | (with_reducible exact old0 (by assumption) (by assumption)) | (with_reducible exact old1 (by assumption) (by assumption)) | (with_reducible exact new1 (by assumption))) Tryd.underlying35 rfl (by kernel_rfl) (by simp [row_size]) _ (row_all [_, _] 64 _) ?_) | ((with_reducible refine at_store 35 ?_); refine wpList_store_part rfl 35 _ _ rfl _ 0 _ rfl rfl _ _ (by first | (with_reducible assumption) | (with_reducible exact blk_new _ _ _ rfl) | (with_reducible exact chainN _ _ _ _) | (with_reducible exact chain1 (by assumption)) | (with_reducible exact old0 (by assumption) (by assumption)) | (with_reducible exact old1 (by assumption) (by assumption)) | (with_reducible exact new1 (by assumption))) (by rw [row_size]; kernel_rfl) (by simp [row_size]) (row_cells _ _ _ rfl) _ (row_over _ _ 64 _ _ (by simp)) ?_))
      refine (cI _).mono ?_
      rintro e w14 ⟨rfl, hb⟩
      have hB' : Below w.heap.size w w14 := (by first | (with_reducible assumption) | (with_reducible exact bel0 (by assumption) (by assumption) hB.size) | (with_reducible exact bel1 (by assumption) (by assumption) hB.size) | (with_reducible exact belr hB hB.size))
      have hz14 := hb.size
      try simp at hz14
      clear hB hb   
      generalize hgz13 : w13.heap.size = z13 at *
      clear hgz13
      have hB := hB'; clear hB'
      go_wp2_with (first | ((with_reducible refine at_load 35 ?_); refine wpList_load_part rfl 35 _ rfl _ 0 66 rfl _ _ _ _ (by first | (with_reducible assumption) | (with_reducible exact blk_new _ _ _ rfl) | (with_reducible exact chainN _ _ _ _) | (with_reducible exact chain1 (by assumption)) | (with_reducible exact old0 (by assumption) (by assumption)) | (with_reducible exact old1 (by assumption) (by assumption)) | (with_reducible exact new1 (by assumption))) Tryd.underlying35 rfl (by kernel_rfl) (by simp [row_size]) _ (row_all [_, _] 64 _) ?_) | ((with_reducible refine at_store 35 ?_); refine wpList_store_part rfl 35 _ _ rfl _ 0 _ rfl rfl _ _ (by first | (with_reducible assumption) | (with_reducible exact blk_new _ _ _ rfl) | (with_reducible exact chainN _ _ _ _) | (with_reducible exact chain1 (by assumption)) | (with_reducible exact old0 (by assumption) (by assumption)) | (with_reducible exact old1 (by assumption) (by assumption)) | (with_reducible exact new1 (by assumption))) (by rw [row_size]; kernel_rfl) (by simp [row_size]) (row_cells _ _ _ rfl) _ (row_over _ _ 64 _ _ (by simp)) ?_))
      refine (cS _).mono ?_
      rintro e w15 ⟨rfl, hb⟩
      have hB' : Below w.heap.size w w15 := (by first | (with_reducible assumption) | (with_reducible exact bel0 (by assumption) (by assumption) hB.size) | (with_reducible exact bel1 (by assumption) (by assumption) hB.size) | (with_reducible exact belr hB hB.size))
      have hz15 := hb.size
      try simp at hz15
      clear hB hb   
      generalize hgz14 : w14.heap.size = z14 at *
      clear hgz14
      have hB := hB'; clear hB'
      have hpl := part_light hd hsol
      go_upto_region 18 with (fail)
      try dsimp only [List.append]
      go_cut [220] from 170 to 220 (fun sx wx => sx = .bool false ∧ Below w.heap.size w wx ∧ w15.heap.size ≤ wx.heap.size)
      case first =>
        rename_i J K1 hRJ hMK
        exact gains_light (part_fin hd) hpl hout hB (fun a' w' h => hMK _ _ (Met.intro (hRJ _ _ h)))
      case rest =>
        rename World => wf
        obtain ⟨rfl, hB', hzf⟩ := hcut
        clear hB cI cS hout
        have hB := hB'; clear hB'
        generalize hgz : w15.heap.size = zf at *
        clear hgz
        go_wp2_with (first | ((with_reducible refine at_load 35 ?_); refine wpList_load_part rfl 35 _ rfl _ 0 66 rfl _ _ _ _ (by first | (with_reducible assumption) | (with_reducible exact blk_new _ _ _ rfl) | (with_reducible exact chainN _ _ _ _) | (with_reducible exact chain1 (by assumption)) | (with_reducible exact old0 (by assumption) (by assumption)) | (with_reducible exact old1 (by assumption) (by assumption)) | (with_reducible exact new1 (by assumption))) Tryd.underlying35 rfl (by kernel_rfl) (by simp [row_size]) _ (row_all [_, _] 64 _) ?_) | ((with_reducible refine at_store 35 ?_); refine wpList_store_part rfl 35 _ _ rfl _ 0 _ rfl rfl _ _ (by first | (with_reducible assumption) | (with_reducible exact blk_new _ _ _ rfl) | (with_reducible exact chainN _ _ _ _) | (with_reducible exact chain1 (by assumption)) | (with_reducible exact old0 (by assumption) (by assumption)) | (with_reducible exact old1 (by assumption) (by assumption)) | (with_reducible exact new1 (by assumption))) (by rw [row_size]; kernel_rfl) (by simp [row_size]) (row_cells _ _ _ rfl) _ (row_over _ _ 64 _ _ (by simp)) ?_))
        refine (a2plate_any ao n cap _ (bytes_wide (bytes_below (b := w.heap.size) hB hy) (by omega))).mono ?_
        rintro e w17 ⟨a, b, F, rfl, hP, hb⟩
        have hB' : Below w.heap.size w w17 := (by first | (with_reducible assumption) | (with_reducible exact bel0 (by assumption) (by assumption) hB.size) | (with_reducible exact bel1 (by assumption) (by assumption) hB.size) | (with_reducible exact belr hB hB.size))
        have hz17 := hb.size
        try simp at hz17
        clear hB hb   
        generalize hgz16 : wf.heap.size = z16 at *
        clear hgz16
        have hB := hB'; clear hB'
        go_wp2_with (first | ((with_reducible refine at_load 35 ?_); refine wpList_load_part rfl 35 _ rfl _ 0 66 rfl _ _ _ _ (by first | (with_reducible assumption) | (with_reducible exact blk_new _ _ _ rfl) | (with_reducible exact chainN _ _ _ _) | (with_reducible exact chain1 (by assumption)) | (with_reducible exact old0 (by assumption) (by assumption)) | (with_reducible exact old1 (by assumption) (by assumption)) | (with_reducible exact new1 (by assumption))) Tryd.underlying35 rfl (by kernel_rfl) (by simp [row_size]) _ (row_all [_, _] 64 _) ?_) | ((with_reducible refine at_store 35 ?_); refine wpList_store_part rfl 35 _ _ rfl _ 0 _ rfl rfl _ _ (by first | (with_reducible assumption) | (with_reducible exact blk_new _ _ _ rfl) | (with_reducible exact chainN _ _ _ _) | (with_reducible exact chain1 (by assumption)) | (with_reducible exact old0 (by assumption) (by assumption)) | (with_reducible exact old1 (by assumption) (by assumption)) | (with_reducible exact new1 (by assumption))) (by rw [row_size]; kernel_rfl) (by simp [row_size]) (row_cells _ _ _ rfl) _ (row_over _ _ 64 _ _ (by simp)) ?_))
        refine (gainPI hP hg _).mono ?_
        rintro e w18 ⟨rfl, hb⟩
        have hg28' : w18.heap[w17.heap.size]? = some (.cells (plate a b F) 35 (0, 0)) := (by first | (with_reducible assumption) | (with_reducible exact blk_new _ _ _ rfl) | (with_reducible exact chainN _ _ _ _) | (with_reducible exact chain1 (by assumption)) | (with_reducible exact old0 (by assumption) (by assumption)) | (with_reducible exact old1 (by assumption) (by assumption)) | (with_reducible exact new1 (by assumption)))
        have hB' : Below w.heap.size w w18 := (by first | (with_reducible assumption) | (with_reducible exact bel0 (by assumption) (by assumption) hB.size) | (with_reducible exact bel1 (by assumption) (by assumption) hB.size) | (with_reducible exact belr hB hB.size))
        have hz18 := hb.size
        try simp at hz18
        clear hB hb   
        generalize hgg28 : w17.heap.size = g28 at *
        clear hgg28
        have hB := hB'; clear hB'
        have hg28 := hg28'; clear hg28'
        go_wp2_with (first | ((with_reducible refine at_load 35 ?_); refine wpList_load_part rfl 35 _ rfl _ 0 66 rfl _ _ _ _ (by first | (with_reducible assumption) | (with_reducible exact blk_new _ _ _ rfl) | (with_reducible exact chainN _ _ _ _) | (with_reducible exact chain1 (by assumption)) | (with_reducible exact old0 (by assumption) (by assumption)) | (with_reducible exact old1 (by assumption) (by assumption)) | (with_reducible exact new1 (by assumption))) Tryd.underlying35 rfl (by kernel_rfl) (by simp [row_size]) _ (row_all [_, _] 64 _) ?_) | ((with_reducible refine at_store 35 ?_); refine wpList_store_part rfl 35 _ _ rfl _ 0 _ rfl rfl _ _ (by first | (with_reducible assumption) | (with_reducible exact blk_new _ _ _ rfl) | (with_reducible exact chainN _ _ _ _) | (with_reducible exact chain1 (by assumption)) | (with_reducible exact old0 (by assumption) (by assumption)) | (with_reducible exact old1 (by assumption) (by assumption)) | (with_reducible exact new1 (by assumption))) (by rw [row_size]; kernel_rfl) (by simp [row_size]) (row_cells _ _ _ rfl) _ (row_over _ _ 64 _ _ (by simp)) ?_))
        refine (gainPS hP hg _).mono ?_
        rintro e w19 ⟨rfl, hb⟩
        have hg28' : w19.heap[g28]? = some (.cells (plate a b F) 35 (0, 0)) := (by first | (with_reducible assumption) | (with_reducible exact blk_new _ _ _ rfl) | (with_reducible exact chainN _ _ _ _) | (with_reducible exact chain1 (by assumption)) | (with_reducible exact old0 (by assumption) (by assumption)) | (with_reducible exact old1 (by assumption) (by assumption)) | (with_reducible exact new1 (by assumption)))
        have hg29' : w19.heap[w18.heap.size]? = some (.cells (plate a b (mapA a b (fun i => gained (F i) g) F)) 35 (0, 0)) := (by first | (with_reducible assumption) | (with_reducible exact blk_new _ _ _ rfl) | (with_reducible exact chainN _ _ _ _) | (with_reducible exact chain1 (by assumption)) | (with_reducible exact old0 (by assumption) (by assumption)) | (with_reducible exact old1 (by assumption) (by assumption)) | (with_reducible exact new1 (by assumption)))
        have hB' : Below w.heap.size w w19 := (by first | (with_reducible assumption) | (with_reducible exact bel0 (by assumption) (by assumption) hB.size) | (with_reducible exact bel1 (by assumption) (by assumption) hB.size) | (with_reducible exact belr hB hB.size))
        have hz19 := hb.size
        try simp at hz19
        clear hB hb  hg28 
        generalize hgg29 : w18.heap.size = g29 at *
        clear hgg29
        have hB := hB'; clear hB'
        have hg28 := hg28'; clear hg28'
        have hg29 := hg29'; clear hg29'
        go_wp2_with (first | ((with_reducible refine at_load 35 ?_); refine wpList_load_part rfl 35 _ rfl _ 0 66 rfl _ _ _ _ (by first | (with_reducible assumption) | (with_reducible exact blk_new _ _ _ rfl) | (with_reducible exact chainN _ _ _ _) | (with_reducible exact chain1 (by assumption)) | (with_reducible exact old0 (by assumption) (by assumption)) | (with_reducible exact old1 (by assumption) (by assumption)) | (with_reducible exact new1 (by assumption))) Tryd.underlying35 rfl (by kernel_rfl) (by simp [row_size]) _ (row_all [_, _] 64 _) ?_) | ((with_reducible refine at_load 35 ?_); refine wpList_load_partg (by first | rfl | (simp only [hff]; rfl) | (go_simp; done)) 35 _ rfl _ 0 66 rfl _ _ _ _ (by first | (with_reducible assumption) | (with_reducible exact blk_new _ _ _ rfl) | (with_reducible exact chainN _ _ _ _) | (with_reducible exact chain1 (by assumption)) | (with_reducible exact old0 (by assumption) (by assumption)) | (with_reducible exact old1 (by assumption) (by assumption)) | (with_reducible exact new1 (by assumption))) Tryd.underlying35 rfl (by kernel_rfl) (by simp [row_size]) _ (row_all [_, _] 64 _) ?_) | ((with_reducible refine at_store 35 ?_); refine wpList_store_part rfl 35 _ _ rfl _ 0 _ rfl rfl _ _ (by first | (with_reducible assumption) | (with_reducible exact blk_new _ _ _ rfl) | (with_reducible exact chainN _ _ _ _) | (with_reducible exact chain1 (by assumption)) | (with_reducible exact old0 (by assumption) (by assumption)) | (with_reducible exact old1 (by assumption) (by assumption)) | (with_reducible exact new1 (by assumption))) (by rw [row_size]; kernel_rfl) (by simp [row_size]) (row_cells _ _ _ rfl) _ (row_over _ _ 64 _ _ (by simp)) ?_))
        refine (samePS (fun i _ => hP.gain_lt hg i) _).mono ?_
        rintro e w20 ⟨rfl, hb⟩
        have hg28' : w20.heap[g28]? = some (.cells (plate a b F) 35 (0, 0)) := (by first | (with_reducible assumption) | (with_reducible exact blk_new _ _ _ rfl) | (with_reducible exact chainN _ _ _ _) | (with_reducible exact chain1 (by assumption)) | (with_reducible exact old0 (by assumption) (by assumption)) | (with_reducible exact old1 (by assumption) (by assumption)) | (with_reducible exact new1 (by assumption)))
        have hg29' : w20.heap[g29]? = some (.cells (plate a b (mapA a b (fun i => gained (F i) g) F)) 35 (0, 0)) := (by first | (with_reducible assumption) | (with_reducible exact blk_new _ _ _ rfl) | (with_reducible exact chainN _ _ _ _) | (with_reducible exact chain1 (by assumption)) | (with_reducible exact old0 (by assumption) (by assumption)) | (with_reducible exact old1 (by assumption) (by assumption)) | (with_reducible exact new1 (by assumption)))
        have hg31' : w20.heap[w19.heap.size]? = some (.cells (plate a b (mapA a b (fun i => gained (F i) g) F)) 35 (0, 0)) := (by first | (with_reducible assumption) | (with_reducible exact blk_new _ _ _ rfl) | (with_reducible exact chainN _ _ _ _) | (with_reducible exact chain1 (by assumption)) | (with_reducible exact old0 (by assumption) (by assumption)) | (with_reducible exact old1 (by assumption) (by assumption)) | (with_reducible exact new1 (by assumption)))
        have hB' : Below w.heap.size w w20 := (by first | (with_reducible assumption) | (with_reducible exact bel0 (by assumption) (by assumption) hB.size) | (with_reducible exact bel1 (by assumption) (by assumption) hB.size) | (with_reducible exact belr hB hB.size))
        have hz20 := hb.size
        try simp at hz20
        clear hB hb  hg28 hg29 
        generalize hgg31 : w19.heap.size = g31 at *
        clear hgg31
        have hB := hB'; clear hB'
        have hg28 := hg28'; clear hg28'
        have hg29 := hg29'; clear hg29'
        have hg31 := hg31'; clear hg31'
        clear hg29
        go_wp2_with (first | ((with_reducible refine at_load 35 ?_); refine wpList_load_part rfl 35 _ rfl _ 0 66 rfl _ _ _ _ (by first | (with_reducible assumption) | (with_reducible exact blk_new _ _ _ rfl) | (with_reducible exact chainN _ _ _ _) | (with_reducible exact chain1 (by assumption)) | (with_reducible exact old0 (by assumption) (by assumption)) | (with_reducible exact old1 (by assumption) (by assumption)) | (with_reducible exact new1 (by assumption))) Tryd.underlying35 rfl (by kernel_rfl) (by simp [row_size]) _ (row_all [_, _] 64 _) ?_) | ((with_reducible refine at_load 35 ?_); refine wpList_load_partg (by first | rfl | (simp only [hff]; rfl) | (go_simp; done)) 35 _ rfl _ 0 66 rfl _ _ _ _ (by first | (with_reducible assumption) | (with_reducible exact blk_new _ _ _ rfl) | (with_reducible exact chainN _ _ _ _) | (with_reducible exact chain1 (by assumption)) | (with_reducible exact old0 (by assumption) (by assumption)) | (with_reducible exact old1 (by assumption) (by assumption)) | (with_reducible exact new1 (by assumption))) Tryd.underlying35 rfl (by kernel_rfl) (by simp [row_size]) _ (row_all [_, _] 64 _) ?_) | ((with_reducible refine at_store 35 ?_); refine wpList_store_part rfl 35 _ _ rfl _ 0 _ rfl rfl _ _ (by first | (with_reducible assumption) | (with_reducible exact blk_new _ _ _ rfl) | (with_reducible exact chainN _ _ _ _) | (with_reducible exact chain1 (by assumption)) | (with_reducible exact old0 (by assumption) (by assumption)) | (with_reducible exact old1 (by assumption) (by assumption)) | (with_reducible exact new1 (by assumption))) (by rw [row_size]; kernel_rfl) (by simp [row_size]) (row_cells _ _ _ rfl) _ (row_over _ _ 64 _ _ (by simp)) ?_))
        refine (validGP hP hg _).mono ?_
        rintro e w21 ⟨rfl, hb⟩
        have hg28' : w21.heap[g28]? = some (.cells (plate a b F) 35 (0, 0)) := (by first | (with_reducible assumption) | (with_reducible exact blk_new _ _ _ rfl) | (with_reducible exact chainN _ _ _ _) | (with_reducible exact chain1 (by assumption)) | (with_reducible exact old0 (by assumption) (by assumption)) | (with_reducible exact old1 (by assumption) (by assumption)) | (with_reducible exact new1 (by assumption)))
        have hg31' : w21.heap[g31]? = some (.cells (plate a b (mapA a b (fun i => gained (F i) g) F)) 35 (0, 0)) := (by first | (with_reducible assumption) | (with_reducible exact blk_new _ _ _ rfl) | (with_reducible exact chainN _ _ _ _) | (with_reducible exact chain1 (by assumption)) | (with_reducible exact old0 (by assumption) (by assumption)) | (with_reducible exact old1 (by assumption) (by assumption)) | (with_reducible exact new1 (by assumption)))
        have hB' : Below w.heap.size w w21 := (by first | (with_reducible assumption) | (with_reducible exact bel0 (by assumption) (by assumption) hB.size) | (with_reducible exact bel1 (by assumption) (by assumption) hB.size) | (with_reducible exact belr hB hB.size))
        have hz21 := hb.size
        try simp at hz21
        clear hB hb  hg28 hg31 
        generalize hgz20 : w20.heap.size = z20 at *
        clear hgz20
        have hB := hB'; clear hB'
        have hg28 := hg28'; clear hg28'
        have hg31 := hg31'; clear hg31'
        go_upto_block 0 with (fail)
        go_cut [] from 253 to 265 (fun wx => Below w.heap.size w wx)
        case first =>
          rename_i J K1 hRJ hMK
          exact gains_loop hP hg hB hg28 hg31 (fun a' w' h => hMK _ _ (Met.intro (hRJ _ _ h)))
        case rest =>
          clear hg28 hg31 hB
          have hB := hcut
          clear hcut
          apply_assumption
          have hwz := hB.size
          go_wp2_with (first | ((with_reducible refine at_load 35 ?_); refine wpList_load_part rfl 35 _ rfl _ 0 66 rfl _ _ _ _ (by first | (with_reducible assumption) | (with_reducible exact blk_new _ _ _ rfl) | (with_reducible exact chainN _ _ _ _) | (with_reducible exact chain1 (by assumption)) | (with_reducible exact old0 (by assumption) (by assumption)) | (with_reducible exact old1 (by assumption) (by assumption)) | (with_reducible exact new1 (by assumption))) Tryd.underlying35 rfl (by kernel_rfl) (by simp [row_size]) _ (row_all [_, _] 64 _) ?_) | ((with_reducible refine at_store 35 ?_); refine wpList_store_part rfl 35 _ _ rfl _ 0 _ rfl rfl _ _ (by first | (with_reducible assumption) | (with_reducible exact blk_new _ _ _ rfl) | (with_reducible exact chainN _ _ _ _) | (with_reducible exact chain1 (by assumption)) | (with_reducible exact old0 (by assumption) (by assumption)) | (with_reducible exact old1 (by assumption) (by assumption)) | (with_reducible exact new1 (by assumption))) (by rw [row_size]; kernel_rfl) (by simp [row_size]) (row_cells _ _ _ rfl) _ (row_over _ _ 64 _ _ (by simp)) ?_))
          refine (numTextG (gained_lt hd hg) _ (hT.on (by first | (with_reducible assumption) | (with_reducible exact bel0 (by assumption) (by assumption) hB.size) | (with_reducible exact bel1 (by assumption) (by assumption) hB.size) | (with_reducible exact belr hB hB.size)) (Nat.le_refl _))).mono ?_
          rintro e w71 ⟨rfl, hb⟩
          have hB' : Below w.heap.size w w71 := (by first | (with_reducible assumption) | (with_reducible exact bel0 (by assumption) (by assumption) hB.size) | (with_reducible exact bel1 (by assumption) (by assumption) hB.size) | (with_reducible exact belr hB hB.size))
          have hz71 := hb.size
          try simp at hz71
          clear hB hb   
          generalize hgz70 : wc.heap.size = z70 at *
          clear hgz70
          have hB := hB'; clear hB'
          go_wp2_with (first | ((with_reducible refine at_load 35 ?_); refine wpList_load_part rfl 35 _ rfl _ 0 66 rfl _ _ _ _ (by first | (with_reducible assumption) | (with_reducible exact blk_new _ _ _ rfl) | (with_reducible exact chainN _ _ _ _) | (with_reducible exact chain1 (by assumption)) | (with_reducible exact old0 (by assumption) (by assumption)) | (with_reducible exact old1 (by assumption) (by assumption)) | (with_reducible exact new1 (by assumption))) Tryd.underlying35 rfl (by kernel_rfl) (by simp [row_size]) _ (row_all [_, _] 64 _) ?_) | ((with_reducible refine at_store 35 ?_); refine wpList_store_part rfl 35 _ _ rfl _ 0 _ rfl rfl _ _ (by first | (with_reducible assumption) | (with_reducible exact blk_new _ _ _ rfl) | (with_reducible exact chainN _ _ _ _) | (with_reducible exact chain1 (by assumption)) | (with_reducible exact old0 (by assumption) (by assumption)) | (with_reducible exact old1 (by assumption) (by assumption)) | (with_reducible exact new1 (by assumption))) (by rw [row_size]; kernel_rfl) (by simp [row_size]) (row_cells _ _ _ rfl) _ (row_over _ _ 64 _ _ (by simp)) ?_))
          refine (readNumG (gained_lt hd hg) (fin_nan (part_fin (part_gained hd hg))) _ (hT.on (by first | (with_reducible assumption) | (with_reducible exact bel0 (by assumption) (by assumption) hB.size) | (with_reducible exact bel1 (by assumption) (by assumption) hB.size) | (with_reducible exact belr hB hB.size)) (Nat.le_refl _))).mono ?_
          rintro e w72 ⟨rfl, hb⟩
          have hB' : Below w.heap.size w w72 := (by first | (with_reducible assumption) | (with_reducible exact bel0 (by assumption) (by assumption) hB.size) | (with_reducible exact bel1 (by assumption) (by assumption) hB.size) | (with_reducible exact belr hB hB.size))
          have hz72 := hb.size
          try simp at hz72
          clear hB hb   
          generalize hgz71 : w71.heap.size = z71 at *
          clear hgz71
          have hB := hB'; clear hB'
          go_wp2_with (first | ((with_reducible refine at_load 35 ?_); refine wpList_load_part rfl 35 _ rfl _ 0 66 rfl _ _ _ _ (by first | (with_reducible assumption) | (with_reducible exact blk_new _ _ _ rfl) | (with_reducible exact chainN _ _ _ _) | (with_reducible exact chain1 (by assumption)) | (with_reducible exact old0 (by assumption) (by assumption)) | (with_reducible exact old1 (by assumption) (by assumption)) | (with_reducible exact new1 (by assumption))) Tryd.underlying35 rfl (by kernel_rfl) (by simp [row_size]) _ (row_all [_, _] 64 _) ?_) | ((with_reducible refine at_load 35 ?_); refine wpList_load_partg (by first | rfl | (simp only [hff]; rfl) | (go_simp; done)) 35 _ rfl _ 0 66 rfl _ _ _ _ (by first | (with_reducible assumption) | (with_reducible exact blk_new _ _ _ rfl) | (with_reducible exact chainN _ _ _ _) | (with_reducible exact chain1 (by assumption)) | (with_reducible exact old0 (by assumption) (by assumption)) | (with_reducible exact old1 (by assumption) (by assumption)) | (with_reducible exact new1 (by assumption))) Tryd.underlying35 rfl (by kernel_rfl) (by simp [row_size]) _ (row_all [_, _] 64 _) ?_) | ((with_reducible refine at_store 35 ?_); refine wpList_store_part rfl 35 _ _ rfl _ 0 _ rfl rfl _ _ (by first | (with_reducible assumption) | (with_reducible exact blk_new _ _ _ rfl) | (with_reducible exact chainN _ _ _ _) | (with_reducible exact chain1 (by assumption)) | (with_reducible exact old0 (by assumption) (by assumption)) | (with_reducible exact old1 (by assumption) (by assumption)) | (with_reducible exact new1 (by assumption))) (by rw [row_size]; kernel_rfl) (by simp [row_size]) (row_cells _ _ _ rfl) _ (row_over _ _ 64 _ _ (by simp)) ?_))
          refine (sameNum_b _ _).mono ?_
          rintro e w73 ⟨rfl, hb⟩
          have hB' : Below w.heap.size w w73 := (by first | (with_reducible assumption) | (with_reducible exact bel0 (by assumption) (by assumption) hB.size) | (with_reducible exact bel1 (by assumption) (by assumption) hB.size) | (with_reducible exact belr hB hB.size))
          have hz73 := hb.size
          try simp at hz73
          clear hB hb   
          generalize hgz72 : w72.heap.size = z72 at *
          clear hgz72
          have hB := hB'; clear hB'
          go_wp2_with (first | ((with_reducible refine at_load 35 ?_); refine wpList_load_part rfl 35 _ rfl _ 0 66 rfl _ _ _ _ (by first | (with_reducible assumption) | (with_reducible exact blk_new _ _ _ rfl) | (with_reducible exact chainN _ _ _ _) | (with_reducible exact chain1 (by assumption)) | (with_reducible exact old0 (by assumption) (by assumption)) | (with_reducible exact old1 (by assumption) (by assumption)) | (with_reducible exact new1 (by assumption))) Tryd.underlying35 rfl (by kernel_rfl) (by simp [row_size]) _ (row_all [_, _] 64 _) ?_) | ((with_reducible refine at_load 35 ?_); refine wpList_load_partg (by first | rfl | (simp only [hff]; rfl) | (go_simp; done)) 35 _ rfl _ 0 66 rfl _ _ _ _ (by first | (with_reducible assumption) | (with_reducible exact blk_new _ _ _ rfl) | (with_reducible exact chainN _ _ _ _) | (with_reducible exact chain1 (by assumption)) | (with_reducible exact old0 (by assumption) (by assumption)) | (with_reducible exact old1 (by assumption) (by assumption)) | (with_reducible exact new1 (by assumption))) Tryd.underlying35 rfl (by kernel_rfl) (by simp [row_size]) _ (row_all [_, _] 64 _) ?_) | ((with_reducible refine at_store 35 ?_); refine wpList_store_part rfl 35 _ _ rfl _ 0 _ rfl rfl _ _ (by first | (with_reducible assumption) | (with_reducible exact blk_new _ _ _ rfl) | (with_reducible exact chainN _ _ _ _) | (with_reducible exact chain1 (by assumption)) | (with_reducible exact old0 (by assumption) (by assumption)) | (with_reducible exact old1 (by assumption) (by assumption)) | (with_reducible exact new1 (by assumption))) (by rw [row_size]; kernel_rfl) (by simp [row_size]) (row_cells _ _ _ rfl) _ (row_over _ _ 64 _ _ (by simp)) ?_))
          refine (isPlain_b (part_gained hd hg) _).mono ?_
          rintro e w74 ⟨rfl, hb⟩
          have hB' : Below w.heap.size w w74 := (by first | (with_reducible assumption) | (with_reducible exact bel0 (by assumption) (by assumption) hB.size) | (with_reducible exact bel1 (by assumption) (by assumption) hB.size) | (with_reducible exact belr hB hB.size))
          have hz74 := hb.size
          try simp at hz74
          clear hB hb   
          generalize hgz73 : w73.heap.size = z73 at *
          clear hgz73
          have hB := hB'; clear hB'
          go_wp2_with (fail)
          go_ret
          exact ⟨rfl, hB⟩
  · rw [hL] at hLong
    go_enter Tryd.func3, Tryd.ntmps3
    go_wp2_with (go_at_call 4; (with_reducible refine (hLong _).mono ?_); rintro e w' ⟨rfl, rfl⟩)
    go_ret
    exact ⟨rfl, Below.refl _ _⟩
end Go.Proofs.YtihddajpkcjokaaDoor
