/- Parts of a proof, merged; each under its own premises. -/
import Derived.Test.YtekfmjddlemboaaGreatDoorPM
import Derived.Test.YtekfmjddlemboaaGreatDoorPE
import Derived.Test.YtekfmjddlemboaaGreatDoorPD
import Derived.Test.YtekfmjddlemboaaGreatDoorPC
import Derived.Test.YtekfmjddlemboaaGreatDoorPH
import Derived.Test.YtekfmjddlemboaaGreatDoorPA
import Derived.Test.YtekfmjddlemboaaGreatDoorPB
import Derived.Deep.RegionHeld3
import Derived.Deep.MidRow
import Derived.Test.YtekfmjddlemboaaGreatDoorPI
import Derived.Test.YtekfmjddlemboaaGreatDoorPK
import Derived.Test.YtekfmjddlemboaaGreatDoorPJ
import Derived.Deep.CutRange

/-! Contracts of what FnPlates calls, of plates that are drawn; each under its own premises. -/
set_option linter.unusedVariables false
set_option linter.unusedSimpArgs false
namespace Go.Proofs.YtekfmjddlemboaaGreatDoor
open Go.RowKit Ieee

theorem sameNum_b (a : Nat) (w : World) : Calls Tryz.prog 18 #[.float .f32 a, .float .f32 a] w fun e w' => e = .returned (.bool true) ∧ Below w.heap.size w w' :=
  (sameNum_any a w).mono fun e w' ⟨h, hm⟩ => ⟨h, by rw [← hm]; exact Below.refl _ _⟩
/-- What of Go's library is read by ReadPlate and PlateText. -/
structure LibsT (w : World) : Prop where
  lib : Libs w
  tab : Lib.TabIs Tryz.prog w "internal/strconv.uint64pow10" .u64 Lib.pow10Tab
  ml : ∃ m0 : Int, w.cell? ⟨1, 0, none⟩ = some (.int .i64 m0)
theorem LibsT.on {w w' : World} {B : Nat} (h : LibsT w) (hb : Below B w w') (hB : w.heap.size ≤ B) : LibsT w' := by
  obtain ⟨m0, hm⟩ := h.ml
  exact ⟨h.lib.on hb hB, Go.Joins.tab_stays (g := 4) (by kernel_rfl) h.tab (hb.mono hB) (Nat.le_refl _), m0, (hb.cell (p := ⟨1, 0, none⟩) (Nat.lt_of_lt_of_le (World.block_lt_of_cell? _ _ hm) hB)).trans hm⟩
theorem plate_short {a b : Nat} {F : Nat → Nat} (ha : a < 9) (hb : b < 9) : (plateText a b F).length ≤ 1048576 := by
  unfold plateText
  split
  · unfold plateTx
    have h1 := rowsT_small (a := (a : Int).toNat) (F := F) (n := (b : Int).toNat) (by omega) (by omega)
    have d1 : (Lib.decDigits (a : Int).toNat).length = 1 := by rw [dec_small (by omega)]; rfl
    have d2 : (Lib.decDigits (b : Int).toNat).length = 1 := by rw [dec_small (by omega)]; rfl
    simp only [List.length_append, List.length_cons, List.length_nil, d1, d2]
    omega
  · simp
/-! ### calls on two arrays, on a plate and a number -/
set_option maxHeartbeats 1600000 in
theorem sameZ (G : Nat → Nat) (w : World) : Calls Tryz.prog 17 #[.agg (row [] 8 G), .agg (row [] 8 G)] w fun e w' => e = .returned (.bool true) ∧ Below w.heap.size w w' := by
  obtain ⟨w2, hw2⟩ : ∃ w2, w2 = (w.alloc (.cells (row [] 8 G) 36)).alloc (.cells (row [] 8 G) 36) := ⟨_, rfl⟩
  have hB : w2.heap[w.heap.size]? = some (.cells (row [] 8 G) 36 (0, 0)) := by rw [hw2]; exact blk_old _ _ _ (by simp) (blk_new _ _ _ rfl)
  have hB' : w2.heap[w.heap.size + 1]? = some (.cells (row [] 8 G) 36 (0, 0)) := by rw [hw2]; exact blk_new _ _ _ (by simp)
  have hb2 : Below w.heap.size w w2 := by rw [hw2]; exact bel_alloc _ (by simp) (bel_alloc _ (Nat.le_refl _) (Below.refl _ _))
  have hsz : w2.heap.size = w.heap.size + 2 := by rw [hw2]; simp
  have d1 : ∀ i : Nat, i < 8 → w2.cell? ⟨w.heap.size, i, none⟩ = some (.float .f32 (G i)) := fun i hi => (cell_of_row _ _ i _ _ _ hB).trans (row_k0 _ _ hi)
  have d2 : ∀ i : Nat, i < 8 → w2.cell? ⟨w.heap.size + 1, i, none⟩ = some (.float .f32 (G i)) := fun i hi => (cell_of_row _ _ i _ _ _ hB').trans (row_k0 _ _ hi)
  have D1 := Lib.hid d1
  have D2 := Lib.hid d2
  clear d1 d2 hB hB'
  go_enter Tryz.func17, Tryz.ntmps17
  go_upto_region 1 with (fail)
  rw [← hw2]
  clear hw2
  go_wp2_with (fail)
  go_quiet ((go_at_call 54; with_reducible exact a2same_q D1.out D2.out _ _ _))
  go_wp2_with (fail)
  go_ret
  exact ⟨rfl, bel_drewN _ hb2⟩
theorem a2is_any {a b i : Nat} (F : Nat → Nat) (ha : a < 9) (hb : b < 9) (hi : i < 64) (w : World) : Calls Tryz.prog 19 #[.agg (plate a b F), .int .i64 i] w fun e w' => e = .returned (.bool (isC a b i)) ∧ Below w.heap.size w w' := by
  have hB : (w.alloc (.cells (plate a b F) 29)).heap[w.heap.size]? = some (.cells (plate a b F) 29 (0, 0)) := blk_new _ _ _ rfl
  have c0 := (cell_of_row _ _ 0 _ _ _ hB).trans (row_g0 _ _ _ _)
  have c1 := (cell_of_row _ _ 1 _ _ _ hB).trans (row_g1 _ _ _ _ _)
  have hI := specIs_any ha hb hi _ _ c0 c1
  go_enter Tryz.func19, Tryz.ntmps19
  go_wp2_with (go_at_call 46; (with_reducible refine hI.mono ?_); rintro e w' ⟨rfl, rfl⟩)
  go_ret
  exact ⟨rfl, bel_alloc _ (Nat.le_refl _) (Below.refl _ _)⟩
theorem samePS {x y : Int} {F : Nat → Nat} (hF : ∀ i, i < 64 → F i < 2 ^ 32) (w : World) : Calls Tryz.prog 15 #[.agg (plate x y F), .agg (plate x y F)] w fun e w' => e = .returned (.bool true) ∧ Below w.heap.size w w' := by
  have := specSameP_any x y F x y F w hF hF
  rwa [show sameP x y F x y F = true from by unfold sameP; rw [sameTo_eq 64 (fun _ _ => rfl)]; simp] at this
theorem samePI {x y : Int} {F : Nat → Nat} (hF : ∀ i, i < 64 → F i < 2 ^ 32) (w : World) : Calls Tryz.prog 14 #[.agg (plate x y F), .agg (plate x y F)] w fun e w' => e = .returned (.bool true) ∧ Below w.heap.size w w' := by
  have := implSamePl_any x y F x y F w hF hF
  rwa [show sameP x y F x y F = true from by unfold sameP; rw [sameTo_eq 64 (fun _ _ => rfl)]; simp] at this
section
variable {a b : Nat} {F : Nat → Nat} (hP : DrawnP a b F)
include hP
theorem DrawnP.lt (i : Nat) (_ : i < 64) : F i < 2 ^ 32 := (hP.dot i).2
theorem DrawnP.a8 : -128 ≤ (a : Int) ∧ (a : Int) ≤ 127 := by have := hP.a5; omega
theorem DrawnP.b8 : -128 ≤ (b : Int) ∧ (b : Int) ≤ 127 := by have := hP.b5; omega
theorem ptextI (w : World) (hw : LibsT w) : Calls Tryz.prog 7 #[.agg (plate a b F)] w fun e w' => e = .returned (.string ⟨(plateText a b F).toArray⟩) ∧ Below w.heap.size w w' :=
  implPlateText_any a b F hP.a8.1 hP.a8.2 hP.b8.1 hP.b8.2 hP.lt w hw.lib.db
theorem preadI (w : World) (hw : LibsT w) : Calls Tryz.prog 6 #[.string ⟨(plateText a b F).toArray⟩] w fun e w' => e = .returned (.tuple #[.agg (plate a b F), .int .i64 0]) ∧ Below w.heap.size w w' := by
  obtain ⟨m0, hm⟩ := hw.ml
  obtain ⟨h1, h2⟩ := round_plate hP hP.good
  have hl : (plateText a b F).length ≤ 1048576 := plate_short (by have := hP.a5; omega) (by have := hP.b5; omega)
  exact implReadPlate ⟨(plateText a b F).toArray⟩ (by simpa [ByteArray.size] using hl) w hw.lib hw.tab m0 hm (plate a b F) 0 h1.symm h2.symm
theorem mirI (w : World) : Calls Tryz.prog 8 #[.agg (plate a b F)] w fun e w' => e = .returned (.tuple #[.agg (plate a b (mirF a b F)), .int .i64 0]) ∧ Below w.heap.size w w' := by
  have := implMirror_any a b F w hP.a8.1 hP.a8.2 hP.b8.1 hP.b8.2
  rw [hP.good] at this
  exact this
theorem mirS (w : World) : Calls Tryz.prog 9 #[.agg (plate a b F)] w fun e w' => e = .returned (.tuple #[.agg (plate a b (mirF a b F)), .int .i64 0]) ∧ Below w.heap.size w w' := by
  have := specMirror_any a b F w hP.a8.1 hP.a8.2 hP.b8.1 hP.b8.2
  rw [hP.good] at this
  exact this
theorem mirB (w : World) : Calls Tryz.prog 8 #[.agg (plate a b (mirF a b F))] w fun e w' => e = .returned (.tuple #[.agg (plate a b F), .int .i64 0]) ∧ Below w.heap.size w w' := by
  have := mirI hP.mir w
  rwa [mir_back hP] at this
theorem zonI (w : World) : Calls Tryz.prog 10 #[.agg (plate a b F)] w fun e w' => e = .returned (.tuple #[.agg (row [] 8 (zonesF a b F)), .int .i64 0]) ∧ Below w.heap.size w w' := by
  have := implZonesOf_any a b F w hP.a8.1 hP.a8.2 hP.b8.1 hP.b8.2
  rw [hP.good] at this
  exact this
theorem zonS (w : World) : Calls Tryz.prog 11 #[.agg (plate a b F)] w fun e w' => e = .returned (.tuple #[.agg (row [] 8 (zonesF a b F)), .int .i64 0]) ∧ Below w.heap.size w w' := by
  have := specZonesOf_any a b F w hP.a8.1 hP.a8.2 hP.b8.1 hP.b8.2
  rw [hP.good] at this
  exact this
theorem covI (w : World) : Calls Tryz.prog 12 #[.agg (plate a b F)] w fun e w' => e = .returned (.tuple #[.float .f32 (coverR a b F), .int .i64 0]) ∧ Below w.heap.size w w' := by
  have := implCover_any a b F w hP.a8.1 hP.a8.2 hP.b8.1 hP.b8.2
  rw [hP.good] at this
  exact this
theorem covS (w : World) : Calls Tryz.prog 13 #[.agg (plate a b F)] w fun e w' => e = .returned (.tuple #[.float .f32 (coverR a b F), .int .i64 0]) ∧ Below w.heap.size w w' := by
  have := specCover_any a b F w hP.a8.1 hP.a8.2 hP.b8.1 hP.b8.2
  rw [hP.good] at this
  exact this
theorem validP (w : World) : Calls Tryz.prog 16 #[.agg (plate a b F)] w fun e w' => e = .returned (.bool true) ∧ Below w.heap.size w w' := by
  have := implPOk_any a b F w hP.a8.1 hP.a8.2 hP.b8.1 hP.b8.2
  rwa [hP.good] at this
theorem scrI (w : World) : Calls Tryz.prog 22 #[.agg (plate a b F)] w fun e w' => e = .returned (.tuple #[.agg (plate a b (mapA a b (screenF F) (fun _ => 0))), .int .i64 0]) ∧ Below w.heap.size w w' := by
  have := implScreen_any a b F w hP.a8.1 hP.a8.2 hP.b8.1 hP.b8.2
  rw [hP.good] at this
  exact this
theorem scrS (w : World) : Calls Tryz.prog 23 #[.agg (plate a b F)] w fun e w' => e = .returned (.tuple #[.agg (plate a b (mapA a b (screenF F) (fun _ => 0))), .int .i64 0]) ∧ Below w.heap.size w w' := by
  have := specScreen_any a b F w hP.a8.1 hP.a8.2 hP.b8.1 hP.b8.2
  rw [hP.good] at this
  exact this
theorem invI (w : World) : Calls Tryz.prog 24 #[.agg (plate a b F)] w fun e w' => e = .returned (.tuple #[.agg (plate a b (mapA a b (fun i => fsub 1065353216 (F i)) (fun _ => 0))), .int .i64 0]) ∧ Below w.heap.size w w' := by
  have := implInvert_any a b F w hP.a8.1 hP.a8.2 hP.b8.1 hP.b8.2
  rw [hP.good] at this
  exact this
theorem invS (w : World) : Calls Tryz.prog 25 #[.agg (plate a b F)] w fun e w' => e = .returned (.tuple #[.agg (plate a b (mapA a b (fun i => fsub 1065353216 (F i)) (fun _ => 0))), .int .i64 0]) ∧ Below w.heap.size w w' := by
  have := specInvert_any a b F w hP.a8.1 hP.a8.2 hP.b8.1 hP.b8.2
  rw [hP.good] at this
  exact this
theorem darI (w : World) : Calls Tryz.prog 26 #[.agg (plate a b F)] w fun e w' => e = .returned (.tuple #[.int .i64 (darkK F a (a * b) : Nat), .float .f32 (F (darkK F a (a * b))), .int .i64 0]) ∧ Below w.heap.size w w' := by
  have := implDark_any a b F w hP.a8.1 hP.a8.2 hP.b8.1 hP.b8.2
  unfold darkI darkF codeV at this
  rw [hP.good] at this
  exact this
theorem dotI {i : Nat} (hi : i < 64) (hc : isC a b i = true) (w : World) : Calls Tryz.prog 29 #[.agg (plate a b F), .int .i64 ((i % 8 : Nat) : Int), .int .i64 ((i / 8 : Nat) : Int)] w fun e w' => e = .returned (.tuple #[.float .f32 (F i), .int .i64 0]) ∧ Below w.heap.size w w' := by
  have := implDotAt_any a b F w hP.a8.1 hP.a8.2 hP.b8.1 hP.b8.2 ((i % 8 : Nat) : Int) ((i / 8 : Nat) : Int) (by omega) (by omega) (by omega) (by omega)
  unfold atR atC at this
  have h := isC_iff.1 hc
  rw [hP.good, show inXY ((i % 8 : Nat) : Int) ((i / 8 : Nat) : Int) (a : Int).toNat (b : Int).toNat = true from by unfold inXY; simp; omega, show (((i % 8 : Nat) : Int) + 8 * ((i / 8 : Nat) : Int)).toNat = i from by omega] at this
  exact this
theorem dotZ (w : World) : Calls Tryz.prog 29 #[.agg (plate a b F), .int .i64 0, .int .i64 0] w fun e w' => e = .returned (.tuple #[.float .f32 (F 0), .int .i64 0]) ∧ Below w.heap.size w w' :=
  dotI hP (i := 0) (by omega) (isC_iff.2 ⟨hP.a1, hP.b1⟩) w
theorem withI {v : Nat} (hv : partB v = true) (w : World) : Calls Tryz.prog 32 #[.agg (plate a b F), .int .i64 0, .int .i64 0, .float .f32 v] w fun e w' => e = .returned (.tuple #[.agg (plate a b (upd F 0 v)), .int .i64 0]) ∧ Below w.heap.size w w' := by
  have := implWith_any a b F w hP.a8.1 hP.a8.2 hP.b8.1 hP.b8.2 0 0 (by omega) (by omega) (by omega) (by omega) v
  have a1 := hP.a1
  have b1 := hP.b1
  rw [hP.good, hv, show inXY 0 0 (a : Int).toNat (b : Int).toNat = true from by unfold inXY; simp; omega] at this
  exact this
theorem evenI (w : World) : Calls Tryz.prog 31 #[.int .i64 a, .int .i64 b, .float .f32 1056964608] w fun e w' => e = .returned (.tuple #[.agg (plate a b (evenF a b)), .int .i64 0]) ∧ Below w.heap.size w w' := by
  have := implEven_any a b 1056964608 w
  have a1 := hP.a1
  have a5 := hP.a5
  have b1 := hP.b1
  have b5 := hP.b5
  rw [show evenB (a : Int) (b : Int) 1056964608 = true from by unfold evenB; rw [sizeB_iff.2 ⟨⟨by omega, by omega⟩, by omega, by omega⟩]; decide +kernel] at this
  exact this
section
variable {G : Nat → Nat} (hQ : DrawnP a b G)
include hQ
theorem pair_ok : okP a b F a b G = true ∧ pairC a b F a b G = 0 := by
  unfold okP pairC
  rw [hP.good, hQ.good]
  simp
theorem oveI (w : World) : Calls Tryz.prog 20 #[.agg (plate a b F), .agg (plate a b G)] w fun e w' => e = .returned (.tuple #[.agg (plate a b (mapA a b (fun i => overN (F i) (G i)) (fun _ => 0))), .int .i64 0]) ∧ Below w.heap.size w w' := by
  have := implOver_any a b F a b G w hP.a8.1 hP.a8.2 hP.b8.1 hP.b8.2 hP.a8.1 hP.a8.2 hP.b8.1 hP.b8.2
  obtain ⟨h1, h2⟩ := pair_ok hP hQ
  rw [h1, h2] at this
  exact this
theorem oveS (w : World) : Calls Tryz.prog 21 #[.agg (plate a b F), .agg (plate a b G)] w fun e w' => e = .returned (.tuple #[.agg (plate a b (mapA a b (fun i => overN (F i) (G i)) (fun _ => 0))), .int .i64 0]) ∧ Below w.heap.size w w' := by
  have := specOver_any a b F a b G w hP.a8.1 hP.a8.2 hP.b8.1 hP.b8.2 hP.a8.1 hP.a8.2 hP.b8.1 hP.b8.2
  obtain ⟨h1, h2⟩ := pair_ok hP hQ
  rw [h1, h2] at this
  exact this
theorem difI (w : World) : Calls Tryz.prog 27 #[.agg (plate a b F), .agg (plate a b G)] w fun e w' => e = .returned (.tuple #[.float .f32 (diffK F G a (a * b)), .int .i64 0]) ∧ Below w.heap.size w w' := by
  have := implDiffer_any a b F a b G w hP.a8.1 hP.a8.2 hP.b8.1 hP.b8.2 hP.a8.1 hP.a8.2 hP.b8.1 hP.b8.2
  obtain ⟨h1, h2⟩ := pair_ok hP hQ
  unfold diffR at this
  rw [h1, h2] at this
  exact this
theorem difS (w : World) : Calls Tryz.prog 28 #[.agg (plate a b F), .agg (plate a b G)] w fun e w' => e = .returned (.tuple #[.float .f32 (diffK F G a (a * b)), .int .i64 0]) ∧ Below w.heap.size w w' := by
  have := specDiffer_any a b F a b G w hP.a8.1 hP.a8.2 hP.b8.1 hP.b8.2 hP.a8.1 hP.a8.2 hP.b8.1 hP.b8.2
  obtain ⟨h1, h2⟩ := pair_ok hP hQ
  unfold diffR at this
  rw [h1, h2] at this
  exact this
/-- What is asked of a cell. -/
structure CellAsk (i c most gap : Nat) (O S : Nat → Nat) : Prop where
  o1 : (FloatKind.f32.format.order (O i) (F i) == some .lt) = false
  o2 : (FloatKind.f32.format.order (O i) 1065353216 == some .gt) = false
  sc : FloatKind.f32.format.order (S i) 0 = some .eq ∨ ((FloatKind.f32.format.order (S i) 0 == some .eq) = false ∧ FloatKind.f32.format.order (S i) 1065353216 = some .eq)
  d1 : (FloatKind.f32.format.order (F i) most == some .gt) = false
  d2 : (FloatKind.f32.format.order (F i) most == some .eq) = false ∨ ((FloatKind.f32.format.order (F i) most == some .eq) = true ∧ c ≤ i)
  g1 : Fin32 (fsub (F i) (G i))
  g2 : ¬ Flt.NaN single gap
  g3 : leF (absN (fsub (F i) (G i))) gap = true
theorem cell_ask {i : Nat} (hi : i < 64) (hc : isC a b i = true) : CellAsk (F := F) (G := G) i (darkK F a (a * b)) (F (darkK F a (a * b))) (diffK F G a (a * b)) (mapA a b (fun i => overN (F i) (G i)) (fun _ => 0)) (mapA a b (screenF F) (fun _ => 0)) := by
  obtain ⟨t1, t2, t3⟩ := dark_top hP
  obtain ⟨h1, h2⟩ := t3 i hi hc
  have n1 := fin_nan (part_fin (hP.dot i).1)
  have n2 := fin_nan (part_fin (hP.dot (darkK F a (a * b))).1)
  have po := over_part (hP.dot i).1 (hQ.dot i).1
  have no := fin_nan (part_fin po)
  obtain ⟨gn, gl⟩ := gap_near hP hQ hi hc
  have eo : mapA a b (fun i => overN (F i) (G i)) (fun _ => 0) i = overN (F i) (G i) := by unfold mapA; rw [hc]; rfl
  have es : mapA a b (screenF F) (fun _ => 0) i = screenF F i := by unfold mapA; rw [hc]; rfl
  refine ⟨by rw [eo]; exact lt_no no n1 (over_ge hP hQ i), by rw [eo]; exact gt_no no (by decide) (by rw [Z_one]; exact ((part_iff _).1 po).2.2), ?_, gt_no n1 n2 h1, ?_, gap_fin hP hQ i, gn, gl⟩
  · rw [es]
    rcases screen_two (F := F) i with h | h <;> rw [h]
    · exact Or.inr ⟨by decide +kernel, by decide +kernel⟩
    · exact Or.inl (by decide +kernel)
  · by_cases e : darkK F a (a * b) ≤ i
    · cases h : (FloatKind.f32.format.order (F i) (F (darkK F a (a * b))) == some .eq)
      · exact Or.inl rfl
      · exact Or.inr ⟨rfl, e⟩
    · refine Or.inl ?_
      have := h2 (by omega)
      rw [order_Z n1 n2, Int.compare_eq_lt.2 this]
      rfl
end
end
end Go.Proofs.YtekfmjddlemboaaGreatDoor

/-! What FnPlates tests of a plate and its mirror; under its own premises. -/
set_option linter.unusedVariables false
set_option linter.unusedSimpArgs false
namespace Go.Proofs.YtekfmjddlemboaaGreatDoor
open Go.RowKit Ieee

set_option maxRecDepth 100000 in
set_option maxHeartbeats 6400000 in
theorem plates_first {a b g5 g6 g8 g10 g12 g14 g16 g18 : Nat} {F : Nat → Nat} (hP : DrawnP a b F) {w w1 : World} (hB : Below w.heap.size w w1) (hg5 : w1.heap[g5]? = some (.cells (plate a b F) 29 (0, 0))) (hg6 : w1.heap[g6]? = some (.cells (plate a b F) 29 (0, 0))) (hg8 : w1.heap[g8]? = some (.cells (plate a b (mirF a b F)) 29 (0, 0))) (hg10 : w1.heap[g10]? = some (.cells (plate a b (mirF a b F)) 29 (0, 0))) (hg12 : w1.heap[g12]? = some (.cells (plate a b F) 29 (0, 0))) (hg14 : w1.heap[g14]? = some (.cells (row [] 8 (zonesF a b F)) 36 (0, 0))) (hg16 : w1.heap[g16]? = some (.cells (row [] 8 (zonesF a b F)) 36 (0, 0))) (hg18 : w1.heap[g18]? = some (.cells (row [] 8 (zonesF a b (mirF a b F))) 36 (0, 0)))
    {Q : Exit → Act → World → Prop} {K : Act → World → Prop} {x0 x1 x2 x3 x4 x24 x25 x26 x27 x28 x29 x30 x31 x32 x33 x34 x35 x36 x37 x38 x39 x40 x41 x42 x43 x44 x45 x46 x47 x48 x49 x50 x51 x52 x53 x54 x55 x56 x57 x58 x59 x60 x61 x62 x63 x64 x65 x66 x67 x68 x69 x70 x71 x72 x73 x74 x75 x76 x77 x78 x79 x80 x81 x82 x83 x84 x85 x86 x87 x88 x89 x90 x91 x92 x93 x94 x95 x96 x97 x98 x99 x100 x101 x102 x103 x104 x105 x106 x107 x108 x109 x110 x111 x112 x113 x114 x115 x116 x117 x118 x119 x120 x121 x122 x123 x124 x125 x126 x127 x128 x129 x130 x131 x132 x133 x134 x135 x136 x137 x138 x139 x140 x141 x142 x143 x144 x145 x146 x147 x148 x149 x150 x151 x152 x153 x154 x155 x156 x157 x158 x159 x160 x161 x162 x163 x164 x165 x166 x167 x168 x169 x170 x171 x172 x173 x174 x175 x176 x177 x178 x179 x180 x181 x182 x183 x184 x185 x186 x187 x188 x189 x190 x191 x192 x193 x194 x195 x196 x197 x198 x199 x200 x201 x202 x203 x204 x205 x206 x207 x208 x209 x210 x211 x212 x213 x214 x215 x216 x217 x218 x219 x220 x221 x222 x223 x224 x225 x226 x227 x228 x229 x230 x231 x232 x233 x234 x235 x236 x237 x238 x239 x240 x241 x242 x243 x244 x245 x246 x247 x248 x249 x250 x251 x252 x253 x254 x255 x256 x257 x258 x259 x260 x261 x262 x263 x264 x265 x266 x267 x268 x269 x270 x271 x272 x273 x274 x275 x276 x277 x278 x279 x280 x281 x282 x283 x284 x285 x286 x287 x288 x289 x290 x291 x292 x293 x294 x295 x296 x297 x298 x299 x300 x301 x302 x303 x304 x305 x306 x307 x308 x309 x310 x311 x312 x313 x314 x315 x316 x317 x318 x319 x320 x321 x322 x323 x324 x325 x326 x327 x328 x329 x330 x331 x332 x333 x334 x335 x336 x337 x338 x339 x340 x341 x342 x343 x344 x345 x346 x347 x348 x349 x350 x351 x352 x353 x354 x355 x356 x357 x358 x359 x360 x361 x362 x363 x364 x365 x366 x367 x368 x369 x370 x371 x372 x373 x374 x375 x376 x377 x378 x379 x380 x381 x382 x383 x384 x385 x386 x387 x388 x389 x390 x391 x392 x393 x394 x395 x396 x397 x398 x399 x400 x401 x402 x403 x404 x405 x406 x407 x408 x409 x410 x411 x412 x413 x414 x415 x416 x417 x418 x419 x420 x421 x422 x423 x424 x425 x426 x427 x428 x429 x430 x431 x432 x433 x434 x435 x436 x437 x438 x439 x440 x441 x442 x443 x444 x445 x446 x447 x448 x449 x450 x451 x452 x453 x454 x455 x456 x457 x458 x459 x460 x461 x462 x463 x464 x465 x466 x467 x468 x469 x470 x471 x472 x473 x474 x475 x476 x477 x478 x479 x480 x481 x482 x483 x484 x485 x486 x487 x488 x489 x490 x491 x492 x493 x494 x495 x496 x497 x498 x499 x500 x501 x502 x503 x504 x505 x506 x507 x508 x509 : Value}
    (hK : ∀ a' w', Met (fun a' w' => ∃ u109 u110 u111 u112 u113 u114 u115 u116 u117 u118 u119 u120 u121 u122 u123 u124 u125 u126 u127 u128 u129 u130 u131 u132 u133 u134 u135 u136 u137 u138 u139 u140 u141 u142 u143 u144 u145 u146 u147 u148 u149 u150 u151 u152 u153 u154 u155 u156 u157 u158 u159 u160 u161 u162 u163 u164 u165 u166 u167 u168 u169 u170 u171 u172 u173 u174 u175 u176 u177 u178 u179 u180 u181 u182 u183 u184 u185 u186, (u186 = .bool false ∧ w'.heap[g5]? = some (.cells (plate a b F) 29 (0, 0)) ∧ w'.heap[g16]? = some (.cells (row [] 8 (zonesF a b F)) 36 (0, 0)) ∧ w'.heap[g18]? = some (.cells (row [] 8 (zonesF a b (mirF a b F))) 36 (0, 0)) ∧ Below w.heap.size w w' ∧ w1.heap.size ≤ w'.heap.size) ∧ a' = ⟨#[x0, x1, x2, x3, x4, .pointer (some ⟨g5, 0, none⟩), .pointer (some ⟨g6, 0, none⟩), .int .i64 0, .pointer (some ⟨g8, 0, none⟩), .int .i64 0, .pointer (some ⟨g10, 0, none⟩), .int .i64 0, .pointer (some ⟨g12, 0, none⟩), .int .i64 0, .pointer (some ⟨g14, 0, none⟩), .int .i64 0, .pointer (some ⟨g16, 0, none⟩), .int .i64 0, .pointer (some ⟨g18, 0, none⟩), .int .i64 0, .float .f32 (coverR a b F), .int .i64 0, .float .f32 (coverR a b F), .int .i64 0, x24, x25, x26, x27, x28, x29, x30, x31, x32, x33, x34, x35, x36, x37, x38, x39, x40, x41, x42, x43, x44, x45, x46, x47, x48, x49, x50, x51, x52, x53, x54, x55, x56, x57, x58, x59, x60, x61, x62, x63, x64, x65, x66, x67, x68, x69, x70, x71, x72, x73, x74, x75, x76, x77, x78, x79, x80, x81, x82, x83, x84, x85, x86, x87, x88, x89, x90, x91, x92, x93, x94, x95, x96, x97, x98, x99, x100, x101, x102, x103, x104, x105, x106, x107, x108, u109, u110, u111, u112, u113, u114, u115, u116, u117, u118, u119, u120, u121, u122, u123, u124, u125, u126, u127, u128, u129, u130, u131, u132, u133, u134, u135, u136, u137, u138, u139, u140, u141, u142, u143, u144, u145, u146, u147, u148, u149, u150, u151, u152, u153, u154, u155, u156, u157, u158, u159, u160, u161, u162, u163, u164, u165, u166, u167, u168, u169, u170, u171, u172, u173, u174, u175, u176, u177, u178, u179, u180, u181, u182, u183, u184, u185, u186, x187, x188, x189, x190, x191, x192, x193, x194, x195, x196, x197, x198, x199, x200, x201, x202, x203, x204, x205, x206, x207, x208, x209, x210, x211, x212, x213, x214, x215, x216, x217, x218, x219, x220, x221, x222, x223, x224, x225, x226, x227, x228, x229, x230, x231, x232, x233, x234, x235, x236, x237, x238, x239, x240, x241, x242, x243, x244, x245, x246, x247, x248, x249, x250, x251, x252, x253, x254, x255, x256, x257, x258, x259, x260, x261, x262, x263, x264, x265, x266, x267, x268, x269, x270, x271, x272, x273, x274, x275, x276, x277, x278, x279, x280, x281, x282, x283, x284, x285, x286, x287, x288, x289, x290, x291, x292, x293, x294, x295, x296, x297, x298, x299, x300, x301, x302, x303, x304, x305, x306, x307, x308, x309, x310, x311, x312, x313, x314, x315, x316, x317, x318, x319, x320, x321, x322, x323, x324, x325, x326, x327, x328, x329, x330, x331, x332, x333, x334, x335, x336, x337, x338, x339, x340, x341, x342, x343, x344, x345, x346, x347, x348, x349, x350, x351, x352, x353, x354, x355, x356, x357, x358, x359, x360, x361, x362, x363, x364, x365, x366, x367, x368, x369, x370, x371, x372, x373, x374, x375, x376, x377, x378, x379, x380, x381, x382, x383, x384, x385, x386, x387, x388, x389, x390, x391, x392, x393, x394, x395, x396, x397, x398, x399, x400, x401, x402, x403, x404, x405, x406, x407, x408, x409, x410, x411, x412, x413, x414, x415, x416, x417, x418, x419, x420, x421, x422, x423, x424, x425, x426, x427, x428, x429, x430, x431, x432, x433, x434, x435, x436, x437, x438, x439, x440, x441, x442, x443, x444, x445, x446, x447, x448, x449, x450, x451, x452, x453, x454, x455, x456, x457, x458, x459, x460, x461, x462, x463, x464, x465, x466, x467, x468, x469, x470, x471, x472, x473, x474, x475, x476, x477, x478, x479, x480, x481, x482, x483, x484, x485, x486, x487, x488, x489, x490, x491, x492, x493, x494, x495, x496, x497, x498, x499, x500, x501, x502, x503, x504, x505, x506, x507, x508, x509], []⟩) a' w' → K a' w') :
    (cL (cL (cRn 12 (bodyOf Tryz.f3)))).wp Tryz.prog (Exit.then K Q) ⟨#[x0, x1, x2, x3, x4, .pointer (some ⟨g5, 0, none⟩), .pointer (some ⟨g6, 0, none⟩), .int .i64 0, .pointer (some ⟨g8, 0, none⟩), .int .i64 0, .pointer (some ⟨g10, 0, none⟩), .int .i64 0, .pointer (some ⟨g12, 0, none⟩), .int .i64 0, .pointer (some ⟨g14, 0, none⟩), .int .i64 0, .pointer (some ⟨g16, 0, none⟩), .int .i64 0, .pointer (some ⟨g18, 0, none⟩), .int .i64 0, .float .f32 (coverR a b F), .int .i64 0, .float .f32 (coverR a b F), .int .i64 0, x24, x25, x26, x27, x28, x29, x30, x31, x32, x33, x34, x35, x36, x37, x38, x39, x40, x41, x42, x43, x44, x45, x46, x47, x48, x49, x50, x51, x52, x53, x54, x55, x56, x57, x58, x59, x60, x61, x62, x63, x64, x65, x66, x67, x68, x69, x70, x71, x72, x73, x74, x75, x76, x77, x78, x79, x80, x81, x82, x83, x84, x85, x86, x87, x88, x89, x90, x91, x92, x93, x94, x95, x96, x97, x98, x99, x100, x101, x102, x103, x104, x105, x106, x107, x108, x109, x110, x111, x112, x113, x114, x115, x116, x117, x118, x119, x120, x121, x122, x123, x124, x125, x126, x127, x128, x129, x130, x131, x132, x133, x134, x135, x136, x137, x138, x139, x140, x141, x142, x143, x144, x145, x146, x147, x148, x149, x150, x151, x152, x153, x154, x155, x156, x157, x158, x159, x160, x161, x162, x163, x164, x165, x166, x167, x168, x169, x170, x171, x172, x173, x174, x175, x176, x177, x178, x179, x180, x181, x182, x183, x184, x185, x186, x187, x188, x189, x190, x191, x192, x193, x194, x195, x196, x197, x198, x199, x200, x201, x202, x203, x204, x205, x206, x207, x208, x209, x210, x211, x212, x213, x214, x215, x216, x217, x218, x219, x220, x221, x222, x223, x224, x225, x226, x227, x228, x229, x230, x231, x232, x233, x234, x235, x236, x237, x238, x239, x240, x241, x242, x243, x244, x245, x246, x247, x248, x249, x250, x251, x252, x253, x254, x255, x256, x257, x258, x259, x260, x261, x262, x263, x264, x265, x266, x267, x268, x269, x270, x271, x272, x273, x274, x275, x276, x277, x278, x279, x280, x281, x282, x283, x284, x285, x286, x287, x288, x289, x290, x291, x292, x293, x294, x295, x296, x297, x298, x299, x300, x301, x302, x303, x304, x305, x306, x307, x308, x309, x310, x311, x312, x313, x314, x315, x316, x317, x318, x319, x320, x321, x322, x323, x324, x325, x326, x327, x328, x329, x330, x331, x332, x333, x334, x335, x336, x337, x338, x339, x340, x341, x342, x343, x344, x345, x346, x347, x348, x349, x350, x351, x352, x353, x354, x355, x356, x357, x358, x359, x360, x361, x362, x363, x364, x365, x366, x367, x368, x369, x370, x371, x372, x373, x374, x375, x376, x377, x378, x379, x380, x381, x382, x383, x384, x385, x386, x387, x388, x389, x390, x391, x392, x393, x394, x395, x396, x397, x398, x399, x400, x401, x402, x403, x404, x405, x406, x407, x408, x409, x410, x411, x412, x413, x414, x415, x416, x417, x418, x419, x420, x421, x422, x423, x424, x425, x426, x427, x428, x429, x430, x431, x432, x433, x434, x435, x436, x437, x438, x439, x440, x441, x442, x443, x444, x445, x446, x447, x448, x449, x450, x451, x452, x453, x454, x455, x456, x457, x458, x459, x460, x461, x462, x463, x464, x465, x466, x467, x468, x469, x470, x471, x472, x473, x474, x475, x476, x477, x478, x479, x480, x481, x482, x483, x484, x485, x486, x487, x488, x489, x490, x491, x492, x493, x494, x495, x496, x497, x498, x499, x500, x501, x502, x503, x504, x505, x506, x507, x508, x509], []⟩ w1 := by
  conv => arg 2; whnf
  try dsimp only [List.append]
  obtain ⟨z0, hz0⟩ : ∃ z, z = w1.heap.size := ⟨_, rfl⟩
  go_wp2_with (first | ((with_reducible refine at_load 29 ?_); refine wpList_load_part rfl 29 _ rfl _ 0 66 rfl _ _ _ _ (by first | (with_reducible assumption) | (with_reducible exact blk_new _ _ _ rfl) | (with_reducible exact chainN _ _ _ _) | (with_reducible exact chain1 (by assumption)) | (with_reducible exact old0 (by assumption) (by assumption)) | (with_reducible exact old1 (by assumption) (by assumption)) | (with_reducible exact new1 (by assumption))) Tryz.underlying29 rfl (by kernel_rfl) (by simp [row_size]) _ (row_all [_, _] 64 _) ?_) | ((with_reducible refine at_load 29 ?_); refine wpList_load_partg (by first | rfl | (simp only [hff]; rfl) | (go_simp; done)) 29 _ rfl _ 0 66 rfl _ _ _ _ (by first | (with_reducible assumption) | (with_reducible exact blk_new _ _ _ rfl) | (with_reducible exact chainN _ _ _ _) | (with_reducible exact chain1 (by assumption)) | (with_reducible exact old0 (by assumption) (by assumption)) | (with_reducible exact old1 (by assumption) (by assumption)) | (with_reducible exact new1 (by assumption))) Tryz.underlying29 rfl (by kernel_rfl) (by simp [row_size]) _ (row_all [_, _] 64 _) ?_) | ((with_reducible refine at_store 29 ?_); refine wpList_store_part rfl 29 _ _ rfl _ 0 _ rfl rfl _ _ (by first | (with_reducible assumption) | (with_reducible exact blk_new _ _ _ rfl) | (with_reducible exact chainN _ _ _ _) | (with_reducible exact chain1 (by assumption)) | (with_reducible exact old0 (by assumption) (by assumption)) | (with_reducible exact old1 (by assumption) (by assumption)) | (with_reducible exact new1 (by assumption))) (by rw [row_size]; kernel_rfl) (by simp [row_size]) (row_cells _ _ _ rfl) _ (row_over _ _ 64 _ _ (by simp)) ?_) | ((with_reducible refine at_load 36 ?_); refine wpList_load_part rfl 36 _ rfl _ 0 8 rfl _ _ _ _ (by first | (with_reducible assumption) | (with_reducible exact blk_new _ _ _ rfl) | (with_reducible exact chainN _ _ _ _) | (with_reducible exact chain1 (by assumption)) | (with_reducible exact old0 (by assumption) (by assumption)) | (with_reducible exact old1 (by assumption) (by assumption)) | (with_reducible exact new1 (by assumption))) Tryz.underlying36 rfl (by kernel_rfl) (by simp [row_size]) _ (row_all [] 8 _) ?_) | ((with_reducible refine at_load 36 ?_); refine wpList_load_partg (by first | rfl | (simp only [hff]; rfl) | (go_simp; done)) 36 _ rfl _ 0 8 rfl _ _ _ _ (by first | (with_reducible assumption) | (with_reducible exact blk_new _ _ _ rfl) | (with_reducible exact chainN _ _ _ _) | (with_reducible exact chain1 (by assumption)) | (with_reducible exact old0 (by assumption) (by assumption)) | (with_reducible exact old1 (by assumption) (by assumption)) | (with_reducible exact new1 (by assumption))) Tryz.underlying36 rfl (by kernel_rfl) (by simp [row_size]) _ (row_all [] 8 _) ?_) | ((with_reducible refine at_store 36 ?_); refine wpList_store_part rfl 36 _ _ rfl _ 0 _ rfl rfl _ _ (by first | (with_reducible assumption) | (with_reducible exact blk_new _ _ _ rfl) | (with_reducible exact chainN _ _ _ _) | (with_reducible exact chain1 (by assumption)) | (with_reducible exact old0 (by assumption) (by assumption)) | (with_reducible exact old1 (by assumption) (by assumption)) | (with_reducible exact new1 (by assumption))) (by rw [row_size]; kernel_rfl) (by simp [row_size]) (row_cells _ _ _ rfl) _ (row_over _ _ 8 _ _ (by simp)) ?_))
  refine (samePI hP.lt _).mono ?_
  rintro e w2 ⟨rfl, hb⟩
  have hg5' : w2.heap[g5]? = some (.cells (plate a b F) 29 (0, 0)) := (by first | (with_reducible assumption) | (with_reducible exact blk_new _ _ _ rfl) | (with_reducible exact chainN _ _ _ _) | (with_reducible exact chain1 (by assumption)) | (with_reducible exact old0 (by assumption) (by assumption)) | (with_reducible exact old1 (by assumption) (by assumption)) | (with_reducible exact new1 (by assumption)))
  have hg6' : w2.heap[g6]? = some (.cells (plate a b F) 29 (0, 0)) := (by first | (with_reducible assumption) | (with_reducible exact blk_new _ _ _ rfl) | (with_reducible exact chainN _ _ _ _) | (with_reducible exact chain1 (by assumption)) | (with_reducible exact old0 (by assumption) (by assumption)) | (with_reducible exact old1 (by assumption) (by assumption)) | (with_reducible exact new1 (by assumption)))
  have hg8' : w2.heap[g8]? = some (.cells (plate a b (mirF a b F)) 29 (0, 0)) := (by first | (with_reducible assumption) | (with_reducible exact blk_new _ _ _ rfl) | (with_reducible exact chainN _ _ _ _) | (with_reducible exact chain1 (by assumption)) | (with_reducible exact old0 (by assumption) (by assumption)) | (with_reducible exact old1 (by assumption) (by assumption)) | (with_reducible exact new1 (by assumption)))
  have hg10' : w2.heap[g10]? = some (.cells (plate a b (mirF a b F)) 29 (0, 0)) := (by first | (with_reducible assumption) | (with_reducible exact blk_new _ _ _ rfl) | (with_reducible exact chainN _ _ _ _) | (with_reducible exact chain1 (by assumption)) | (with_reducible exact old0 (by assumption) (by assumption)) | (with_reducible exact old1 (by assumption) (by assumption)) | (with_reducible exact new1 (by assumption)))
  have hg12' : w2.heap[g12]? = some (.cells (plate a b F) 29 (0, 0)) := (by first | (with_reducible assumption) | (with_reducible exact blk_new _ _ _ rfl) | (with_reducible exact chainN _ _ _ _) | (with_reducible exact chain1 (by assumption)) | (with_reducible exact old0 (by assumption) (by assumption)) | (with_reducible exact old1 (by assumption) (by assumption)) | (with_reducible exact new1 (by assumption)))
  have hg14' : w2.heap[g14]? = some (.cells (row [] 8 (zonesF a b F)) 36 (0, 0)) := (by first | (with_reducible assumption) | (with_reducible exact blk_new _ _ _ rfl) | (with_reducible exact chainN _ _ _ _) | (with_reducible exact chain1 (by assumption)) | (with_reducible exact old0 (by assumption) (by assumption)) | (with_reducible exact old1 (by assumption) (by assumption)) | (with_reducible exact new1 (by assumption)))
  have hg16' : w2.heap[g16]? = some (.cells (row [] 8 (zonesF a b F)) 36 (0, 0)) := (by first | (with_reducible assumption) | (with_reducible exact blk_new _ _ _ rfl) | (with_reducible exact chainN _ _ _ _) | (with_reducible exact chain1 (by assumption)) | (with_reducible exact old0 (by assumption) (by assumption)) | (with_reducible exact old1 (by assumption) (by assumption)) | (with_reducible exact new1 (by assumption)))
  have hg18' : w2.heap[g18]? = some (.cells (row [] 8 (zonesF a b (mirF a b F))) 36 (0, 0)) := (by first | (with_reducible assumption) | (with_reducible exact blk_new _ _ _ rfl) | (with_reducible exact chainN _ _ _ _) | (with_reducible exact chain1 (by assumption)) | (with_reducible exact old0 (by assumption) (by assumption)) | (with_reducible exact old1 (by assumption) (by assumption)) | (with_reducible exact new1 (by assumption)))
  have hB' : Below w.heap.size w w2 := (by first | (with_reducible assumption) | (with_reducible exact bel0 (by assumption) (by assumption) hB.size) | (with_reducible exact bel1 (by assumption) (by assumption) hB.size) | (with_reducible exact belr hB hB.size))
  have hz2 := hb.size
  try simp at hz2
  clear hB hb  hg5 hg6 hg8 hg10 hg12 hg14 hg16 hg18 
  generalize hgz1 : w1.heap.size = z1 at *
  clear hgz1
  have hB := hB'; clear hB'
  have hg5 := hg5'; clear hg5'
  have hg6 := hg6'; clear hg6'
  have hg8 := hg8'; clear hg8'
  have hg10 := hg10'; clear hg10'
  have hg12 := hg12'; clear hg12'
  have hg14 := hg14'; clear hg14'
  have hg16 := hg16'; clear hg16'
  have hg18 := hg18'; clear hg18'
  go_wp2_with (first | ((with_reducible refine at_load 29 ?_); refine wpList_load_part rfl 29 _ rfl _ 0 66 rfl _ _ _ _ (by first | (with_reducible assumption) | (with_reducible exact blk_new _ _ _ rfl) | (with_reducible exact chainN _ _ _ _) | (with_reducible exact chain1 (by assumption)) | (with_reducible exact old0 (by assumption) (by assumption)) | (with_reducible exact old1 (by assumption) (by assumption)) | (with_reducible exact new1 (by assumption))) Tryz.underlying29 rfl (by kernel_rfl) (by simp [row_size]) _ (row_all [_, _] 64 _) ?_) | ((with_reducible refine at_load 29 ?_); refine wpList_load_partg (by first | rfl | (simp only [hff]; rfl) | (go_simp; done)) 29 _ rfl _ 0 66 rfl _ _ _ _ (by first | (with_reducible assumption) | (with_reducible exact blk_new _ _ _ rfl) | (with_reducible exact chainN _ _ _ _) | (with_reducible exact chain1 (by assumption)) | (with_reducible exact old0 (by assumption) (by assumption)) | (with_reducible exact old1 (by assumption) (by assumption)) | (with_reducible exact new1 (by assumption))) Tryz.underlying29 rfl (by kernel_rfl) (by simp [row_size]) _ (row_all [_, _] 64 _) ?_) | ((with_reducible refine at_store 29 ?_); refine wpList_store_part rfl 29 _ _ rfl _ 0 _ rfl rfl _ _ (by first | (with_reducible assumption) | (with_reducible exact blk_new _ _ _ rfl) | (with_reducible exact chainN _ _ _ _) | (with_reducible exact chain1 (by assumption)) | (with_reducible exact old0 (by assumption) (by assumption)) | (with_reducible exact old1 (by assumption) (by assumption)) | (with_reducible exact new1 (by assumption))) (by rw [row_size]; kernel_rfl) (by simp [row_size]) (row_cells _ _ _ rfl) _ (row_over _ _ 64 _ _ (by simp)) ?_) | ((with_reducible refine at_load 36 ?_); refine wpList_load_part rfl 36 _ rfl _ 0 8 rfl _ _ _ _ (by first | (with_reducible assumption) | (with_reducible exact blk_new _ _ _ rfl) | (with_reducible exact chainN _ _ _ _) | (with_reducible exact chain1 (by assumption)) | (with_reducible exact old0 (by assumption) (by assumption)) | (with_reducible exact old1 (by assumption) (by assumption)) | (with_reducible exact new1 (by assumption))) Tryz.underlying36 rfl (by kernel_rfl) (by simp [row_size]) _ (row_all [] 8 _) ?_) | ((with_reducible refine at_load 36 ?_); refine wpList_load_partg (by first | rfl | (simp only [hff]; rfl) | (go_simp; done)) 36 _ rfl _ 0 8 rfl _ _ _ _ (by first | (with_reducible assumption) | (with_reducible exact blk_new _ _ _ rfl) | (with_reducible exact chainN _ _ _ _) | (with_reducible exact chain1 (by assumption)) | (with_reducible exact old0 (by assumption) (by assumption)) | (with_reducible exact old1 (by assumption) (by assumption)) | (with_reducible exact new1 (by assumption))) Tryz.underlying36 rfl (by kernel_rfl) (by simp [row_size]) _ (row_all [] 8 _) ?_) | ((with_reducible refine at_store 36 ?_); refine wpList_store_part rfl 36 _ _ rfl _ 0 _ rfl rfl _ _ (by first | (with_reducible assumption) | (with_reducible exact blk_new _ _ _ rfl) | (with_reducible exact chainN _ _ _ _) | (with_reducible exact chain1 (by assumption)) | (with_reducible exact old0 (by assumption) (by assumption)) | (with_reducible exact old1 (by assumption) (by assumption)) | (with_reducible exact new1 (by assumption))) (by rw [row_size]; kernel_rfl) (by simp [row_size]) (row_cells _ _ _ rfl) _ (row_over _ _ 8 _ _ (by simp)) ?_))
  refine (samePS hP.lt _).mono ?_
  rintro e w3 ⟨rfl, hb⟩
  have hg5' : w3.heap[g5]? = some (.cells (plate a b F) 29 (0, 0)) := (by first | (with_reducible assumption) | (with_reducible exact blk_new _ _ _ rfl) | (with_reducible exact chainN _ _ _ _) | (with_reducible exact chain1 (by assumption)) | (with_reducible exact old0 (by assumption) (by assumption)) | (with_reducible exact old1 (by assumption) (by assumption)) | (with_reducible exact new1 (by assumption)))
  have hg6' : w3.heap[g6]? = some (.cells (plate a b F) 29 (0, 0)) := (by first | (with_reducible assumption) | (with_reducible exact blk_new _ _ _ rfl) | (with_reducible exact chainN _ _ _ _) | (with_reducible exact chain1 (by assumption)) | (with_reducible exact old0 (by assumption) (by assumption)) | (with_reducible exact old1 (by assumption) (by assumption)) | (with_reducible exact new1 (by assumption)))
  have hg8' : w3.heap[g8]? = some (.cells (plate a b (mirF a b F)) 29 (0, 0)) := (by first | (with_reducible assumption) | (with_reducible exact blk_new _ _ _ rfl) | (with_reducible exact chainN _ _ _ _) | (with_reducible exact chain1 (by assumption)) | (with_reducible exact old0 (by assumption) (by assumption)) | (with_reducible exact old1 (by assumption) (by assumption)) | (with_reducible exact new1 (by assumption)))
  have hg10' : w3.heap[g10]? = some (.cells (plate a b (mirF a b F)) 29 (0, 0)) := (by first | (with_reducible assumption) | (with_reducible exact blk_new _ _ _ rfl) | (with_reducible exact chainN _ _ _ _) | (with_reducible exact chain1 (by assumption)) | (with_reducible exact old0 (by assumption) (by assumption)) | (with_reducible exact old1 (by assumption) (by assumption)) | (with_reducible exact new1 (by assumption)))
  have hg12' : w3.heap[g12]? = some (.cells (plate a b F) 29 (0, 0)) := (by first | (with_reducible assumption) | (with_reducible exact blk_new _ _ _ rfl) | (with_reducible exact chainN _ _ _ _) | (with_reducible exact chain1 (by assumption)) | (with_reducible exact old0 (by assumption) (by assumption)) | (with_reducible exact old1 (by assumption) (by assumption)) | (with_reducible exact new1 (by assumption)))
  have hg14' : w3.heap[g14]? = some (.cells (row [] 8 (zonesF a b F)) 36 (0, 0)) := (by first | (with_reducible assumption) | (with_reducible exact blk_new _ _ _ rfl) | (with_reducible exact chainN _ _ _ _) | (with_reducible exact chain1 (by assumption)) | (with_reducible exact old0 (by assumption) (by assumption)) | (with_reducible exact old1 (by assumption) (by assumption)) | (with_reducible exact new1 (by assumption)))
  have hg16' : w3.heap[g16]? = some (.cells (row [] 8 (zonesF a b F)) 36 (0, 0)) := (by first | (with_reducible assumption) | (with_reducible exact blk_new _ _ _ rfl) | (with_reducible exact chainN _ _ _ _) | (with_reducible exact chain1 (by assumption)) | (with_reducible exact old0 (by assumption) (by assumption)) | (with_reducible exact old1 (by assumption) (by assumption)) | (with_reducible exact new1 (by assumption)))
  have hg18' : w3.heap[g18]? = some (.cells (row [] 8 (zonesF a b (mirF a b F))) 36 (0, 0)) := (by first | (with_reducible assumption) | (with_reducible exact blk_new _ _ _ rfl) | (with_reducible exact chainN _ _ _ _) | (with_reducible exact chain1 (by assumption)) | (with_reducible exact old0 (by assumption) (by assumption)) | (with_reducible exact old1 (by assumption) (by assumption)) | (with_reducible exact new1 (by assumption)))
  have hB' : Below w.heap.size w w3 := (by first | (with_reducible assumption) | (with_reducible exact bel0 (by assumption) (by assumption) hB.size) | (with_reducible exact bel1 (by assumption) (by assumption) hB.size) | (with_reducible exact belr hB hB.size))
  have hz3 := hb.size
  try simp at hz3
  clear hB hb  hg5 hg6 hg8 hg10 hg12 hg14 hg16 hg18 
  generalize hgz2 : w2.heap.size = z2 at *
  clear hgz2
  have hB := hB'; clear hB'
  have hg5 := hg5'; clear hg5'
  have hg6 := hg6'; clear hg6'
  have hg8 := hg8'; clear hg8'
  have hg10 := hg10'; clear hg10'
  have hg12 := hg12'; clear hg12'
  have hg14 := hg14'; clear hg14'
  have hg16 := hg16'; clear hg16'
  have hg18 := hg18'; clear hg18'
  clear hg6
  go_wp2_with (first | ((with_reducible refine at_load 29 ?_); refine wpList_load_part rfl 29 _ rfl _ 0 66 rfl _ _ _ _ (by first | (with_reducible assumption) | (with_reducible exact blk_new _ _ _ rfl) | (with_reducible exact chainN _ _ _ _) | (with_reducible exact chain1 (by assumption)) | (with_reducible exact old0 (by assumption) (by assumption)) | (with_reducible exact old1 (by assumption) (by assumption)) | (with_reducible exact new1 (by assumption))) Tryz.underlying29 rfl (by kernel_rfl) (by simp [row_size]) _ (row_all [_, _] 64 _) ?_) | ((with_reducible refine at_load 29 ?_); refine wpList_load_partg (by first | rfl | (simp only [hff]; rfl) | (go_simp; done)) 29 _ rfl _ 0 66 rfl _ _ _ _ (by first | (with_reducible assumption) | (with_reducible exact blk_new _ _ _ rfl) | (with_reducible exact chainN _ _ _ _) | (with_reducible exact chain1 (by assumption)) | (with_reducible exact old0 (by assumption) (by assumption)) | (with_reducible exact old1 (by assumption) (by assumption)) | (with_reducible exact new1 (by assumption))) Tryz.underlying29 rfl (by kernel_rfl) (by simp [row_size]) _ (row_all [_, _] 64 _) ?_) | ((with_reducible refine at_store 29 ?_); refine wpList_store_part rfl 29 _ _ rfl _ 0 _ rfl rfl _ _ (by first | (with_reducible assumption) | (with_reducible exact blk_new _ _ _ rfl) | (with_reducible exact chainN _ _ _ _) | (with_reducible exact chain1 (by assumption)) | (with_reducible exact old0 (by assumption) (by assumption)) | (with_reducible exact old1 (by assumption) (by assumption)) | (with_reducible exact new1 (by assumption))) (by rw [row_size]; kernel_rfl) (by simp [row_size]) (row_cells _ _ _ rfl) _ (row_over _ _ 64 _ _ (by simp)) ?_) | ((with_reducible refine at_load 36 ?_); refine wpList_load_part rfl 36 _ rfl _ 0 8 rfl _ _ _ _ (by first | (with_reducible assumption) | (with_reducible exact blk_new _ _ _ rfl) | (with_reducible exact chainN _ _ _ _) | (with_reducible exact chain1 (by assumption)) | (with_reducible exact old0 (by assumption) (by assumption)) | (with_reducible exact old1 (by assumption) (by assumption)) | (with_reducible exact new1 (by assumption))) Tryz.underlying36 rfl (by kernel_rfl) (by simp [row_size]) _ (row_all [] 8 _) ?_) | ((with_reducible refine at_load 36 ?_); refine wpList_load_partg (by first | rfl | (simp only [hff]; rfl) | (go_simp; done)) 36 _ rfl _ 0 8 rfl _ _ _ _ (by first | (with_reducible assumption) | (with_reducible exact blk_new _ _ _ rfl) | (with_reducible exact chainN _ _ _ _) | (with_reducible exact chain1 (by assumption)) | (with_reducible exact old0 (by assumption) (by assumption)) | (with_reducible exact old1 (by assumption) (by assumption)) | (with_reducible exact new1 (by assumption))) Tryz.underlying36 rfl (by kernel_rfl) (by simp [row_size]) _ (row_all [] 8 _) ?_) | ((with_reducible refine at_store 36 ?_); refine wpList_store_part rfl 36 _ _ rfl _ 0 _ rfl rfl _ _ (by first | (with_reducible assumption) | (with_reducible exact blk_new _ _ _ rfl) | (with_reducible exact chainN _ _ _ _) | (with_reducible exact chain1 (by assumption)) | (with_reducible exact old0 (by assumption) (by assumption)) | (with_reducible exact old1 (by assumption) (by assumption)) | (with_reducible exact new1 (by assumption))) (by rw [row_size]; kernel_rfl) (by simp [row_size]) (row_cells _ _ _ rfl) _ (row_over _ _ 8 _ _ (by simp)) ?_))
  refine (validP hP _).mono ?_
  rintro e w4 ⟨rfl, hb⟩
  have hg5' : w4.heap[g5]? = some (.cells (plate a b F) 29 (0, 0)) := (by first | (with_reducible assumption) | (with_reducible exact blk_new _ _ _ rfl) | (with_reducible exact chainN _ _ _ _) | (with_reducible exact chain1 (by assumption)) | (with_reducible exact old0 (by assumption) (by assumption)) | (with_reducible exact old1 (by assumption) (by assumption)) | (with_reducible exact new1 (by assumption)))
  have hg8' : w4.heap[g8]? = some (.cells (plate a b (mirF a b F)) 29 (0, 0)) := (by first | (with_reducible assumption) | (with_reducible exact blk_new _ _ _ rfl) | (with_reducible exact chainN _ _ _ _) | (with_reducible exact chain1 (by assumption)) | (with_reducible exact old0 (by assumption) (by assumption)) | (with_reducible exact old1 (by assumption) (by assumption)) | (with_reducible exact new1 (by assumption)))
  have hg10' : w4.heap[g10]? = some (.cells (plate a b (mirF a b F)) 29 (0, 0)) := (by first | (with_reducible assumption) | (with_reducible exact blk_new _ _ _ rfl) | (with_reducible exact chainN _ _ _ _) | (with_reducible exact chain1 (by assumption)) | (with_reducible exact old0 (by assumption) (by assumption)) | (with_reducible exact old1 (by assumption) (by assumption)) | (with_reducible exact new1 (by assumption)))
  have hg12' : w4.heap[g12]? = some (.cells (plate a b F) 29 (0, 0)) := (by first | (with_reducible assumption) | (with_reducible exact blk_new _ _ _ rfl) | (with_reducible exact chainN _ _ _ _) | (with_reducible exact chain1 (by assumption)) | (with_reducible exact old0 (by assumption) (by assumption)) | (with_reducible exact old1 (by assumption) (by assumption)) | (with_reducible exact new1 (by assumption)))
  have hg14' : w4.heap[g14]? = some (.cells (row [] 8 (zonesF a b F)) 36 (0, 0)) := (by first | (with_reducible assumption) | (with_reducible exact blk_new _ _ _ rfl) | (with_reducible exact chainN _ _ _ _) | (with_reducible exact chain1 (by assumption)) | (with_reducible exact old0 (by assumption) (by assumption)) | (with_reducible exact old1 (by assumption) (by assumption)) | (with_reducible exact new1 (by assumption)))
  have hg16' : w4.heap[g16]? = some (.cells (row [] 8 (zonesF a b F)) 36 (0, 0)) := (by first | (with_reducible assumption) | (with_reducible exact blk_new _ _ _ rfl) | (with_reducible exact chainN _ _ _ _) | (with_reducible exact chain1 (by assumption)) | (with_reducible exact old0 (by assumption) (by assumption)) | (with_reducible exact old1 (by assumption) (by assumption)) | (with_reducible exact new1 (by assumption)))
  have hg18' : w4.heap[g18]? = some (.cells (row [] 8 (zonesF a b (mirF a b F))) 36 (0, 0)) := (by first | (with_reducible assumption) | (with_reducible exact blk_new _ _ _ rfl) | (with_reducible exact chainN _ _ _ _) | (with_reducible exact chain1 (by assumption)) | (with_reducible exact old0 (by assumption) (by assumption)) | (with_reducible exact old1 (by assumption) (by assumption)) | (with_reducible exact new1 (by assumption)))
  have hB' : Below w.heap.size w w4 := (by first | (with_reducible assumption) | (with_reducible exact bel0 (by assumption) (by assumption) hB.size) | (with_reducible exact bel1 (by assumption) (by assumption) hB.size) | (with_reducible exact belr hB hB.size))
  have hz4 := hb.size
  try simp at hz4
  clear hB hb  hg5 hg8 hg10 hg12 hg14 hg16 hg18 
  generalize hgz3 : w3.heap.size = z3 at *
  clear hgz3
  have hB := hB'; clear hB'
  have hg5 := hg5'; clear hg5'
  have hg8 := hg8'; clear hg8'
  have hg10 := hg10'; clear hg10'
  have hg12 := hg12'; clear hg12'
  have hg14 := hg14'; clear hg14'
  have hg16 := hg16'; clear hg16'
  have hg18 := hg18'; clear hg18'
  go_wp2_with (first | ((with_reducible refine at_load 29 ?_); refine wpList_load_part rfl 29 _ rfl _ 0 66 rfl _ _ _ _ (by first | (with_reducible assumption) | (with_reducible exact blk_new _ _ _ rfl) | (with_reducible exact chainN _ _ _ _) | (with_reducible exact chain1 (by assumption)) | (with_reducible exact old0 (by assumption) (by assumption)) | (with_reducible exact old1 (by assumption) (by assumption)) | (with_reducible exact new1 (by assumption))) Tryz.underlying29 rfl (by kernel_rfl) (by simp [row_size]) _ (row_all [_, _] 64 _) ?_) | ((with_reducible refine at_load 29 ?_); refine wpList_load_partg (by first | rfl | (simp only [hff]; rfl) | (go_simp; done)) 29 _ rfl _ 0 66 rfl _ _ _ _ (by first | (with_reducible assumption) | (with_reducible exact blk_new _ _ _ rfl) | (with_reducible exact chainN _ _ _ _) | (with_reducible exact chain1 (by assumption)) | (with_reducible exact old0 (by assumption) (by assumption)) | (with_reducible exact old1 (by assumption) (by assumption)) | (with_reducible exact new1 (by assumption))) Tryz.underlying29 rfl (by kernel_rfl) (by simp [row_size]) _ (row_all [_, _] 64 _) ?_) | ((with_reducible refine at_store 29 ?_); refine wpList_store_part rfl 29 _ _ rfl _ 0 _ rfl rfl _ _ (by first | (with_reducible assumption) | (with_reducible exact blk_new _ _ _ rfl) | (with_reducible exact chainN _ _ _ _) | (with_reducible exact chain1 (by assumption)) | (with_reducible exact old0 (by assumption) (by assumption)) | (with_reducible exact old1 (by assumption) (by assumption)) | (with_reducible exact new1 (by assumption))) (by rw [row_size]; kernel_rfl) (by simp [row_size]) (row_cells _ _ _ rfl) _ (row_over _ _ 64 _ _ (by simp)) ?_) | ((with_reducible refine at_load 36 ?_); refine wpList_load_part rfl 36 _ rfl _ 0 8 rfl _ _ _ _ (by first | (with_reducible assumption) | (with_reducible exact blk_new _ _ _ rfl) | (with_reducible exact chainN _ _ _ _) | (with_reducible exact chain1 (by assumption)) | (with_reducible exact old0 (by assumption) (by assumption)) | (with_reducible exact old1 (by assumption) (by assumption)) | (with_reducible exact new1 (by assumption))) Tryz.underlying36 rfl (by kernel_rfl) (by simp [row_size]) _ (row_all [] 8 _) ?_) | ((with_reducible refine at_load 36 ?_); refine wpList_load_partg (by first | rfl | (simp only [hff]; rfl) | (go_simp; done)) 36 _ rfl _ 0 8 rfl _ _ _ _ (by first | (with_reducible assumption) | (with_reducible exact blk_new _ _ _ rfl) | (with_reducible exact chainN _ _ _ _) | (with_reducible exact chain1 (by assumption)) | (with_reducible exact old0 (by assumption) (by assumption)) | (with_reducible exact old1 (by assumption) (by assumption)) | (with_reducible exact new1 (by assumption))) Tryz.underlying36 rfl (by kernel_rfl) (by simp [row_size]) _ (row_all [] 8 _) ?_) | ((with_reducible refine at_store 36 ?_); refine wpList_store_part rfl 36 _ _ rfl _ 0 _ rfl rfl _ _ (by first | (with_reducible assumption) | (with_reducible exact blk_new _ _ _ rfl) | (with_reducible exact chainN _ _ _ _) | (with_reducible exact chain1 (by assumption)) | (with_reducible exact old0 (by assumption) (by assumption)) | (with_reducible exact old1 (by assumption) (by assumption)) | (with_reducible exact new1 (by assumption))) (by rw [row_size]; kernel_rfl) (by simp [row_size]) (row_cells _ _ _ rfl) _ (row_over _ _ 8 _ _ (by simp)) ?_))
  refine (samePS hP.mir.lt _).mono ?_
  rintro e w5 ⟨rfl, hb⟩
  have hg5' : w5.heap[g5]? = some (.cells (plate a b F) 29 (0, 0)) := (by first | (with_reducible assumption) | (with_reducible exact blk_new _ _ _ rfl) | (with_reducible exact chainN _ _ _ _) | (with_reducible exact chain1 (by assumption)) | (with_reducible exact old0 (by assumption) (by assumption)) | (with_reducible exact old1 (by assumption) (by assumption)) | (with_reducible exact new1 (by assumption)))
  have hg8' : w5.heap[g8]? = some (.cells (plate a b (mirF a b F)) 29 (0, 0)) := (by first | (with_reducible assumption) | (with_reducible exact blk_new _ _ _ rfl) | (with_reducible exact chainN _ _ _ _) | (with_reducible exact chain1 (by assumption)) | (with_reducible exact old0 (by assumption) (by assumption)) | (with_reducible exact old1 (by assumption) (by assumption)) | (with_reducible exact new1 (by assumption)))
  have hg10' : w5.heap[g10]? = some (.cells (plate a b (mirF a b F)) 29 (0, 0)) := (by first | (with_reducible assumption) | (with_reducible exact blk_new _ _ _ rfl) | (with_reducible exact chainN _ _ _ _) | (with_reducible exact chain1 (by assumption)) | (with_reducible exact old0 (by assumption) (by assumption)) | (with_reducible exact old1 (by assumption) (by assumption)) | (with_reducible exact new1 (by assumption)))
  have hg12' : w5.heap[g12]? = some (.cells (plate a b F) 29 (0, 0)) := (by first | (with_reducible assumption) | (with_reducible exact blk_new _ _ _ rfl) | (with_reducible exact chainN _ _ _ _) | (with_reducible exact chain1 (by assumption)) | (with_reducible exact old0 (by assumption) (by assumption)) | (with_reducible exact old1 (by assumption) (by assumption)) | (with_reducible exact new1 (by assumption)))
  have hg14' : w5.heap[g14]? = some (.cells (row [] 8 (zonesF a b F)) 36 (0, 0)) := (by first | (with_reducible assumption) | (with_reducible exact blk_new _ _ _ rfl) | (with_reducible exact chainN _ _ _ _) | (with_reducible exact chain1 (by assumption)) | (with_reducible exact old0 (by assumption) (by assumption)) | (with_reducible exact old1 (by assumption) (by assumption)) | (with_reducible exact new1 (by assumption)))
  have hg16' : w5.heap[g16]? = some (.cells (row [] 8 (zonesF a b F)) 36 (0, 0)) := (by first | (with_reducible assumption) | (with_reducible exact blk_new _ _ _ rfl) | (with_reducible exact chainN _ _ _ _) | (with_reducible exact chain1 (by assumption)) | (with_reducible exact old0 (by assumption) (by assumption)) | (with_reducible exact old1 (by assumption) (by assumption)) | (with_reducible exact new1 (by assumption)))
  have hg18' : w5.heap[g18]? = some (.cells (row [] 8 (zonesF a b (mirF a b F))) 36 (0, 0)) := (by first | (with_reducible assumption) | (with_reducible exact blk_new _ _ _ rfl) | (with_reducible exact chainN _ _ _ _) | (with_reducible exact chain1 (by assumption)) | (with_reducible exact old0 (by assumption) (by assumption)) | (with_reducible exact old1 (by assumption) (by assumption)) | (with_reducible exact new1 (by assumption)))
  have hB' : Below w.heap.size w w5 := (by first | (with_reducible assumption) | (with_reducible exact bel0 (by assumption) (by assumption) hB.size) | (with_reducible exact bel1 (by assumption) (by assumption) hB.size) | (with_reducible exact belr hB hB.size))
  have hz5 := hb.size
  try simp at hz5
  clear hB hb  hg5 hg8 hg10 hg12 hg14 hg16 hg18 
  generalize hgz4 : w4.heap.size = z4 at *
  clear hgz4
  have hB := hB'; clear hB'
  have hg5 := hg5'; clear hg5'
  have hg8 := hg8'; clear hg8'
  have hg10 := hg10'; clear hg10'
  have hg12 := hg12'; clear hg12'
  have hg14 := hg14'; clear hg14'
  have hg16 := hg16'; clear hg16'
  have hg18 := hg18'; clear hg18'
  clear hg8 hg10
  go_wp2_with (first | ((with_reducible refine at_load 29 ?_); refine wpList_load_part rfl 29 _ rfl _ 0 66 rfl _ _ _ _ (by first | (with_reducible assumption) | (with_reducible exact blk_new _ _ _ rfl) | (with_reducible exact chainN _ _ _ _) | (with_reducible exact chain1 (by assumption)) | (with_reducible exact old0 (by assumption) (by assumption)) | (with_reducible exact old1 (by assumption) (by assumption)) | (with_reducible exact new1 (by assumption))) Tryz.underlying29 rfl (by kernel_rfl) (by simp [row_size]) _ (row_all [_, _] 64 _) ?_) | ((with_reducible refine at_load 29 ?_); refine wpList_load_partg (by first | rfl | (simp only [hff]; rfl) | (go_simp; done)) 29 _ rfl _ 0 66 rfl _ _ _ _ (by first | (with_reducible assumption) | (with_reducible exact blk_new _ _ _ rfl) | (with_reducible exact chainN _ _ _ _) | (with_reducible exact chain1 (by assumption)) | (with_reducible exact old0 (by assumption) (by assumption)) | (with_reducible exact old1 (by assumption) (by assumption)) | (with_reducible exact new1 (by assumption))) Tryz.underlying29 rfl (by kernel_rfl) (by simp [row_size]) _ (row_all [_, _] 64 _) ?_) | ((with_reducible refine at_store 29 ?_); refine wpList_store_part rfl 29 _ _ rfl _ 0 _ rfl rfl _ _ (by first | (with_reducible assumption) | (with_reducible exact blk_new _ _ _ rfl) | (with_reducible exact chainN _ _ _ _) | (with_reducible exact chain1 (by assumption)) | (with_reducible exact old0 (by assumption) (by assumption)) | (with_reducible exact old1 (by assumption) (by assumption)) | (with_reducible exact new1 (by assumption))) (by rw [row_size]; kernel_rfl) (by simp [row_size]) (row_cells _ _ _ rfl) _ (row_over _ _ 64 _ _ (by simp)) ?_) | ((with_reducible refine at_load 36 ?_); refine wpList_load_part rfl 36 _ rfl _ 0 8 rfl _ _ _ _ (by first | (with_reducible assumption) | (with_reducible exact blk_new _ _ _ rfl) | (with_reducible exact chainN _ _ _ _) | (with_reducible exact chain1 (by assumption)) | (with_reducible exact old0 (by assumption) (by assumption)) | (with_reducible exact old1 (by assumption) (by assumption)) | (with_reducible exact new1 (by assumption))) Tryz.underlying36 rfl (by kernel_rfl) (by simp [row_size]) _ (row_all [] 8 _) ?_) | ((with_reducible refine at_load 36 ?_); refine wpList_load_partg (by first | rfl | (simp only [hff]; rfl) | (go_simp; done)) 36 _ rfl _ 0 8 rfl _ _ _ _ (by first | (with_reducible assumption) | (with_reducible exact blk_new _ _ _ rfl) | (with_reducible exact chainN _ _ _ _) | (with_reducible exact chain1 (by assumption)) | (with_reducible exact old0 (by assumption) (by assumption)) | (with_reducible exact old1 (by assumption) (by assumption)) | (with_reducible exact new1 (by assumption))) Tryz.underlying36 rfl (by kernel_rfl) (by simp [row_size]) _ (row_all [] 8 _) ?_) | ((with_reducible refine at_store 36 ?_); refine wpList_store_part rfl 36 _ _ rfl _ 0 _ rfl rfl _ _ (by first | (with_reducible assumption) | (with_reducible exact blk_new _ _ _ rfl) | (with_reducible exact chainN _ _ _ _) | (with_reducible exact chain1 (by assumption)) | (with_reducible exact old0 (by assumption) (by assumption)) | (with_reducible exact old1 (by assumption) (by assumption)) | (with_reducible exact new1 (by assumption))) (by rw [row_size]; kernel_rfl) (by simp [row_size]) (row_cells _ _ _ rfl) _ (row_over _ _ 8 _ _ (by simp)) ?_))
  refine (samePS hP.lt _).mono ?_
  rintro e w6 ⟨rfl, hb⟩
  have hg5' : w6.heap[g5]? = some (.cells (plate a b F) 29 (0, 0)) := (by first | (with_reducible assumption) | (with_reducible exact blk_new _ _ _ rfl) | (with_reducible exact chainN _ _ _ _) | (with_reducible exact chain1 (by assumption)) | (with_reducible exact old0 (by assumption) (by assumption)) | (with_reducible exact old1 (by assumption) (by assumption)) | (with_reducible exact new1 (by assumption)))
  have hg12' : w6.heap[g12]? = some (.cells (plate a b F) 29 (0, 0)) := (by first | (with_reducible assumption) | (with_reducible exact blk_new _ _ _ rfl) | (with_reducible exact chainN _ _ _ _) | (with_reducible exact chain1 (by assumption)) | (with_reducible exact old0 (by assumption) (by assumption)) | (with_reducible exact old1 (by assumption) (by assumption)) | (with_reducible exact new1 (by assumption)))
  have hg14' : w6.heap[g14]? = some (.cells (row [] 8 (zonesF a b F)) 36 (0, 0)) := (by first | (with_reducible assumption) | (with_reducible exact blk_new _ _ _ rfl) | (with_reducible exact chainN _ _ _ _) | (with_reducible exact chain1 (by assumption)) | (with_reducible exact old0 (by assumption) (by assumption)) | (with_reducible exact old1 (by assumption) (by assumption)) | (with_reducible exact new1 (by assumption)))
  have hg16' : w6.heap[g16]? = some (.cells (row [] 8 (zonesF a b F)) 36 (0, 0)) := (by first | (with_reducible assumption) | (with_reducible exact blk_new _ _ _ rfl) | (with_reducible exact chainN _ _ _ _) | (with_reducible exact chain1 (by assumption)) | (with_reducible exact old0 (by assumption) (by assumption)) | (with_reducible exact old1 (by assumption) (by assumption)) | (with_reducible exact new1 (by assumption)))
  have hg18' : w6.heap[g18]? = some (.cells (row [] 8 (zonesF a b (mirF a b F))) 36 (0, 0)) := (by first | (with_reducible assumption) | (with_reducible exact blk_new _ _ _ rfl) | (with_reducible exact chainN _ _ _ _) | (with_reducible exact chain1 (by assumption)) | (with_reducible exact old0 (by assumption) (by assumption)) | (with_reducible exact old1 (by assumption) (by assumption)) | (with_reducible exact new1 (by assumption)))
  have hB' : Below w.heap.size w w6 := (by first | (with_reducible assumption) | (with_reducible exact bel0 (by assumption) (by assumption) hB.size) | (with_reducible exact bel1 (by assumption) (by assumption) hB.size) | (with_reducible exact belr hB hB.size))
  have hz6 := hb.size
  try simp at hz6
  clear hB hb  hg5 hg12 hg14 hg16 hg18 
  generalize hgz5 : w5.heap.size = z5 at *
  clear hgz5
  have hB := hB'; clear hB'
  have hg5 := hg5'; clear hg5'
  have hg12 := hg12'; clear hg12'
  have hg14 := hg14'; clear hg14'
  have hg16 := hg16'; clear hg16'
  have hg18 := hg18'; clear hg18'
  clear hg12
  go_wp2_with (first | ((with_reducible refine at_load 29 ?_); refine wpList_load_part rfl 29 _ rfl _ 0 66 rfl _ _ _ _ (by first | (with_reducible assumption) | (with_reducible exact blk_new _ _ _ rfl) | (with_reducible exact chainN _ _ _ _) | (with_reducible exact chain1 (by assumption)) | (with_reducible exact old0 (by assumption) (by assumption)) | (with_reducible exact old1 (by assumption) (by assumption)) | (with_reducible exact new1 (by assumption))) Tryz.underlying29 rfl (by kernel_rfl) (by simp [row_size]) _ (row_all [_, _] 64 _) ?_) | ((with_reducible refine at_load 29 ?_); refine wpList_load_partg (by first | rfl | (simp only [hff]; rfl) | (go_simp; done)) 29 _ rfl _ 0 66 rfl _ _ _ _ (by first | (with_reducible assumption) | (with_reducible exact blk_new _ _ _ rfl) | (with_reducible exact chainN _ _ _ _) | (with_reducible exact chain1 (by assumption)) | (with_reducible exact old0 (by assumption) (by assumption)) | (with_reducible exact old1 (by assumption) (by assumption)) | (with_reducible exact new1 (by assumption))) Tryz.underlying29 rfl (by kernel_rfl) (by simp [row_size]) _ (row_all [_, _] 64 _) ?_) | ((with_reducible refine at_store 29 ?_); refine wpList_store_part rfl 29 _ _ rfl _ 0 _ rfl rfl _ _ (by first | (with_reducible assumption) | (with_reducible exact blk_new _ _ _ rfl) | (with_reducible exact chainN _ _ _ _) | (with_reducible exact chain1 (by assumption)) | (with_reducible exact old0 (by assumption) (by assumption)) | (with_reducible exact old1 (by assumption) (by assumption)) | (with_reducible exact new1 (by assumption))) (by rw [row_size]; kernel_rfl) (by simp [row_size]) (row_cells _ _ _ rfl) _ (row_over _ _ 64 _ _ (by simp)) ?_) | ((with_reducible refine at_load 36 ?_); refine wpList_load_part rfl 36 _ rfl _ 0 8 rfl _ _ _ _ (by first | (with_reducible assumption) | (with_reducible exact blk_new _ _ _ rfl) | (with_reducible exact chainN _ _ _ _) | (with_reducible exact chain1 (by assumption)) | (with_reducible exact old0 (by assumption) (by assumption)) | (with_reducible exact old1 (by assumption) (by assumption)) | (with_reducible exact new1 (by assumption))) Tryz.underlying36 rfl (by kernel_rfl) (by simp [row_size]) _ (row_all [] 8 _) ?_) | ((with_reducible refine at_load 36 ?_); refine wpList_load_partg (by first | rfl | (simp only [hff]; rfl) | (go_simp; done)) 36 _ rfl _ 0 8 rfl _ _ _ _ (by first | (with_reducible assumption) | (with_reducible exact blk_new _ _ _ rfl) | (with_reducible exact chainN _ _ _ _) | (with_reducible exact chain1 (by assumption)) | (with_reducible exact old0 (by assumption) (by assumption)) | (with_reducible exact old1 (by assumption) (by assumption)) | (with_reducible exact new1 (by assumption))) Tryz.underlying36 rfl (by kernel_rfl) (by simp [row_size]) _ (row_all [] 8 _) ?_) | ((with_reducible refine at_store 36 ?_); refine wpList_store_part rfl 36 _ _ rfl _ 0 _ rfl rfl _ _ (by first | (with_reducible assumption) | (with_reducible exact blk_new _ _ _ rfl) | (with_reducible exact chainN _ _ _ _) | (with_reducible exact chain1 (by assumption)) | (with_reducible exact old0 (by assumption) (by assumption)) | (with_reducible exact old1 (by assumption) (by assumption)) | (with_reducible exact new1 (by assumption))) (by rw [row_size]; kernel_rfl) (by simp [row_size]) (row_cells _ _ _ rfl) _ (row_over _ _ 8 _ _ (by simp)) ?_))
  refine (sameZ _ _).mono ?_
  rintro e w7 ⟨rfl, hb⟩
  have hg5' : w7.heap[g5]? = some (.cells (plate a b F) 29 (0, 0)) := (by first | (with_reducible assumption) | (with_reducible exact blk_new _ _ _ rfl) | (with_reducible exact chainN _ _ _ _) | (with_reducible exact chain1 (by assumption)) | (with_reducible exact old0 (by assumption) (by assumption)) | (with_reducible exact old1 (by assumption) (by assumption)) | (with_reducible exact new1 (by assumption)))
  have hg14' : w7.heap[g14]? = some (.cells (row [] 8 (zonesF a b F)) 36 (0, 0)) := (by first | (with_reducible assumption) | (with_reducible exact blk_new _ _ _ rfl) | (with_reducible exact chainN _ _ _ _) | (with_reducible exact chain1 (by assumption)) | (with_reducible exact old0 (by assumption) (by assumption)) | (with_reducible exact old1 (by assumption) (by assumption)) | (with_reducible exact new1 (by assumption)))
  have hg16' : w7.heap[g16]? = some (.cells (row [] 8 (zonesF a b F)) 36 (0, 0)) := (by first | (with_reducible assumption) | (with_reducible exact blk_new _ _ _ rfl) | (with_reducible exact chainN _ _ _ _) | (with_reducible exact chain1 (by assumption)) | (with_reducible exact old0 (by assumption) (by assumption)) | (with_reducible exact old1 (by assumption) (by assumption)) | (with_reducible exact new1 (by assumption)))
  have hg18' : w7.heap[g18]? = some (.cells (row [] 8 (zonesF a b (mirF a b F))) 36 (0, 0)) := (by first | (with_reducible assumption) | (with_reducible exact blk_new _ _ _ rfl) | (with_reducible exact chainN _ _ _ _) | (with_reducible exact chain1 (by assumption)) | (with_reducible exact old0 (by assumption) (by assumption)) | (with_reducible exact old1 (by assumption) (by assumption)) | (with_reducible exact new1 (by assumption)))
  have hB' : Below w.heap.size w w7 := (by first | (with_reducible assumption) | (with_reducible exact bel0 (by assumption) (by assumption) hB.size) | (with_reducible exact bel1 (by assumption) (by assumption) hB.size) | (with_reducible exact belr hB hB.size))
  have hz7 := hb.size
  try simp at hz7
  clear hB hb  hg5 hg14 hg16 hg18 
  generalize hgz6 : w6.heap.size = z6 at *
  clear hgz6
  have hB := hB'; clear hB'
  have hg5 := hg5'; clear hg5'
  have hg14 := hg14'; clear hg14'
  have hg16 := hg16'; clear hg16'
  have hg18 := hg18'; clear hg18'
  clear hg14
  go_wp2_with (first | ((with_reducible refine at_load 29 ?_); refine wpList_load_part rfl 29 _ rfl _ 0 66 rfl _ _ _ _ (by first | (with_reducible assumption) | (with_reducible exact blk_new _ _ _ rfl) | (with_reducible exact chainN _ _ _ _) | (with_reducible exact chain1 (by assumption)) | (with_reducible exact old0 (by assumption) (by assumption)) | (with_reducible exact old1 (by assumption) (by assumption)) | (with_reducible exact new1 (by assumption))) Tryz.underlying29 rfl (by kernel_rfl) (by simp [row_size]) _ (row_all [_, _] 64 _) ?_) | ((with_reducible refine at_load 29 ?_); refine wpList_load_partg (by first | rfl | (simp only [hff]; rfl) | (go_simp; done)) 29 _ rfl _ 0 66 rfl _ _ _ _ (by first | (with_reducible assumption) | (with_reducible exact blk_new _ _ _ rfl) | (with_reducible exact chainN _ _ _ _) | (with_reducible exact chain1 (by assumption)) | (with_reducible exact old0 (by assumption) (by assumption)) | (with_reducible exact old1 (by assumption) (by assumption)) | (with_reducible exact new1 (by assumption))) Tryz.underlying29 rfl (by kernel_rfl) (by simp [row_size]) _ (row_all [_, _] 64 _) ?_) | ((with_reducible refine at_store 29 ?_); refine wpList_store_part rfl 29 _ _ rfl _ 0 _ rfl rfl _ _ (by first | (with_reducible assumption) | (with_reducible exact blk_new _ _ _ rfl) | (with_reducible exact chainN _ _ _ _) | (with_reducible exact chain1 (by assumption)) | (with_reducible exact old0 (by assumption) (by assumption)) | (with_reducible exact old1 (by assumption) (by assumption)) | (with_reducible exact new1 (by assumption))) (by rw [row_size]; kernel_rfl) (by simp [row_size]) (row_cells _ _ _ rfl) _ (row_over _ _ 64 _ _ (by simp)) ?_) | ((with_reducible refine at_load 36 ?_); refine wpList_load_part rfl 36 _ rfl _ 0 8 rfl _ _ _ _ (by first | (with_reducible assumption) | (with_reducible exact blk_new _ _ _ rfl) | (with_reducible exact chainN _ _ _ _) | (with_reducible exact chain1 (by assumption)) | (with_reducible exact old0 (by assumption) (by assumption)) | (with_reducible exact old1 (by assumption) (by assumption)) | (with_reducible exact new1 (by assumption))) Tryz.underlying36 rfl (by kernel_rfl) (by simp [row_size]) _ (row_all [] 8 _) ?_) | ((with_reducible refine at_load 36 ?_); refine wpList_load_partg (by first | rfl | (simp only [hff]; rfl) | (go_simp; done)) 36 _ rfl _ 0 8 rfl _ _ _ _ (by first | (with_reducible assumption) | (with_reducible exact blk_new _ _ _ rfl) | (with_reducible exact chainN _ _ _ _) | (with_reducible exact chain1 (by assumption)) | (with_reducible exact old0 (by assumption) (by assumption)) | (with_reducible exact old1 (by assumption) (by assumption)) | (with_reducible exact new1 (by assumption))) Tryz.underlying36 rfl (by kernel_rfl) (by simp [row_size]) _ (row_all [] 8 _) ?_) | ((with_reducible refine at_store 36 ?_); refine wpList_store_part rfl 36 _ _ rfl _ 0 _ rfl rfl _ _ (by first | (with_reducible assumption) | (with_reducible exact blk_new _ _ _ rfl) | (with_reducible exact chainN _ _ _ _) | (with_reducible exact chain1 (by assumption)) | (with_reducible exact old0 (by assumption) (by assumption)) | (with_reducible exact old1 (by assumption) (by assumption)) | (with_reducible exact new1 (by assumption))) (by rw [row_size]; kernel_rfl) (by simp [row_size]) (row_cells _ _ _ rfl) _ (row_over _ _ 8 _ _ (by simp)) ?_))
  refine (sameNum_b _ _).mono ?_
  rintro e w8 ⟨rfl, hb⟩
  have hg5' : w8.heap[g5]? = some (.cells (plate a b F) 29 (0, 0)) := (by first | (with_reducible assumption) | (with_reducible exact blk_new _ _ _ rfl) | (with_reducible exact chainN _ _ _ _) | (with_reducible exact chain1 (by assumption)) | (with_reducible exact old0 (by assumption) (by assumption)) | (with_reducible exact old1 (by assumption) (by assumption)) | (with_reducible exact new1 (by assumption)))
  have hg16' : w8.heap[g16]? = some (.cells (row [] 8 (zonesF a b F)) 36 (0, 0)) := (by first | (with_reducible assumption) | (with_reducible exact blk_new _ _ _ rfl) | (with_reducible exact chainN _ _ _ _) | (with_reducible exact chain1 (by assumption)) | (with_reducible exact old0 (by assumption) (by assumption)) | (with_reducible exact old1 (by assumption) (by assumption)) | (with_reducible exact new1 (by assumption)))
  have hg18' : w8.heap[g18]? = some (.cells (row [] 8 (zonesF a b (mirF a b F))) 36 (0, 0)) := (by first | (with_reducible assumption) | (with_reducible exact blk_new _ _ _ rfl) | (with_reducible exact chainN _ _ _ _) | (with_reducible exact chain1 (by assumption)) | (with_reducible exact old0 (by assumption) (by assumption)) | (with_reducible exact old1 (by assumption) (by assumption)) | (with_reducible exact new1 (by assumption)))
  have hB' : Below w.heap.size w w8 := (by first | (with_reducible assumption) | (with_reducible exact bel0 (by assumption) (by assumption) hB.size) | (with_reducible exact bel1 (by assumption) (by assumption) hB.size) | (with_reducible exact belr hB hB.size))
  have hz8 := hb.size
  try simp at hz8
  clear hB hb  hg5 hg16 hg18 
  generalize hgz7 : w7.heap.size = z7 at *
  clear hgz7
  have hB := hB'; clear hB'
  have hg5 := hg5'; clear hg5'
  have hg16 := hg16'; clear hg16'
  have hg18 := hg18'; clear hg18'
  go_wp2_with (fail)
  refine Met.intro ?_
  (repeat apply Exists.intro)
  refine ⟨⟨?_, hg5, hg16, hg18, hB, by omega⟩, rfl⟩
  first | rfl | (simp; done)
end Go.Proofs.YtekfmjddlemboaaGreatDoor

/-! The zones of a plate and of its mirror; under its own premises. -/
set_option linter.unusedVariables false
set_option linter.unusedSimpArgs false
namespace Go.Proofs.YtekfmjddlemboaaGreatDoor
open Go.RowKit Ieee

set_option maxRecDepth 100000 in
set_option maxHeartbeats 6400000 in
theorem plates_mirror {a b g5 g16 g18 : Nat} {F : Nat → Nat} (hP : DrawnP a b F) {w w1 : World} (hB : Below w.heap.size w w1) (hg5 : w1.heap[g5]? = some (.cells (plate a b F) 29 (0, 0))) (hg16 : w1.heap[g16]? = some (.cells (row [] 8 (zonesF a b F)) 36 (0, 0))) (hg18 : w1.heap[g18]? = some (.cells (row [] 8 (zonesF a b (mirF a b F))) 36 (0, 0)))
    {Q : Exit → Act → World → Prop} {K : Act → World → Prop} {x0 x1 x2 x3 x4 x6 x7 x8 x9 x10 x11 x12 x13 x14 x15 x17 x19 x20 x21 x22 x23 x25 x26 x27 x28 x29 x30 x31 x32 x33 x34 x35 x36 x37 x38 x39 x40 x41 x42 x43 x44 x45 x46 x47 x48 x49 x50 x51 x52 x53 x54 x55 x56 x57 x58 x59 x60 x61 x62 x63 x64 x65 x66 x67 x68 x69 x70 x71 x72 x73 x74 x75 x76 x77 x78 x79 x80 x81 x82 x83 x84 x85 x86 x87 x88 x89 x90 x91 x92 x93 x94 x95 x96 x97 x98 x99 x100 x101 x102 x103 x104 x105 x106 x107 x108 x109 x110 x111 x112 x113 x114 x115 x116 x117 x118 x119 x120 x121 x122 x123 x124 x125 x126 x127 x128 x129 x130 x131 x132 x133 x134 x135 x136 x137 x138 x139 x140 x141 x142 x143 x144 x145 x146 x147 x148 x149 x150 x151 x152 x153 x154 x155 x156 x157 x158 x159 x160 x161 x162 x163 x164 x165 x166 x167 x168 x169 x170 x171 x172 x173 x174 x175 x176 x177 x178 x179 x180 x181 x182 x183 x184 x185 x186 x187 x188 x189 x190 x191 x192 x193 x194 x195 x196 x197 x198 x199 x200 x201 x202 x203 x204 x205 x206 x207 x208 x209 x210 x211 x212 x213 x214 x215 x216 x217 x218 x219 x220 x221 x222 x223 x224 x225 x226 x227 x228 x229 x230 x231 x232 x233 x234 x235 x236 x237 x238 x239 x240 x241 x242 x243 x244 x245 x246 x247 x248 x249 x250 x251 x252 x253 x254 x255 x256 x257 x258 x259 x260 x261 x262 x263 x264 x265 x266 x267 x268 x269 x270 x271 x272 x273 x274 x275 x276 x277 x278 x279 x280 x281 x282 x283 x284 x285 x286 x287 x288 x289 x290 x291 x292 x293 x294 x295 x296 x297 x298 x299 x300 x301 x302 x303 x304 x305 x306 x307 x308 x309 x310 x311 x312 x313 x314 x315 x316 x317 x318 x319 x320 x321 x322 x323 x324 x325 x326 x327 x328 x329 x330 x331 x332 x333 x334 x335 x336 x337 x338 x339 x340 x341 x342 x343 x344 x345 x346 x347 x348 x349 x350 x351 x352 x353 x354 x355 x356 x357 x358 x359 x360 x361 x362 x363 x364 x365 x366 x367 x368 x369 x370 x371 x372 x373 x374 x375 x376 x377 x378 x379 x380 x381 x382 x383 x384 x385 x386 x387 x388 x389 x390 x391 x392 x393 x394 x395 x396 x397 x398 x399 x400 x401 x402 x403 x404 x405 x406 x407 x408 x409 x410 x411 x412 x413 x414 x415 x416 x417 x418 x419 x420 x421 x422 x423 x424 x425 x426 x427 x428 x429 x430 x431 x432 x433 x434 x435 x436 x437 x438 x439 x440 x441 x442 x443 x444 x445 x446 x447 x448 x449 x450 x451 x452 x453 x454 x455 x456 x457 x458 x459 x460 x461 x462 x463 x464 x465 x466 x467 x468 x469 x470 x471 x472 x473 x474 x475 x476 x477 x478 x479 x480 x481 x482 x483 x484 x485 x486 x487 x488 x489 x490 x491 x492 x493 x494 x495 x496 x497 x498 x499 x500 x501 x502 x503 x504 x505 x506 x507 x508 x509 : Value}
    (hK : ∀ a' w', Met (fun a' w' => ∃ u4 u24 u25 u187 u188 u189 u190 u191 u192 u193 u194 u195 u196 u197 u198 u199 u200 u201 u202 u203 u204 u205 u206 u207 u208 u209, (w'.heap[g5]? = some (.cells (plate a b F) 29 (0, 0)) ∧ Below w.heap.size w w' ∧ w1.heap.size ≤ w'.heap.size) ∧ a' = ⟨#[x0, x1, x2, x3, u4, .pointer (some ⟨g5, 0, none⟩), x6, x7, x8, x9, x10, x11, x12, x13, x14, x15, .pointer (some ⟨g16, 0, none⟩), x17, .pointer (some ⟨g18, 0, none⟩), x19, x20, x21, x22, x23, u24, u25, x26, x27, x28, x29, x30, x31, x32, x33, x34, x35, x36, x37, x38, x39, x40, x41, x42, x43, x44, x45, x46, x47, x48, x49, x50, x51, x52, x53, x54, x55, x56, x57, x58, x59, x60, x61, x62, x63, x64, x65, x66, x67, x68, x69, x70, x71, x72, x73, x74, x75, x76, x77, x78, x79, x80, x81, x82, x83, x84, x85, x86, x87, x88, x89, x90, x91, x92, x93, x94, x95, x96, x97, x98, x99, x100, x101, x102, x103, x104, x105, x106, x107, x108, x109, x110, x111, x112, x113, x114, x115, x116, x117, x118, x119, x120, x121, x122, x123, x124, x125, x126, x127, x128, x129, x130, x131, x132, x133, x134, x135, x136, x137, x138, x139, x140, x141, x142, x143, x144, x145, x146, x147, x148, x149, x150, x151, x152, x153, x154, x155, x156, x157, x158, x159, x160, x161, x162, x163, x164, x165, x166, x167, x168, x169, x170, x171, x172, x173, x174, x175, x176, x177, x178, x179, x180, x181, x182, x183, x184, x185, x186, u187, u188, u189, u190, u191, u192, u193, u194, u195, u196, u197, u198, u199, u200, u201, u202, u203, u204, u205, u206, u207, u208, u209, x210, x211, x212, x213, x214, x215, x216, x217, x218, x219, x220, x221, x222, x223, x224, x225, x226, x227, x228, x229, x230, x231, x232, x233, x234, x235, x236, x237, x238, x239, x240, x241, x242, x243, x244, x245, x246, x247, x248, x249, x250, x251, x252, x253, x254, x255, x256, x257, x258, x259, x260, x261, x262, x263, x264, x265, x266, x267, x268, x269, x270, x271, x272, x273, x274, x275, x276, x277, x278, x279, x280, x281, x282, x283, x284, x285, x286, x287, x288, x289, x290, x291, x292, x293, x294, x295, x296, x297, x298, x299, x300, x301, x302, x303, x304, x305, x306, x307, x308, x309, x310, x311, x312, x313, x314, x315, x316, x317, x318, x319, x320, x321, x322, x323, x324, x325, x326, x327, x328, x329, x330, x331, x332, x333, x334, x335, x336, x337, x338, x339, x340, x341, x342, x343, x344, x345, x346, x347, x348, x349, x350, x351, x352, x353, x354, x355, x356, x357, x358, x359, x360, x361, x362, x363, x364, x365, x366, x367, x368, x369, x370, x371, x372, x373, x374, x375, x376, x377, x378, x379, x380, x381, x382, x383, x384, x385, x386, x387, x388, x389, x390, x391, x392, x393, x394, x395, x396, x397, x398, x399, x400, x401, x402, x403, x404, x405, x406, x407, x408, x409, x410, x411, x412, x413, x414, x415, x416, x417, x418, x419, x420, x421, x422, x423, x424, x425, x426, x427, x428, x429, x430, x431, x432, x433, x434, x435, x436, x437, x438, x439, x440, x441, x442, x443, x444, x445, x446, x447, x448, x449, x450, x451, x452, x453, x454, x455, x456, x457, x458, x459, x460, x461, x462, x463, x464, x465, x466, x467, x468, x469, x470, x471, x472, x473, x474, x475, x476, x477, x478, x479, x480, x481, x482, x483, x484, x485, x486, x487, x488, x489, x490, x491, x492, x493, x494, x495, x496, x497, x498, x499, x500, x501, x502, x503, x504, x505, x506, x507, x508, x509], []⟩) a' w' → K a' w') :
    (cR (cL (cRn 13 (bodyOf Tryz.f3)))).wp Tryz.prog (Exit.then K Q) ⟨#[x0, x1, x2, x3, x4, .pointer (some ⟨g5, 0, none⟩), x6, x7, x8, x9, x10, x11, x12, x13, x14, x15, .pointer (some ⟨g16, 0, none⟩), x17, .pointer (some ⟨g18, 0, none⟩), x19, x20, x21, x22, x23, .int .i64 0, x25, x26, x27, x28, x29, x30, x31, x32, x33, x34, x35, x36, x37, x38, x39, x40, x41, x42, x43, x44, x45, x46, x47, x48, x49, x50, x51, x52, x53, x54, x55, x56, x57, x58, x59, x60, x61, x62, x63, x64, x65, x66, x67, x68, x69, x70, x71, x72, x73, x74, x75, x76, x77, x78, x79, x80, x81, x82, x83, x84, x85, x86, x87, x88, x89, x90, x91, x92, x93, x94, x95, x96, x97, x98, x99, x100, x101, x102, x103, x104, x105, x106, x107, x108, x109, x110, x111, x112, x113, x114, x115, x116, x117, x118, x119, x120, x121, x122, x123, x124, x125, x126, x127, x128, x129, x130, x131, x132, x133, x134, x135, x136, x137, x138, x139, x140, x141, x142, x143, x144, x145, x146, x147, x148, x149, x150, x151, x152, x153, x154, x155, x156, x157, x158, x159, x160, x161, x162, x163, x164, x165, x166, x167, x168, x169, x170, x171, x172, x173, x174, x175, x176, x177, x178, x179, x180, x181, x182, x183, x184, x185, x186, x187, x188, x189, x190, x191, x192, x193, x194, x195, x196, x197, x198, x199, x200, x201, x202, x203, x204, x205, x206, x207, x208, x209, x210, x211, x212, x213, x214, x215, x216, x217, x218, x219, x220, x221, x222, x223, x224, x225, x226, x227, x228, x229, x230, x231, x232, x233, x234, x235, x236, x237, x238, x239, x240, x241, x242, x243, x244, x245, x246, x247, x248, x249, x250, x251, x252, x253, x254, x255, x256, x257, x258, x259, x260, x261, x262, x263, x264, x265, x266, x267, x268, x269, x270, x271, x272, x273, x274, x275, x276, x277, x278, x279, x280, x281, x282, x283, x284, x285, x286, x287, x288, x289, x290, x291, x292, x293, x294, x295, x296, x297, x298, x299, x300, x301, x302, x303, x304, x305, x306, x307, x308, x309, x310, x311, x312, x313, x314, x315, x316, x317, x318, x319, x320, x321, x322, x323, x324, x325, x326, x327, x328, x329, x330, x331, x332, x333, x334, x335, x336, x337, x338, x339, x340, x341, x342, x343, x344, x345, x346, x347, x348, x349, x350, x351, x352, x353, x354, x355, x356, x357, x358, x359, x360, x361, x362, x363, x364, x365, x366, x367, x368, x369, x370, x371, x372, x373, x374, x375, x376, x377, x378, x379, x380, x381, x382, x383, x384, x385, x386, x387, x388, x389, x390, x391, x392, x393, x394, x395, x396, x397, x398, x399, x400, x401, x402, x403, x404, x405, x406, x407, x408, x409, x410, x411, x412, x413, x414, x415, x416, x417, x418, x419, x420, x421, x422, x423, x424, x425, x426, x427, x428, x429, x430, x431, x432, x433, x434, x435, x436, x437, x438, x439, x440, x441, x442, x443, x444, x445, x446, x447, x448, x449, x450, x451, x452, x453, x454, x455, x456, x457, x458, x459, x460, x461, x462, x463, x464, x465, x466, x467, x468, x469, x470, x471, x472, x473, x474, x475, x476, x477, x478, x479, x480, x481, x482, x483, x484, x485, x486, x487, x488, x489, x490, x491, x492, x493, x494, x495, x496, x497, x498, x499, x500, x501, x502, x503, x504, x505, x506, x507, x508, x509], []⟩ w1 := by
  have a1 := hP.a1
  have a5 := hP.a5
  conv => arg 2; whnf
  go_wp2_with (fail)
  go_loopw [24] (fun i wr => ∃ k q : Nat, k ≤ 8 ∧ i = .int .i64 k ∧ wr = w1.drewN q) (fun i _ => 8 - (intOf i).toNat)
  case atStart => exact ⟨0, 0, by omega, rfl, rfl⟩
  case round =>
    obtain ⟨k, q, hk, rfl, hwr⟩ := hrel
    by_cases hlt : k < 8
    · have c5 : wr.cell? ⟨g5, 0, none⟩ = some (.int .i8 a) := by rw [hwr]; exact (cell_of_row w1 _ 0 _ _ _ hg5).trans (row_g0 _ _ _ _)
      by_cases hka : k < a
      · obtain ⟨m, hm⟩ : ∃ m : Nat, m = a - 1 - k := ⟨_, rfl⟩
        have c16 : wr.cell? ⟨g16, m, none⟩ = some (.float .f32 (zonesF a b F m)) := by rw [hwr]; exact (cell_of_row w1 _ m _ _ _ hg16).trans (row_k0 _ _ (by omega))
        have c18 : wr.cell? ⟨g18, k, none⟩ = some (.float .f32 (zonesF a b F m)) := by rw [hwr, hm, ← zone_mir (by omega) (by have := hP.b5; omega) F hka]; exact (cell_of_row w1 _ k _ _ _ hg18).trans (row_k0 _ _ hlt)
        have e1 : (a : Int) - 1 - (k : Int) = (m : Int) := by omega
        have hm8 : m < 8 := by omega
        have HW := Lib.hid hwr
        clear hwr hg5 hg16 hg18 hB hm
        go_wp2_with (fail)
        refine (sameNum_any _ _).mono ?_
        rintro e w' ⟨rfl, rfl⟩
        go_wp2_with (fail)
        go_roundw
        case rel => exact ⟨k + 1, q, by omega, by go_num, HW.out⟩
        case measure => simp [intOf]; omega
      · have c18 : wr.cell? ⟨g18, k, none⟩ = some (.float .f32 0) := by rw [hwr, ← zone_out (b := b) (mirF a b F) hka]; exact (cell_of_row w1 _ k _ _ _ hg18).trans (row_k0 _ _ hlt)
        have HW := Lib.hid hwr
        clear hwr hg5 hg16 hg18 hB
        go_wp2_with (fail)
        refine (sameNum_any _ _).mono ?_
        rintro e w' ⟨rfl, rfl⟩
        go_wp2_with (fail)
        go_roundw
        case rel => exact ⟨k + 1, q, by omega, by go_num, HW.out⟩
        case measure => simp [intOf]; omega
    · obtain rfl : k = 8 := by omega
      have hg5' : wr.heap[g5]? = some (.cells (plate a b F) 29 (0, 0)) := by rw [hwr]; exact hg5
      have hB' : Below w.heap.size w wr := by rw [hwr]; exact bel_drewN q hB
      have hzz : w1.heap.size ≤ wr.heap.size := by rw [hwr]; exact Nat.le_refl _
      clear hwr hg5 hg16 hg18 hB
      go_wp2_with (fail)
      refine Met.intro ?_
      (repeat apply Exists.intro)
      exact ⟨⟨hg5', hB', hzz⟩, rfl⟩
end Go.Proofs.YtekfmjddlemboaaGreatDoor
