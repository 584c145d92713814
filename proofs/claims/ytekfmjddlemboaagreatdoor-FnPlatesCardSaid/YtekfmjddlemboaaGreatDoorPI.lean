/- Parts of a proof, merged; each under its own premises. -/
import Derived.Test.YtekfmjddlemboaaGreatDoorPH
import Derived.Test.YtekfmjddlemboaaGreatDoorPA
import Derived.Test.YtekfmjddlemboaaGreatDoorPB
import Derived.Deep.RegionHeld3
import Derived.Deep.MidRow
import Derived.OrdersHeld
import Derived.Deep.RegionHeld
import Derived.Test.YtekfmjddlemboaaGreatDoorPC
import Derived.StillTailTactics
import Derived.Test.YtekfmjddlemboaaGreatDoorPE
import Derived.Deep.Cut
import Derived.Deep.RegionWith
import Derived.OwnWalk
import Derived.Test.YtekfmjddlemboaaGreatDoorRows
import Derived.ProofKit
import Derived.WalkLawsBesides
import Derived.Laws.BitsAllLaws
import Derived.Deep.QuietTactic
import Derived.BigQuiet
import Derived.Laws.CopyOwn

/-! Contracts of OverPlate, the reference's and the program's, and the law on it. -/
set_option linter.unusedVariables false
set_option linter.unusedSimpArgs false
namespace Go.Proofs.YtekfmjddlemboaaGreatDoor
open Go.RowKit Ieee

def overN (d b : Nat) : Nat := clipR (fadd d (fmul b (fsub 1065353216 d)))
structure OverFacts (d b : Nat) : Prop where
  fd : Fin32 d
  fb : Fin32 b
  f1 : Fin32 (fsub 1065353216 d)
  f2 : Fin32 (fmul b (fsub 1065353216 d))
  nv : ¬ Flt.NaN single (fadd d (fmul b (fsub 1065353216 d)))
  zv : 0 ≤ Z32 (fadd d (fmul b (fsub 1065353216 d)))
theorem over_facts {d b : Nat} (hd : partB d = true) (hb : partB b = true) : OverFacts d b := by
  have h1 := part_one_sub hd
  have h2 := part_mul hb h1
  obtain ⟨_, d2, d3⟩ := (part_iff d).1 hd
  obtain ⟨_, m2, m3⟩ := (part_iff _).1 h2
  refine ⟨part_fin hd, part_fin hb, part_fin h1, part_fin h2, num_fadd (part_fin hd) (part_fin h2), ?_⟩
  have := fadd_ge (part_fin hd) (part_fin h2) (c := 0) (by decide) (by rw [Z_zero]; omega)
  rwa [Z_zero] at this
theorem over_part {d b : Nat} (hd : partB d = true) (hb : partB b = true) : partB (overN d b) = true := part_clip (over_facts hd hb).nv
theorem specClip_any (x : Nat) (w : World) : Calls Tryz.prog 60 #[.float .f32 x] w fun e w' => e = .returned (.float .f32 (clipR x)) ∧ w = w' := by
  unfold clipR
  go_enter Tryz.func60, Tryz.ntmps60
  go_wp2
  all_goals (go_ret; exact ⟨by simp [*], rfl⟩)
theorem one_word {v : Nat} (hl : v < 2 ^ 32) (h : Z32 v = Z32 1065353216) : v = 1065353216 := by
  have hsw := sw_single
  refine Flt.word_inj single (by omega) (by rw [hsw]; decide) ?_ h
  rw [pos_Z (a := v) (by rw [h, Z_one]; decide)]
  decide
theorem fadd_lt {a b : Nat} (ha : Fin32 a) (hb : Fin32 b) : fadd a b < 2 ^ 32 := by
  unfold fadd
  rw [Flt.add_fin single ha hb]
  simp only [Option.getD_some]
  have := Flt.G_lt single (Flt.Z single a + Flt.Z single b).natAbs 0
  have hsw := sw_single
  unfold Ieee.Format.word
  split <;> omega
theorem run_min_clip {P : Program} (ts : Array TypeId) (t : TypeId) {v : Nat} (hv : ¬ Flt.NaN single v) (hl : v < 2 ^ 32) (h0 : 0 ≤ Z32 v) (w : World) :
    (Builtin.min_ ts t #[.float .f32 v, .float .f32 1065353216]).run P w = .ok (.float .f32 (clipR v)) w := by
  have n1 : ¬ Flt.NaN single 1065353216 := by decide
  have ho := order_Z hv n1
  have hz := order_Z hv (by decide : ¬ Flt.NaN single 0)
  have hlt : (FloatKind.f32.format.order v 0 == some .lt) = false := by
    rw [hz, show Z32 0 = 0 from Z_zero]
    rcases Int.lt_trichotomy (Z32 v) 0 with h | h | h
    · omega
    · rw [Int.compare_eq_eq.2 h]; rfl
    · rw [Int.compare_eq_gt.2 h]; rfl
  unfold clipR
  rw [hlt]
  rcases Int.lt_trichotomy (Z32 v) (Z32 1065353216) with h | h | h
  · rw [Int.compare_eq_lt.2 h] at ho
    simp [Builtin.min_, Builtin.min2, ho]
  · rw [Int.compare_eq_eq.2 h] at ho
    have := one_word hl h
    subst this
    simp [Builtin.min_, Builtin.min2, ho]
  · rw [Int.compare_eq_gt.2 h] at ho
    simp [Builtin.min_, Builtin.min2, ho]

set_option maxRecDepth 100000 in
set_option maxHeartbeats 3200000 in
theorem specOver_any (x y : Int) (F : Nat → Nat) (x' y' : Int) (F' : Nat → Nat) (w : World) (lx : -128 ≤ x) (ux : x ≤ 127) (ly : -128 ≤ y) (uy : y ≤ 127) (lx' : -128 ≤ x') (ux' : x' ≤ 127) (ly' : -128 ≤ y') (uy' : y' ≤ 127) : Calls Tryz.prog 21 #[.agg (plate x y F), .agg (plate x' y' F')] w fun e w' => e = .returned (.tuple #[.agg (if okP x y F x' y' F' then plate x y (mapA x.toNat y.toNat (fun i => overN (F i) (F' i)) (fun _ => 0)) else plate 0 0 (fun _ => 0)), .int .i64 (pairC x y F x' y' F')]) ∧ Below w.heap.size w w' := by
  have hz : Tryz.zeroCells29 = row [.int .i8 0, .int .i8 0] 64 (fun _ => 0) := rfl
  cases ho : okP x y F x' y' F'
  · have hbo := fun w B B' hB hB' => specBoth_any x y F x' y' F' w lx ux ly uy lx' ux' ly' uy' B B' hB hB'
    obtain ⟨c, hcc⟩ : ∃ c, c = pairC x y F x' y' F' := ⟨_, rfl⟩
    have hne : ¬ c = 0 := by rw [hcc]; exact okP_no ho
    have hnb : (c != 0) = true := by simp [hne]
    rw [← hcc] at hbo ⊢
    clear hcc
    go_enter Tryz.func21, Tryz.ntmps21
    go_wp2_with (first | (go_at_call 59; (with_reducible refine (hbo _ w.heap.size (w.heap.size + 1) ?_ ?_).mono ?_); (focus (repeat (first | (with_reducible assumption) | ((with_reducible refine blk_new _ _ _ ?_); focus (simp; done)) | ((with_reducible refine blk_old _ _ _ ?_ ?_); focus (simp; done)) | ((with_reducible refine blk_old _ _ _ ?_ ?_); focus (first | omega | (simp; omega))) | ((with_reducible apply blk_set); focus (simp; done)) | ((with_reducible refine blk_off _ _ _ _ ?_ ?_); focus (simp; done)) | ((with_reducible refine blk_offc _ _ _ _ ?_ ?_); focus (first | (simp; done) | omega | (simp; omega))) | ((with_reducible refine blk_off _ _ _ _ ?_ ?_); focus (first | omega | (simp; omega))) | (with_reducible refine blk_drew _ _ ?_) | ((with_reducible refine blk_below (by assumption) ?_ ?_); focus (simp; done)) | ((with_reducible refine blk_below (by assumption) ?_ ?_); focus (first | omega | (simp; omega)))))); (focus (repeat (first | (with_reducible assumption) | ((with_reducible refine blk_new _ _ _ ?_); focus (simp; done)) | ((with_reducible refine blk_old _ _ _ ?_ ?_); focus (simp; done)) | ((with_reducible refine blk_old _ _ _ ?_ ?_); focus (first | omega | (simp; omega))) | ((with_reducible apply blk_set); focus (simp; done)) | ((with_reducible refine blk_off _ _ _ _ ?_ ?_); focus (simp; done)) | ((with_reducible refine blk_offc _ _ _ _ ?_ ?_); focus (first | (simp; done) | omega | (simp; omega))) | ((with_reducible refine blk_off _ _ _ _ ?_ ?_); focus (first | omega | (simp; omega))) | (with_reducible refine blk_drew _ _ ?_) | ((with_reducible refine blk_below (by assumption) ?_ ?_); focus (simp; done)) | ((with_reducible refine blk_below (by assumption) ?_ ?_); focus (first | omega | (simp; omega)))))); rintro e w' ⟨rfl, m, rfl⟩) | ((with_reducible refine at_store 29 ?_); refine wpList_store_part rfl 29 _ _ rfl _ 0 _ rfl rfl _ _ (by repeat (first | (with_reducible assumption) | (with_reducible refine blk_drewN _ _ _ ?_) | ((with_reducible refine blk_new _ _ _ ?_); focus (simp; done)) | ((with_reducible refine blk_old _ _ _ ?_ ?_); focus (simp; done)) | ((with_reducible refine blk_old _ _ _ ?_ ?_); focus (first | omega | (simp; omega))) | ((with_reducible apply blk_set); focus (simp; done)) | ((with_reducible refine blk_off _ _ _ _ ?_ ?_); focus (simp; done)) | ((with_reducible refine blk_offc _ _ _ _ ?_ ?_); focus (first | (simp; done) | omega | (simp; omega))) | ((with_reducible refine blk_off _ _ _ _ ?_ ?_); focus (first | omega | (simp; omega))) | (with_reducible refine blk_drew _ _ ?_) | ((with_reducible refine blk_below (by assumption) ?_ ?_); focus (simp; done)) | ((with_reducible refine blk_below (by assumption) ?_ ?_); focus (first | omega | (simp; omega))))) (by rw [row_size]; kernel_rfl) (by simp [row_size]) (row_cells _ _ _ rfl) _ (row_over _ _ 64 _ _ (by simp)) ?_) | ((with_reducible refine at_load 29 ?_); refine wpList_load_part rfl 29 _ rfl _ 0 66 rfl _ _ _ _ (by repeat (first | (with_reducible assumption) | (with_reducible refine blk_drewN _ _ _ ?_) | ((with_reducible refine blk_new _ _ _ ?_); focus (simp; done)) | ((with_reducible refine blk_old _ _ _ ?_ ?_); focus (simp; done)) | ((with_reducible refine blk_old _ _ _ ?_ ?_); focus (first | omega | (simp; omega))) | ((with_reducible apply blk_set); focus (simp; done)) | ((with_reducible refine blk_off _ _ _ _ ?_ ?_); focus (simp; done)) | ((with_reducible refine blk_offc _ _ _ _ ?_ ?_); focus (first | (simp; done) | omega | (simp; omega))) | ((with_reducible refine blk_off _ _ _ _ ?_ ?_); focus (first | omega | (simp; omega))) | (with_reducible refine blk_drew _ _ ?_) | ((with_reducible refine blk_below (by assumption) ?_ ?_); focus (simp; done)) | ((with_reducible refine blk_below (by assumption) ?_ ?_); focus (first | omega | (simp; omega))))) Tryz.underlying29 rfl (by kernel_rfl) (by simp [row_size]) _ (row_all [_, _] 64 _) ?_) | go_in)
    refine bodyPost_ret (v := .tuple #[.agg (plate 0 0 (fun _ => 0)), .int .i64 c]) ?_ ?_ ?_
    · refine results_row_tmp Tryz.results21 _ _ _ 29 (plate 0 0 (fun _ => 0)) (0, 0) _ _ rfl rfl ?_ Tryz.underlying29 rfl (by simp only [row_size]; kernel_rfl)
      exact (by repeat (first | (with_reducible assumption) | (with_reducible refine blk_drewN _ _ _ ?_) | ((with_reducible refine blk_new _ _ _ ?_); focus (simp; done)) | ((with_reducible refine blk_old _ _ _ ?_ ?_); focus (simp; done)) | ((with_reducible refine blk_old _ _ _ ?_ ?_); focus (first | omega | (simp; omega))) | ((with_reducible apply blk_set); focus (simp; done)) | ((with_reducible refine blk_off _ _ _ _ ?_ ?_); focus (simp; done)) | ((with_reducible refine blk_offc _ _ _ _ ?_ ?_); focus (first | (simp; done) | omega | (simp; omega))) | ((with_reducible refine blk_off _ _ _ _ ?_ ?_); focus (first | omega | (simp; omega))) | (with_reducible refine blk_drew _ _ ?_) | ((with_reducible refine blk_below (by assumption) ?_ ?_); focus (simp; done)) | ((with_reducible refine blk_below (by assumption) ?_ ?_); focus (first | omega | (simp; omega)))))
    · rfl
    · exact ⟨rfl, (by repeat (first | (with_reducible assumption) | (with_reducible refine bel_drewN _ ?_) | (with_reducible exact Below.refl _ _) | ((with_reducible refine bel_alloc _ ?_ ?_); focus (first | omega | (simp; done) | (simp; omega))) | ((with_reducible refine bel_row _ ?_ ?_); focus (first | omega | (simp; done) | (simp; omega))) | ((with_reducible refine bel_cell _ ?_ ?_); focus (first | omega | (simp; done) | (simp; omega))) | (with_reducible refine Below.drew ?_) | (with_reducible refine below_wideW _ ?_) | ((with_reducible refine bel_next (by assumption) ?_ ?_); focus (first | omega | (simp; done) | (simp; omega)))))⟩
  · obtain ⟨h1, h2, rfl, rfl⟩ := okP_facts ho
    have hbo := fun w B B' hB hB' => specBoth_any x y F x y F' w lx ux ly uy lx ux ly uy B B' hB hB'
    rw [pairC_ok.1 ho] at hbo ⊢
    obtain ⟨a', b', ea, eb, _, _, _, _, hp', _⟩ := plateB_size h2
    obtain ⟨a, b, rfl, rfl, la, ha, lb, hb, hp, hz0⟩ := plateB_size h1
    obtain rfl : a = a' := by omega
    obtain rfl : b = b' := by omega
    have HP := Lib.hid hp
    have HP' := Lib.hid hp'
    clear hp hz0 hp' h1 h2 ho ea eb
    go_enter Tryz.func21, Tryz.ntmps21
    go_wp2_with (first | (go_at_call 59; (with_reducible refine (hbo _ w.heap.size (w.heap.size + 1) ?_ ?_).mono ?_); (focus (repeat (first | (with_reducible assumption) | ((with_reducible refine blk_new _ _ _ ?_); focus (simp; done)) | ((with_reducible refine blk_old _ _ _ ?_ ?_); focus (simp; done)) | ((with_reducible refine blk_old _ _ _ ?_ ?_); focus (first | omega | (simp; omega))) | ((with_reducible apply blk_set); focus (simp; done)) | ((with_reducible refine blk_off _ _ _ _ ?_ ?_); focus (simp; done)) | ((with_reducible refine blk_offc _ _ _ _ ?_ ?_); focus (first | (simp; done) | omega | (simp; omega))) | ((with_reducible refine blk_off _ _ _ _ ?_ ?_); focus (first | omega | (simp; omega))) | (with_reducible refine blk_drew _ _ ?_) | ((with_reducible refine blk_below (by assumption) ?_ ?_); focus (simp; done)) | ((with_reducible refine blk_below (by assumption) ?_ ?_); focus (first | omega | (simp; omega)))))); (focus (repeat (first | (with_reducible assumption) | ((with_reducible refine blk_new _ _ _ ?_); focus (simp; done)) | ((with_reducible refine blk_old _ _ _ ?_ ?_); focus (simp; done)) | ((with_reducible refine blk_old _ _ _ ?_ ?_); focus (first | omega | (simp; omega))) | ((with_reducible apply blk_set); focus (simp; done)) | ((with_reducible refine blk_off _ _ _ _ ?_ ?_); focus (simp; done)) | ((with_reducible refine blk_offc _ _ _ _ ?_ ?_); focus (first | (simp; done) | omega | (simp; omega))) | ((with_reducible refine blk_off _ _ _ _ ?_ ?_); focus (first | omega | (simp; omega))) | (with_reducible refine blk_drew _ _ ?_) | ((with_reducible refine blk_below (by assumption) ?_ ?_); focus (simp; done)) | ((with_reducible refine blk_below (by assumption) ?_ ?_); focus (first | omega | (simp; omega)))))); rintro e w' ⟨rfl, m, rfl⟩) | ((with_reducible refine at_store 29 ?_); refine wpList_store_part rfl 29 _ _ rfl _ 0 _ rfl rfl _ _ (by repeat (first | (with_reducible assumption) | (with_reducible refine blk_drewN _ _ _ ?_) | ((with_reducible refine blk_new _ _ _ ?_); focus (simp; done)) | ((with_reducible refine blk_old _ _ _ ?_ ?_); focus (simp; done)) | ((with_reducible refine blk_old _ _ _ ?_ ?_); focus (first | omega | (simp; omega))) | ((with_reducible apply blk_set); focus (simp; done)) | ((with_reducible refine blk_off _ _ _ _ ?_ ?_); focus (simp; done)) | ((with_reducible refine blk_offc _ _ _ _ ?_ ?_); focus (first | (simp; done) | omega | (simp; omega))) | ((with_reducible refine blk_off _ _ _ _ ?_ ?_); focus (first | omega | (simp; omega))) | (with_reducible refine blk_drew _ _ ?_) | ((with_reducible refine blk_below (by assumption) ?_ ?_); focus (simp; done)) | ((with_reducible refine blk_below (by assumption) ?_ ?_); focus (first | omega | (simp; omega))))) (by rw [row_size]; kernel_rfl) (by simp [row_size]) (row_cells _ _ _ rfl) _ (row_over _ _ 64 _ _ (by simp)) ?_) | ((with_reducible refine at_load 29 ?_); refine wpList_load_part rfl 29 _ rfl _ 0 66 rfl _ _ _ _ (by repeat (first | (with_reducible assumption) | (with_reducible refine blk_drewN _ _ _ ?_) | ((with_reducible refine blk_new _ _ _ ?_); focus (simp; done)) | ((with_reducible refine blk_old _ _ _ ?_ ?_); focus (simp; done)) | ((with_reducible refine blk_old _ _ _ ?_ ?_); focus (first | omega | (simp; omega))) | ((with_reducible apply blk_set); focus (simp; done)) | ((with_reducible refine blk_off _ _ _ _ ?_ ?_); focus (simp; done)) | ((with_reducible refine blk_offc _ _ _ _ ?_ ?_); focus (first | (simp; done) | omega | (simp; omega))) | ((with_reducible refine blk_off _ _ _ _ ?_ ?_); focus (first | omega | (simp; omega))) | (with_reducible refine blk_drew _ _ ?_) | ((with_reducible refine blk_below (by assumption) ?_ ?_); focus (simp; done)) | ((with_reducible refine blk_below (by assumption) ?_ ?_); focus (first | omega | (simp; omega))))) Tryz.underlying29 rfl (by kernel_rfl) (by simp [row_size]) _ (row_all [_, _] 64 _) ?_) | go_in)
    go_loopw [8] (fun i wr => ∃ k : Nat, k ≤ 64 ∧ i = .int .i64 k ∧ wr.heap[w.heap.size]? = some (.cells (plate a b F) 29 (0, 0)) ∧ wr.heap[w.heap.size + 1]? = some (.cells (plate a b F') 29 (0, 0)) ∧ wr.heap[w.heap.size + 2]? = some (.cells (plate 0 0 (fun _ => 0)) 29 (0, 0)) ∧ wr.heap[w.heap.size + 3]? = some (.cells (plate a b (mapC a b (fun i => overN (F i) (F' i)) (fun _ => 0) (cntC a b k))) 29 (0, 0)) ∧ Below w.heap.size w wr) (fun i _ => 64 - (intOf i).toNat)
    case atStart => exact ⟨0, by omega, rfl, (by repeat (first | (with_reducible assumption) | (with_reducible refine blk_drewN _ _ _ ?_) | ((with_reducible refine blk_new _ _ _ ?_); focus (simp; done)) | ((with_reducible refine blk_old _ _ _ ?_ ?_); focus (simp; done)) | ((with_reducible refine blk_old _ _ _ ?_ ?_); focus (first | omega | (simp; omega))) | ((with_reducible apply blk_set); focus (simp; done)) | ((with_reducible refine blk_off _ _ _ _ ?_ ?_); focus (simp; done)) | ((with_reducible refine blk_offc _ _ _ _ ?_ ?_); focus (first | (simp; done) | omega | (simp; omega))) | ((with_reducible refine blk_off _ _ _ _ ?_ ?_); focus (first | omega | (simp; omega))) | (with_reducible refine blk_drew _ _ ?_) | ((with_reducible refine blk_below (by assumption) ?_ ?_); focus (simp; done)) | ((with_reducible refine blk_below (by assumption) ?_ ?_); focus (first | omega | (simp; omega))))), (by repeat (first | (with_reducible assumption) | (with_reducible refine blk_drewN _ _ _ ?_) | ((with_reducible refine blk_new _ _ _ ?_); focus (simp; done)) | ((with_reducible refine blk_old _ _ _ ?_ ?_); focus (simp; done)) | ((with_reducible refine blk_old _ _ _ ?_ ?_); focus (first | omega | (simp; omega))) | ((with_reducible apply blk_set); focus (simp; done)) | ((with_reducible refine blk_off _ _ _ _ ?_ ?_); focus (simp; done)) | ((with_reducible refine blk_offc _ _ _ _ ?_ ?_); focus (first | (simp; done) | omega | (simp; omega))) | ((with_reducible refine blk_off _ _ _ _ ?_ ?_); focus (first | omega | (simp; omega))) | (with_reducible refine blk_drew _ _ ?_) | ((with_reducible refine blk_below (by assumption) ?_ ?_); focus (simp; done)) | ((with_reducible refine blk_below (by assumption) ?_ ?_); focus (first | omega | (simp; omega))))), (by repeat (first | (with_reducible assumption) | (with_reducible refine blk_drewN _ _ _ ?_) | ((with_reducible refine blk_new _ _ _ ?_); focus (simp; done)) | ((with_reducible refine blk_old _ _ _ ?_ ?_); focus (simp; done)) | ((with_reducible refine blk_old _ _ _ ?_ ?_); focus (first | omega | (simp; omega))) | ((with_reducible apply blk_set); focus (simp; done)) | ((with_reducible refine blk_off _ _ _ _ ?_ ?_); focus (simp; done)) | ((with_reducible refine blk_offc _ _ _ _ ?_ ?_); focus (first | (simp; done) | omega | (simp; omega))) | ((with_reducible refine blk_off _ _ _ _ ?_ ?_); focus (first | omega | (simp; omega))) | (with_reducible refine blk_drew _ _ ?_) | ((with_reducible refine blk_below (by assumption) ?_ ?_); focus (simp; done)) | ((with_reducible refine blk_below (by assumption) ?_ ?_); focus (first | omega | (simp; omega))))), by rw [show cntC a b 0 = 0 from rfl, mapC_0]; exact (by repeat (first | (with_reducible assumption) | (with_reducible refine blk_drewN _ _ _ ?_) | ((with_reducible refine blk_new _ _ _ ?_); focus (simp; done)) | ((with_reducible refine blk_old _ _ _ ?_ ?_); focus (simp; done)) | ((with_reducible refine blk_old _ _ _ ?_ ?_); focus (first | omega | (simp; omega))) | ((with_reducible apply blk_set); focus (simp; done)) | ((with_reducible refine blk_off _ _ _ _ ?_ ?_); focus (simp; done)) | ((with_reducible refine blk_offc _ _ _ _ ?_ ?_); focus (first | (simp; done) | omega | (simp; omega))) | ((with_reducible refine blk_off _ _ _ _ ?_ ?_); focus (first | omega | (simp; omega))) | (with_reducible refine blk_drew _ _ ?_) | ((with_reducible refine blk_below (by assumption) ?_ ?_); focus (simp; done)) | ((with_reducible refine blk_below (by assumption) ?_ ?_); focus (first | omega | (simp; omega))))), (by repeat (first | (with_reducible assumption) | (with_reducible refine bel_drewN _ ?_) | (with_reducible exact Below.refl _ _) | ((with_reducible refine bel_alloc _ ?_ ?_); focus (first | omega | (simp; done) | (simp; omega))) | ((with_reducible refine bel_row _ ?_ ?_); focus (first | omega | (simp; done) | (simp; omega))) | ((with_reducible refine bel_cell _ ?_ ?_); focus (first | omega | (simp; done) | (simp; omega))) | (with_reducible refine Below.drew ?_) | (with_reducible refine below_wideW _ ?_) | ((with_reducible refine bel_next (by assumption) ?_ ?_); focus (first | omega | (simp; done) | (simp; omega)))))⟩
    case round =>
      obtain ⟨k, hk, rfl, h1, h2, h4, h3, h5⟩ := hrel
      have p0 : wr.cell? ⟨w.heap.size, 0, none⟩ = some (.int .i8 a) := (cell_of_row wr _ 0 _ _ _ h1).trans (row_g0 _ _ _ _)
      have p1 : wr.cell? ⟨w.heap.size, 1, none⟩ = some (.int .i8 b) := (cell_of_row wr _ 1 _ _ _ h1).trans (row_g1 _ _ _ _ _)
      by_cases hlt : k < 64
      · have k0 : (0 : Int) ≤ k := by omega
        have k64 : (k : Int) < 64 := by omega
        have cf : wr.cell? ⟨w.heap.size, 2 + k, none⟩ = some (.float .f32 (F k)) := (cell_of_row wr _ (2 + k) _ _ _ h1).trans (row_k2 _ _ _ _ hlt)
        have cg : wr.cell? ⟨w.heap.size + 1, 2 + k, none⟩ = some (.float .f32 (F' k)) := (cell_of_row wr _ (2 + k) _ _ _ h2).trans (row_k2 _ _ _ _ hlt)
        have co : wr.cell? ⟨w.heap.size + 3, 2 + k, none⟩ = some (.float .f32 (mapC a b (fun i => overN (F i) (F' i)) (fun _ => 0) (cntC a b k) k)) := (cell_of_row wr _ (2 + k) _ _ _ h3).trans (row_k2 _ _ _ _ hlt)
        have ff : wr.frozen? ⟨w.heap.size + 3, 2 + k, none⟩ = false := frozen_of_row wr _ _ _ _ h3
        have H1 := Lib.hid h1
        have H2 := Lib.hid h2
        have H3 := Lib.hid h3
        have H4 := Lib.hid h4
        have H5 := Lib.hid h5
        clear h1 h2 h3 h4 h5
        cases hr : isC a b k
        · have HR := Lib.hid hr
          have hIs : ∀ w' : World, w'.cell? ⟨w.heap.size, 0, none⟩ = some (.int .i8 a) → w'.cell? ⟨w.heap.size, 1, none⟩ = some (.int .i8 b) → Calls Tryz.prog 46 #[.pointer (some ⟨w.heap.size, 0, none⟩), .int .i64 k] w' fun e w'' => e = .returned (.bool false) ∧ w' = w'' := fun w' c0 c1 => by have := specIs_any ha hb hlt w' (w.heap.size) c0 c1; rwa [HR.out] at this
          clear hr
          go_wp2_with (first | (go_at_call 46; (with_reducible refine (hIs _ (by assumption) (by assumption)).mono ?_); rintro e w' ⟨rfl, rfl⟩) | go_in)
          go_roundw
          case rel => exact ⟨k + 1, by omega, by go_num, H1.out, H2.out, H4.out, by rw [cnt_skip a b k HR.out]; exact H3.out, H5.out⟩
          case measure => simp [intOf]; omega
        · have HR := Lib.hid hr
          obtain ⟨fd, fb, f1, f2, nv, zv⟩ := over_facts (HP.out k hlt hr) (HP'.out k hlt hr)
          have e1 := fun w => run_fsub (P := Tryz.prog) w 25 (x := 1065353216) (by decide) fd
          have e2 := fun w => run_fmul (P := Tryz.prog) w 25 fb f1
          have e3 := fun w => run_fadd (P := Tryz.prog) w 25 fd f2
          have hcs := fun b w => run_conv_same (P := Tryz.prog) 25 25 .f32 b w (by kernel_rfl) (by kernel_rfl)
          have hIs : ∀ w' : World, w'.cell? ⟨w.heap.size, 0, none⟩ = some (.int .i8 a) → w'.cell? ⟨w.heap.size, 1, none⟩ = some (.int .i8 b) → Calls Tryz.prog 46 #[.pointer (some ⟨w.heap.size, 0, none⟩), .int .i64 k] w' fun e w'' => e = .returned (.bool true) ∧ w' = w'' := fun w' c0 c1 => by have := specIs_any ha hb hlt w' (w.heap.size) c0 c1; rwa [HR.out] at this
          clear hr fd fb f1 f2 nv zv
          go_wp2_with (first | (go_at_call 46; (with_reducible refine (hIs _ (by assumption) (by assumption)).mono ?_); rintro e w' ⟨rfl, rfl⟩) | go_in)
          go_quiet (fail)
          go_wp2_with (first | (go_at_call 60; (with_reducible refine (specClip_any _ _).mono ?_); rintro e w' ⟨rfl, rfl⟩) | go_in)
          go_roundw
          case rel => exact ⟨k + 1, by omega, by go_num, put_off (by omega) (blk_drewN _ _ _ H1.out), put_off (by omega) (blk_drewN _ _ _ H2.out), put_off (by omega) (blk_drewN _ _ _ H4.out), put_cnt (f := (fun i => overN (F i) (F' i))) ha hb hlt HR.out rfl rfl (blk_drewN _ _ _ H3.out), bel_cell _ (by simp; omega) (bel_drewN _ H5.out)⟩
          case measure => simp [intOf]; omega
      · obtain rfl : k = 64 := by omega
        rw [(cells_all a ha b hb).1, show plate a b (mapC a b (fun i => overN (F i) (F' i)) (fun _ => 0) (a * b)) = plate a b (mapA a b (fun i => overN (F i) (F' i)) (fun _ => 0)) from mapC_end ha hb _ _ _] at h3
        have H5 := Lib.hid h5
        have hz5 := h5.size
        clear h5
        go_wp2_with (first | ((with_reducible refine at_store 29 ?_); refine wpList_store_part rfl 29 _ _ rfl _ 0 _ rfl rfl _ _ (by repeat (first | (with_reducible assumption) | ((with_reducible refine blk_new _ _ _ ?_); focus (simp; done)) | ((with_reducible refine blk_old _ _ _ ?_ ?_); focus (simp; done)) | ((with_reducible refine blk_old _ _ _ ?_ ?_); focus (first | omega | (simp; omega))) | ((with_reducible apply blk_set); focus (simp; done)) | ((with_reducible refine blk_off _ _ _ _ ?_ ?_); focus (simp; done)) | ((with_reducible refine blk_offc _ _ _ _ ?_ ?_); focus (first | (simp; done) | omega | (simp; omega))) | ((with_reducible refine blk_off _ _ _ _ ?_ ?_); focus (first | omega | (simp; omega))) | (with_reducible refine blk_drew _ _ ?_) | ((with_reducible refine blk_below (by assumption) ?_ ?_); focus (simp; done)) | ((with_reducible refine blk_below (by assumption) ?_ ?_); focus (first | omega | (simp; omega))))) (by rw [row_size]; kernel_rfl) (by simp [row_size]) (row_cells _ _ _ rfl) _ (row_over _ _ 64 _ _ (by simp)) ?_) | ((with_reducible refine at_load 29 ?_); refine wpList_load_part rfl 29 _ rfl _ 0 66 rfl _ _ _ _ (by repeat (first | (with_reducible assumption) | ((with_reducible refine blk_new _ _ _ ?_); focus (simp; done)) | ((with_reducible refine blk_old _ _ _ ?_ ?_); focus (simp; done)) | ((with_reducible refine blk_old _ _ _ ?_ ?_); focus (first | omega | (simp; omega))) | ((with_reducible apply blk_set); focus (simp; done)) | ((with_reducible refine blk_off _ _ _ _ ?_ ?_); focus (simp; done)) | ((with_reducible refine blk_offc _ _ _ _ ?_ ?_); focus (first | (simp; done) | omega | (simp; omega))) | ((with_reducible refine blk_off _ _ _ _ ?_ ?_); focus (first | omega | (simp; omega))) | (with_reducible refine blk_drew _ _ ?_) | ((with_reducible refine blk_below (by assumption) ?_ ?_); focus (simp; done)) | ((with_reducible refine blk_below (by assumption) ?_ ?_); focus (first | omega | (simp; omega))))) Tryz.underlying29 rfl (by kernel_rfl) (by simp [row_size]) _ (row_all [_, _] 64 _) ?_))
        have h5 := H5.out
        refine bodyPost_ret (v := .tuple #[.agg (plate a b (mapA a b (fun i => overN (F i) (F' i)) (fun _ => 0))), .int .i64 0]) ?_ ?_ ?_
        · refine results_row_tmp Tryz.results21 _ _ _ 29 (plate a b (mapA a b (fun i => overN (F i) (F' i)) (fun _ => 0))) (0, 0) _ _ rfl rfl ?_ Tryz.underlying29 rfl (by simp only [row_size]; kernel_rfl)
          exact (by repeat (first | (with_reducible assumption) | ((with_reducible refine blk_new _ _ _ ?_); focus (simp; done)) | ((with_reducible refine blk_old _ _ _ ?_ ?_); focus (simp; done)) | ((with_reducible refine blk_old _ _ _ ?_ ?_); focus (first | omega | (simp; omega))) | ((with_reducible apply blk_set); focus (simp; done)) | ((with_reducible refine blk_off _ _ _ _ ?_ ?_); focus (simp; done)) | ((with_reducible refine blk_offc _ _ _ _ ?_ ?_); focus (first | (simp; done) | omega | (simp; omega))) | ((with_reducible refine blk_off _ _ _ _ ?_ ?_); focus (first | omega | (simp; omega))) | (with_reducible refine blk_drew _ _ ?_) | ((with_reducible refine blk_below (by assumption) ?_ ?_); focus (simp; done)) | ((with_reducible refine blk_below (by assumption) ?_ ?_); focus (first | omega | (simp; omega)))))
        · rfl
        · exact ⟨rfl, (by repeat (first | (with_reducible assumption) | (with_reducible exact Below.refl _ _) | ((with_reducible refine bel_alloc _ ?_ ?_); focus (first | omega | (simp; done) | (simp; omega))) | ((with_reducible refine bel_row _ ?_ ?_); focus (first | omega | (simp; done) | (simp; omega))) | ((with_reducible refine bel_cell _ ?_ ?_); focus (first | omega | (simp; done) | (simp; omega))) | (with_reducible refine Below.drew ?_) | (with_reducible refine below_wideW _ ?_) | ((with_reducible refine bel_next (by assumption) ?_ ?_); focus (first | omega | (simp; done) | (simp; omega)))))⟩

theorem giveOver {a b : Nat} {F F' : Nat → Nat} {B : Nat} (ha : a < 9) (hb : b < 9) (hp : ∀ i, i < 64 → isC a b i = true → partB (F i) = true) (hp' : ∀ i, i < 64 → isC a b i = true → partB (F' i) = true) (w : World) (hB : B < w.heap.size) (hq : w.heap[B]? = some (.cells (plate a b F') 29 (0, 0))) : GivesDots Tryz.prog 57 #[.pointer (some ⟨B, 0, none⟩)] a b F (fun i => overN (F i) (F' i)) w := by
  intro n W hn hbw
  have h64 := (cells_all a ha b hb).2
  obtain ⟨q1, q2, q3⟩ := cells_of a ha b hb n (by omega) hn
  obtain ⟨k, hk⟩ : ∃ k, k = cellAt a n := ⟨_, rfl⟩
  rw [← hk] at q1 q2
  have h1 : W.heap[B]? = some (.cells (plate a b F') 29 (0, 0)) := (hbw.block B hB).trans hq
  have cf : W.cell? ⟨B, 2 + k, none⟩ = some (.float .f32 (F' k)) := (cell_of_row W _ (2 + k) _ _ _ h1).trans (row_k2 _ _ _ _ q1)
  obtain ⟨fd, fb, f1, f2, nv, zv⟩ := over_facts (hp k q1 q2) (hp' k q1 q2)
  have e1 := fun w => run_fsub (P := Tryz.prog) w 25 (x := 1065353216) (by decide) fd
  have e2 := fun w => run_fmul (P := Tryz.prog) w 25 fb f1
  have e3 := fun w => run_fadd (P := Tryz.prog) w 25 fd f2
  have e4 := fun ts t w => run_min_clip (P := Tryz.prog) ts t nv (fadd_lt fd f2) zv w
  have hcs := fun b w => run_conv_same (P := Tryz.prog) 25 25 .f32 b w (by kernel_rfl) (by kernel_rfl)
  show Calls Tryz.prog 57 #[.int .i64 (cellAt a n : Nat), .float .f32 (F (cellAt a n)), .pointer (some ⟨B, 0, none⟩)] W fun e w' => e = .returned (.float .f32 (overN (F (cellAt a n)) (F' (cellAt a n)))) ∧ ∃ m, w' = W.drewN m
  rw [← hk]
  unfold overN
  have k0 : (0 : Int) ≤ k := by omega
  have k64 : (k : Int) < 64 := by omega
  clear hk q2 q3 h1 hn hbw h64 hB hq hp hp' fd fb f1 f2 nv zv
  go_enter Tryz.func57, Tryz.ntmps57
  go_wp2
  try (go_quiet (fail); go_wp2)
  go_ret
  exact ⟨rfl, by first | exact ⟨0, rfl⟩ | exact ⟨_, rfl⟩⟩

set_option maxRecDepth 100000 in
set_option maxHeartbeats 3200000 in
theorem implOver_any (x y : Int) (F : Nat → Nat) (x' y' : Int) (F' : Nat → Nat) (w : World) (lx : -128 ≤ x) (ux : x ≤ 127) (ly : -128 ≤ y) (uy : y ≤ 127) (lx' : -128 ≤ x') (ux' : x' ≤ 127) (ly' : -128 ≤ y') (uy' : y' ≤ 127) : Calls Tryz.prog 20 #[.agg (plate x y F), .agg (plate x' y' F')] w fun e w' => e = .returned (.tuple #[.agg (if okP x y F x' y' F' then plate x y (mapA x.toNat y.toNat (fun i => overN (F i) (F' i)) (fun _ => 0)) else plate 0 0 (fun _ => 0)), .int .i64 (pairC x y F x' y' F')]) ∧ Below w.heap.size w w' := by
  have hz : Tryz.zeroCells29 = row [.int .i8 0, .int .i8 0] 64 (fun _ => 0) := rfl
  cases ho : okP x y F x' y' F'
  · have hbo := fun w => implPair_any x y F x' y' F' w lx ux ly uy lx' ux' ly' uy'
    obtain ⟨c, hcc⟩ : ∃ c, c = pairC x y F x' y' F' := ⟨_, rfl⟩
    have hne : ¬ c = 0 := by rw [hcc]; exact okP_no ho
    have hnb : (c != 0) = true := by simp [hne]
    rw [← hcc] at hbo ⊢
    clear hcc
    go_enter Tryz.func20, Tryz.ntmps20
    go_wp2_with (first | (go_at_call 56; (with_reducible refine (hbo _).mono ?_); rintro e w1 ⟨rfl, hb1⟩; have hz1 := hb1.size; (try simp at hz1); obtain ⟨hc1, hf1⟩ := bcell hb1) | ((with_reducible refine at_store 29 ?_); refine wpList_store_part rfl 29 _ _ rfl _ 0 _ rfl rfl _ _ (by repeat (first | (with_reducible assumption) | ((with_reducible refine blk_new _ _ _ ?_); focus (simp; done)) | ((with_reducible refine blk_old _ _ _ ?_ ?_); focus (simp; done)) | ((with_reducible refine blk_old _ _ _ ?_ ?_); focus (first | omega | (simp; omega))) | ((with_reducible apply blk_set); focus (simp; done)) | ((with_reducible refine blk_off _ _ _ _ ?_ ?_); focus (simp; done)) | ((with_reducible refine blk_offc _ _ _ _ ?_ ?_); focus (first | (simp; done) | omega | (simp; omega))) | ((with_reducible refine blk_off _ _ _ _ ?_ ?_); focus (first | omega | (simp; omega))) | (with_reducible refine blk_drew _ _ ?_) | ((with_reducible refine blk_below (by assumption) ?_ ?_); focus (simp; done)) | ((with_reducible refine blk_below (by assumption) ?_ ?_); focus (first | omega | (simp; omega))))) (by rw [row_size]; kernel_rfl) (by simp [row_size]) (row_cells _ _ _ rfl) _ (row_over _ _ 64 _ _ (by simp)) ?_) | ((with_reducible refine at_load 29 ?_); refine wpList_load_part rfl 29 _ rfl _ 0 66 rfl _ _ _ _ (by repeat (first | (with_reducible assumption) | ((with_reducible refine blk_new _ _ _ ?_); focus (simp; done)) | ((with_reducible refine blk_old _ _ _ ?_ ?_); focus (simp; done)) | ((with_reducible refine blk_old _ _ _ ?_ ?_); focus (first | omega | (simp; omega))) | ((with_reducible apply blk_set); focus (simp; done)) | ((with_reducible refine blk_off _ _ _ _ ?_ ?_); focus (simp; done)) | ((with_reducible refine blk_offc _ _ _ _ ?_ ?_); focus (first | (simp; done) | omega | (simp; omega))) | ((with_reducible refine blk_off _ _ _ _ ?_ ?_); focus (first | omega | (simp; omega))) | (with_reducible refine blk_drew _ _ ?_) | ((with_reducible refine blk_below (by assumption) ?_ ?_); focus (simp; done)) | ((with_reducible refine blk_below (by assumption) ?_ ?_); focus (first | omega | (simp; omega))))) Tryz.underlying29 rfl (by kernel_rfl) (by simp [row_size]) _ (row_all [_, _] 64 _) ?_) | go_in)
    refine bodyPost_ret (v := .tuple #[.agg (plate 0 0 (fun _ => 0)), .int .i64 c]) ?_ ?_ ?_
    · refine results_row_tmp Tryz.results20 _ _ _ 29 (plate 0 0 (fun _ => 0)) (0, 0) _ _ rfl rfl ?_ Tryz.underlying29 rfl (by simp only [row_size]; kernel_rfl)
      exact (by repeat (first | (with_reducible assumption) | ((with_reducible refine blk_new _ _ _ ?_); focus (simp; done)) | ((with_reducible refine blk_old _ _ _ ?_ ?_); focus (simp; done)) | ((with_reducible refine blk_old _ _ _ ?_ ?_); focus (first | omega | (simp; omega))) | ((with_reducible apply blk_set); focus (simp; done)) | ((with_reducible refine blk_off _ _ _ _ ?_ ?_); focus (simp; done)) | ((with_reducible refine blk_offc _ _ _ _ ?_ ?_); focus (first | (simp; done) | omega | (simp; omega))) | ((with_reducible refine blk_off _ _ _ _ ?_ ?_); focus (first | omega | (simp; omega))) | (with_reducible refine blk_drew _ _ ?_) | ((with_reducible refine blk_below (by assumption) ?_ ?_); focus (simp; done)) | ((with_reducible refine blk_below (by assumption) ?_ ?_); focus (first | omega | (simp; omega)))))
    · rfl
    · exact ⟨rfl, (by repeat (first | (with_reducible assumption) | (with_reducible exact Below.refl _ _) | ((with_reducible refine bel_alloc _ ?_ ?_); focus (first | omega | (simp; done) | (simp; omega))) | ((with_reducible refine bel_row _ ?_ ?_); focus (first | omega | (simp; done) | (simp; omega))) | ((with_reducible refine bel_cell _ ?_ ?_); focus (first | omega | (simp; done) | (simp; omega))) | (with_reducible refine Below.drew ?_) | (with_reducible refine below_wideW _ ?_) | ((with_reducible refine bel_next (by assumption) ?_ ?_); focus (first | omega | (simp; done) | (simp; omega)))))⟩
  · obtain ⟨h1, h2, rfl, rfl⟩ := okP_facts ho
    have hbo := fun w => implPair_any x y F x y F' w lx ux ly uy lx ux ly uy
    rw [pairC_ok.1 ho] at hbo ⊢
    obtain ⟨a', b', ea, eb, _, _, _, _, hp', _⟩ := plateB_size h2
    obtain ⟨a, b, rfl, rfl, la, ha, lb, hb, hp, hz0⟩ := plateB_size h1
    obtain rfl : a = a' := by omega
    obtain rfl : b = b' := by omega
    have HP := Lib.hid hp
    have HP' := Lib.hid hp'
    clear hp hz0 hp' h1 h2 ho ea eb
    go_enter Tryz.func20, Tryz.ntmps20
    go_wp2_with (first | (go_at_call 56; (with_reducible refine (hbo _).mono ?_); rintro e w1 ⟨rfl, hb1⟩; have hz1 := hb1.size; (try simp at hz1); obtain ⟨hc1, hf1⟩ := bcell hb1) | (go_at_call 43; (with_reducible refine (freshDots_any 57 #[.pointer (some ⟨w.heap.size + 1, 0, none⟩)] (fun args w => by kernel_rfl) a b la ha lb hb F (fun i => overN (F i) (F' i)) _ (giveOver ha hb HP.out HP'.out _ (by first | omega | (simp; done) | (simp; omega)) (by repeat (first | (with_reducible assumption) | ((with_reducible refine blk_new _ _ _ ?_); focus (simp; done)) | ((with_reducible refine blk_old _ _ _ ?_ ?_); focus (simp; done)) | ((with_reducible refine blk_old _ _ _ ?_ ?_); focus (first | omega | (simp; omega))) | ((with_reducible apply blk_set); focus (simp; done)) | ((with_reducible refine blk_off _ _ _ _ ?_ ?_); focus (simp; done)) | ((with_reducible refine blk_offc _ _ _ _ ?_ ?_); focus (first | (simp; done) | omega | (simp; omega))) | ((with_reducible refine blk_off _ _ _ _ ?_ ?_); focus (first | omega | (simp; omega))) | (with_reducible refine blk_drew _ _ ?_) | ((with_reducible refine blk_below (by assumption) ?_ ?_); focus (simp; done)) | ((with_reducible refine blk_below (by assumption) ?_ ?_); focus (first | omega | (simp; omega))))))).mono ?_); rintro e w2 ⟨rfl, hb2⟩; have hz2 := hb2.size; (try simp at hz2)) | ((with_reducible refine at_store 29 ?_); refine wpList_store_part rfl 29 _ _ rfl _ 0 _ rfl rfl _ _ (by repeat (first | (with_reducible assumption) | ((with_reducible refine blk_new _ _ _ ?_); focus (simp; done)) | ((with_reducible refine blk_old _ _ _ ?_ ?_); focus (simp; done)) | ((with_reducible refine blk_old _ _ _ ?_ ?_); focus (first | omega | (simp; omega))) | ((with_reducible apply blk_set); focus (simp; done)) | ((with_reducible refine blk_off _ _ _ _ ?_ ?_); focus (simp; done)) | ((with_reducible refine blk_offc _ _ _ _ ?_ ?_); focus (first | (simp; done) | omega | (simp; omega))) | ((with_reducible refine blk_off _ _ _ _ ?_ ?_); focus (first | omega | (simp; omega))) | (with_reducible refine blk_drew _ _ ?_) | ((with_reducible refine blk_below (by assumption) ?_ ?_); focus (simp; done)) | ((with_reducible refine blk_below (by assumption) ?_ ?_); focus (first | omega | (simp; omega))))) (by rw [row_size]; kernel_rfl) (by simp [row_size]) (row_cells _ _ _ rfl) _ (row_over _ _ 64 _ _ (by simp)) ?_) | ((with_reducible refine at_load 29 ?_); refine wpList_load_part rfl 29 _ rfl _ 0 66 rfl _ _ _ _ (by repeat (first | (with_reducible assumption) | ((with_reducible refine blk_new _ _ _ ?_); focus (simp; done)) | ((with_reducible refine blk_old _ _ _ ?_ ?_); focus (simp; done)) | ((with_reducible refine blk_old _ _ _ ?_ ?_); focus (first | omega | (simp; omega))) | ((with_reducible apply blk_set); focus (simp; done)) | ((with_reducible refine blk_off _ _ _ _ ?_ ?_); focus (simp; done)) | ((with_reducible refine blk_offc _ _ _ _ ?_ ?_); focus (first | (simp; done) | omega | (simp; omega))) | ((with_reducible refine blk_off _ _ _ _ ?_ ?_); focus (first | omega | (simp; omega))) | (with_reducible refine blk_drew _ _ ?_) | ((with_reducible refine blk_below (by assumption) ?_ ?_); focus (simp; done)) | ((with_reducible refine blk_below (by assumption) ?_ ?_); focus (first | omega | (simp; omega))))) Tryz.underlying29 rfl (by kernel_rfl) (by simp [row_size]) _ (row_all [_, _] 64 _) ?_) | go_in)
    refine bodyPost_ret (v := .tuple #[.agg (plate a b (mapA a b (fun i => overN (F i) (F' i)) (fun _ => 0))), .int .i64 0]) ?_ ?_ ?_
    · refine results_row_tmp Tryz.results20 _ _ _ 29 (plate a b (mapA a b (fun i => overN (F i) (F' i)) (fun _ => 0))) (0, 0) _ _ rfl rfl ?_ Tryz.underlying29 rfl (by simp only [row_size]; kernel_rfl)
      exact (by repeat (first | (with_reducible assumption) | ((with_reducible refine blk_new _ _ _ ?_); focus (simp; done)) | ((with_reducible refine blk_old _ _ _ ?_ ?_); focus (simp; done)) | ((with_reducible refine blk_old _ _ _ ?_ ?_); focus (first | omega | (simp; omega))) | ((with_reducible apply blk_set); focus (simp; done)) | ((with_reducible refine blk_off _ _ _ _ ?_ ?_); focus (simp; done)) | ((with_reducible refine blk_offc _ _ _ _ ?_ ?_); focus (first | (simp; done) | omega | (simp; omega))) | ((with_reducible refine blk_off _ _ _ _ ?_ ?_); focus (first | omega | (simp; omega))) | (with_reducible refine blk_drew _ _ ?_) | ((with_reducible refine blk_below (by assumption) ?_ ?_); focus (simp; done)) | ((with_reducible refine blk_below (by assumption) ?_ ?_); focus (first | omega | (simp; omega)))))
    · rfl
    · exact ⟨rfl, (by repeat (first | (with_reducible assumption) | (with_reducible exact Below.refl _ _) | ((with_reducible refine bel_alloc _ ?_ ?_); focus (first | omega | (simp; done) | (simp; omega))) | ((with_reducible refine bel_row _ ?_ ?_); focus (first | omega | (simp; done) | (simp; omega))) | ((with_reducible refine bel_cell _ ?_ ?_); focus (first | omega | (simp; done) | (simp; omega))) | (with_reducible refine Below.drew ?_) | (with_reducible refine below_wideW _ ?_) | ((with_reducible refine bel_next (by assumption) ?_ ?_); focus (first | omega | (simp; done) | (simp; omega)))))⟩

end Go.Proofs.YtekfmjddlemboaaGreatDoor

/-! A region that draws its order, walked by hand: reads first, then calls and stores that can come in one order alone. -/
set_option linter.unusedVariables false
set_option linter.unusedSimpArgs false
namespace Go.Proofs.YtekfmjddlemboaaGreatDoor
open Go.RowKit Ieee

section
variable {P : Program} {ops : Array Oper} {Q : Exit → Act → World → Prop} {md : Region.Mode} {S : World → Prop}
theorem wanted_none {o : Oper} (h : o.guard = none) (l : Nat → Option Bool) : Region.wanted o l = true := by simp [Region.wanted, h]
/-- Any operation that yields, taken first. -/
theorem held_yield {fuel : Nat} {listed : Array Bool} {a : Act} {w : World} (i : Nat) {o : Oper} (hi : ops[i]? = some o) (hgd : o.guard = none)
    (hs : Region.noSelect ops = true) (hf : Region.free md ops listed i = true) (hr : (Region.ready md ops listed).contains i = true)
    (hQ : ∀ v c a w, Q (.panic c) (a.put o.dst v) w → Q (.panic c) a w) (v : Value)
    (hy : ∀ w, S w → (execOp a.eval o).run P w = .ok (.value v) w) (hS : S w)
    (h : wpAnyH P md ops Q S fuel (listed.setIfInBounds i true) (a.put o.dst v) w) : wpAnyH P md ops Q S (fuel + 1) listed a w :=
  wpAnyH_take hi hs hf hr (hQ _) (Or.inl ⟨wanted_none hgd _, hy⟩) hS h
/-- The one that may come up, carried out. -/
theorem held_one {fuel : Nat} {listed : Array Bool} {a : Act} {w : World} (i : Nat) {o : Oper} (hr : Region.ready md ops listed = [i]) (hi : ops[i]? = some o) (hgd : o.guard = none)
    (h : o.wp P a w (fun a' w' => S w' ∧ wpAnyH P md ops Q S fuel (listed.setIfInBounds i true) a' w') Q) : wpAnyH P md ops Q S (fuel + 1) listed a w := by
  refine wpAnyH_all hr (by simp) (fun j hj => ?_)
  obtain rfl : j = i := by simpa using hj
  unfold wpOp
  simp only [hi, wanted_none hgd, if_true]
  exact Or.inl h
end
end Go.Proofs.YtekfmjddlemboaaGreatDoor

/-! A region that draws, walked by hand: two that may come up, and a merging of all orders. -/
set_option linter.unusedVariables false
set_option linter.unusedSimpArgs false
namespace Go.Proofs.YtekfmjddlemboaaGreatDoor
open Go.RowKit Ieee

section
variable {P : Program} {ops : Array Oper} {Q : Exit → Act → World → Prop} {md : Region.Mode} {S : World → Prop}
theorem oper_call {o : Oper} {a : Act} {w : World} {K : Act → World → Prop} (f : FuncId) (args : Array Value) (he : (execOp a.eval o).run P w = .ok (.enter f args) w) {R : Value → World → Prop} (hc : Calls P f args w fun e w' => ∃ v, e = .returned v ∧ R v w')
    (h : ∀ v w', R v w' → K (a.put o.dst v) w') : o.wp P a w K Q := by
  unfold Oper.wp
  rw [he, Oper.upon_enter]
  refine hc.mono fun e w' h' => ?_
  obtain ⟨v, rfl, h2⟩ := h'
  exact h v w' h2
/-- All orders of a region end alike: what follows is walked once. -/
theorem region_merge {id : Nat} {a : Act} {w : World} (R : Act → Act → World → Prop) (h1 : (Code.region id ops true).wp P (fun x a' w' => x = .normal ∧ R a a' w') a w) (h2 : ∀ a' w', R a a' w' → Q .normal a' w') : (Code.region id ops true).wp P Q a w :=
  Code.wp_mono (fun x a' w' h => by obtain ⟨rfl, h⟩ := h; exact h2 _ _ h) h1
end
end Go.Proofs.YtekfmjddlemboaaGreatDoor

/-! The law on ZoneTrains. -/
set_option linter.unusedVariables false
set_option linter.unusedSimpArgs false
namespace Go.Proofs.YtekfmjddlemboaaGreatDoor
open Go.RowKit Ieee
/-- Behind a piece of a walk all older blocks are as they were. -/
def Kept (B : Nat) (w0 wr w' : World) : Prop := (∀ i, i < wr.heap.size → w'.heap[i]? = wr.heap[i]?) ∧ wr.heap.size ≤ w'.heap.size ∧ Below B w0 w'
theorem Kept.refl {B : Nat} {w0 wr : World} (h : Below B w0 wr) : Kept B w0 wr wr := ⟨fun _ _ => rfl, Nat.le_refl _, h⟩
theorem Kept.drew {B : Nat} {w0 wr w' : World} (h : Kept B w0 wr w') : Kept B w0 wr w'.drew := ⟨h.1, h.2.1, Below.drew h.2.2⟩
theorem Kept.call {B : Nat} {w0 wr W W2 : World} (h : Kept B w0 wr W) (hB : B ≤ wr.heap.size) (hb : Below W.heap.size W W2) : Kept B w0 wr W2 :=
  ⟨fun i hi => (hb.block i (Nat.lt_of_lt_of_le hi h.2.1)).trans (h.1 i hi), Nat.le_trans h.2.1 hb.size, bel_next hb (Nat.le_trans hB h.2.1) h.2.2⟩
theorem Kept.alloc {B : Nat} {w0 wr W : World} (h : Kept B w0 wr W) (hB : B ≤ wr.heap.size) (o : Obj) : Kept B w0 wr (W.alloc o) :=
  ⟨fun i hi => blk_old _ _ _ (Nat.lt_of_lt_of_le hi h.2.1) (h.1 i hi), by have := h.2.1; simp; omega, bel_alloc o (Nat.le_trans hB h.2.1) h.2.2⟩
theorem Kept.row {B : Nat} {w0 wr W : World} (h : Kept B w0 wr W) (hB : B ≤ wr.heap.size) {g : Nat} (hg : wr.heap.size ≤ g) (cs : Array Value) : Kept B w0 wr (W.setRow g cs) :=
  ⟨fun i hi => blk_off _ _ _ _ (by omega) (h.1 i hi), by have := h.2.1; simp; omega, bel_row cs (Nat.le_trans hB hg) h.2.2⟩

end Go.Proofs.YtekfmjddlemboaaGreatDoor

/-! Contracts of TurnsUntilSteady, and the law on it. -/
set_option linter.unusedVariables false
set_option linter.unusedSimpArgs false
namespace Go.Proofs.YtekfmjddlemboaaGreatDoor
open Go.RowKit Ieee

def leF (a b : Nat) : Bool := FloatKind.f32.format.order a b == some .lt || FloatKind.f32.format.order a b == some .eq
end Go.Proofs.YtekfmjddlemboaaGreatDoor

/-! The frame of a law's proof: arguments that were read before the call read so behind it, where below the old heap nothing has turned. -/
namespace Go.Proofs.YtekfmjddlemboaaGreatDoor
open Go.ChangeShapes Go.WideShapes Go.ChangeAt Go.RowKit

theorem Tryz.own : ownKnob Tryz.prog.godebug = none := by kernel_rfl
theorem Tryz.laidOut : laidOutB Tryz.prog = true := by kernel_rfl

section
variable {H : Type} {enc : TypeId × Value → H} {P : Program}
theorem carry_all (hl : laidOutB P = true) {W W' : World} (hb : Below W.heap.size W W') : ∀ {ts : List TypeId} {vs : List Value} {ds : List (DataW H)} {ps : List MemPlace},
    (ts.all fun t => P.readableRec t && decide (t < P.types.size)) = true → DataW.TrodAll enc P W 0 (fun _ => true) true ts vs ds ps → (∀ x ∈ ps, x.block < W.heap.size) →
    DataW.TrodAll enc P W' 0 (fun b => decide (b < W.heap.size)) true ts vs ds ps
  | [], vs, ds, ps, _, h, _ => by
    obtain ⟨rfl, rfl, rfl⟩ := trodAll_nil h
    exact trodAll_mk0
  | t :: ts, vs, ds, ps, hr, h, hlt => by
    obtain ⟨v, vs', d, ds', p, q, rfl, rfl, rfl, h1, h2⟩ := trodAll_cons h
    simp only [List.all_cons, Bool.and_eq_true, decide_eq_true_eq] at hr
    exact ⟨p, q, Below.trod hl hr.1.1 hr.1.2 h1 hb (fun x hx => hlt x (by simp [hx])), carry_all hl hb hr.2 h2 (fun x hx => hlt x (by simp [hx])), rfl⟩

theorem law_post {f : Func} {s : ChangeSpec} {W W' : World} {args : Array Value} {ds gs : List (DataW H)} {before : List MemPlace} {tb : TypeId} (hl : laidOutB P = true)
    (hW : DataW.Whole enc P f.params.toList s.vars false W args.toList ds gs before) (hb : Below W.heap.size W W') (hrt : f.resultTypes = #[tb]) (htb : P.underlying tb = some .bool)
    (hvars : s.vars = []) (hs : s.fn H (ds ++ gs) = { results := [.lit (.bool true)], args := ds }) (hts : (f.params.toList.all fun t => P.readableRec t && decide (t < P.types.size)) = true) :
    s.post enc P f false true false false W args (.bool true) W' := by
  have hW' := hW
  obtain ⟨p, q, hA, hV, rfl, hfz, hnd⟩ := hW
  rw [hvars] at hV
  obtain ⟨rfl, rfl⟩ := trodVars_none hV
  refine ⟨ds, [], _, [], p, [], hW', ?_, ?_, ?_, hb.frame _, fun h => by cases h⟩
  · rw [hs, hrt]
    exact trodAll_mk1 (shut_bool htb true)
  · rw [hs]
    exact carry_all hl hb hts hA (fun x hx => hW'.lt x (by simp [hx]))
  · rw [hs, hvars]
    rfl

end
end Go.Proofs.YtekfmjddlemboaaGreatDoor

/-! Contracts of a source of numbers: next, pick and one; each under its own premises. -/
set_option linter.unusedVariables false
set_option linter.unusedSimpArgs false
namespace Go.Proofs.YtekfmjddlemboaaGreatDoor
open Go.RowKit Ieee

/-- A slice of bytes whose places lie below a block. -/
def BytesAt (w : World) (base : Nat) (ao : Option Addr) (n : Nat) : Prop := n ≤ maxLen ∧ (0 < n → ∃ a : Addr, ao = some a ∧ a.block < base ∧ ∀ i : Nat, i < n → ∃ x : Int, w.cell? (a.add i) = some (.int .u8 x) ∧ 0 ≤ x ∧ x < 256)
/-- A source with at most k numbers taken. -/
def Src (w : World) (b k : Nat) (ao : Option Addr) (n cap : Nat) : Prop := ∃ (p : Nat) (sd : Int), p ≤ k ∧ w.heap[b]? = some (.cells #[.slice ao n cap, .int .i64 p, .int .u64 sd] 94 (0, 0))
/-- Nothing but one block is another. -/
def Moved (b : Nat) (w w' : World) : Prop := Below b w w' ∧ (∀ i, i ≠ b → w'.heap[i]? = w.heap[i]?) ∧ w'.heap.size = w.heap.size

theorem mask_small (y : Nat) (h : y < 2 ^ 64) : Go.bits .and .u64 (y : Int) 255 = ((y % 256 : Nat) : Int) := by
  have := u64_and_nat y 255 (by omega) (by omega)
  rw [nat_mask8] at this
  exact this
theorem wrap_nat (x : Int) : ∃ y : Nat, IntKind.u64.wrap x = (y : Int) ∧ y < 2 ^ 64 := by
  have h1 : IntKind.u64.wrap x = x % 18446744073709551616 := rfl
  exact ⟨(IntKind.u64.wrap x).toNat, by rw [h1]; omega, by rw [h1]; omega⟩
theorem mask_any (z : Int) : ∃ x : Int, wrap64 (Go.bits .and .u64 (IntKind.u64.wrap z / 1099511627776) 255) = x ∧ 0 ≤ x ∧ x < 256 := by
  obtain ⟨y, hy, hl⟩ := wrap_nat z
  rw [hy, show (y : Int) / 1099511627776 = ((y / 1099511627776 : Nat) : Int) from by omega, mask_small _ (by omega)]
  refine ⟨((y / 1099511627776 % 256 : Nat) : Int), ?_, by omega, by omega⟩
  unfold wrap64
  omega
theorem src_two {b p k n cap : Nat} {ao : Option Addr} {sd : Int} {w : World} (hp : p ≤ k) (hB : w.heap[b]? = some (.cells #[.slice ao n cap, .int .i64 p, .int .u64 sd] 94 (0, 0))) (m1 m2 : Nat) (q : Int) (hq : q = (p : Int) + 1) (y : Int) :
    Src ((((w.drewN m1).setCell ⟨b, 1, none⟩ (.int .i64 q)).setCell ⟨b, 2, none⟩ (.int .u64 y)).drewN m2) b (k + 1) ao n cap ∧ Moved b w ((((w.drewN m1).setCell ⟨b, 1, none⟩ (.int .i64 q)).setCell ⟨b, 2, none⟩ (.int .u64 y)).drewN m2) := by
  subst hq
  have h0 : (w.drewN m1).heap[b]? = some (.cells #[.slice ao n cap, .int .i64 p, .int .u64 sd] 94 (0, 0)) := hB
  have h1 : ((w.drewN m1).setCell ⟨b, 1, none⟩ (.int .i64 (p + 1))).heap[b]? = some (.cells #[.slice ao n cap, .int .i64 (p + 1), .int .u64 sd] 94 (0, 0)) := by
    rw [heap_setCell_same _ b _ _ _ _ h0]; rfl
  have h2 : (((w.drewN m1).setCell ⟨b, 1, none⟩ (.int .i64 (p + 1))).setCell ⟨b, 2, none⟩ (.int .u64 y)).heap[b]? = some (.cells #[.slice ao n cap, .int .i64 (p + 1), .int .u64 y] 94 (0, 0)) := by
    rw [heap_setCell_same _ b _ _ _ _ h1]; rfl
  refine ⟨⟨p + 1, y, by omega, h2⟩, ?_, ?_, ?_⟩
  · exact bel_drewN _ (((bel_drewN m1 (Below.refl b w)).setCell (Nat.le_refl b) _).setCell (Nat.le_refl b) _)
  · intro i hi
    show (((w.drewN m1).setCell ⟨b, 1, none⟩ (.int .i64 (p + 1))).setCell ⟨b, 2, none⟩ (.int .u64 y)).heap[i]? = _
    rw [heap_setCell_other _ _ i _ hi, heap_setCell_other _ _ i _ hi]
    rfl
  · show (((w.drewN m1).setCell ⟨b, 1, none⟩ (.int .i64 (p + 1))).setCell ⟨b, 2, none⟩ (.int .u64 y)).heap.size = _
    simp
theorem next_any (b k : Nat) (ao : Option Addr) (n cap : Nat) (w : World) (hk : k < 4611686018427387904) (hs : Src w b k ao n cap) (hb : BytesAt w b ao n) :
    Calls Tryz.prog 84 #[.pointer (some ⟨b, 0, none⟩)] w fun e w' => ∃ x : Int, e = .returned (.int .i64 x) ∧ 0 ≤ x ∧ x < 256 ∧ Src w' b (k + 1) ao n cap ∧ Moved b w w' := by
  obtain ⟨p, sd, hp, hB⟩ := hs
  obtain ⟨hm, hy⟩ := hb
  have c0 : w.cell? ⟨b, 0, none⟩ = some (.slice ao n cap) := cell_of_row w b 0 _ _ _ hB
  have c1 : w.cell? ⟨b, 1, none⟩ = some (.int .i64 p) := cell_of_row w b 1 _ _ _ hB
  have c2 : w.cell? ⟨b, 2, none⟩ = some (.int .u64 sd) := cell_of_row w b 2 _ _ _ hB
  have f1 : w.frozen? ⟨b, 1, none⟩ = false := by simp [World.frozen?, hB]
  have f2 : w.frozen? ⟨b, 2, none⟩ = false := by simp [World.frozen?, hB]
  by_cases hlt : p < n
  · obtain ⟨a, rfl, hab, hx⟩ := hy (by omega)
    obtain ⟨x, hxc, hx0, hx9⟩ := hx p hlt
    go_enter Tryz.func84, Tryz.ntmps84
    go_wp2
    go_quiet (fail)
    go_wp2
    go_quiet (fail)
    go_wp2
    go_quiet (fail)
    go_wp2
    go_ret
    exact ⟨x, rfl, hx0, hx9, src_two hp hB _ _ _ rfl _⟩
  · go_enter Tryz.func84, Tryz.ntmps84
    go_wp2
    go_quiet (fail)
    go_wp2
    go_quiet (fail)
    go_wp2
    obtain ⟨x, hx, hx0, hx9⟩ := mask_any (IntKind.u64.wrap (IntKind.u64.wrap (sd * 6364136223846793005)) + 1442695040888963407)
    rw [hx]
    go_ret
    exact ⟨x, rfl, hx0, hx9, src_two hp hB _ _ _ rfl _⟩
theorem Src.le {w : World} {b k k' : Nat} {ao : Option Addr} {n cap : Nat} (h : Src w b k ao n cap) (hk : k ≤ k') : Src w b k' ao n cap := by
  obtain ⟨p, sd, h1, h2⟩ := h
  exact ⟨p, sd, by omega, h2⟩
theorem Moved.trans {b : Nat} {w w1 w2 : World} (h : Moved b w w1) (h2 : Moved b w1 w2) : Moved b w w2 :=
  ⟨h.1.trans h2.1, fun i hi => (h2.2.1 i hi).trans (h.2.1 i hi), h2.2.2.trans h.2.2⟩
theorem Moved.bytes {b base : Nat} {w w1 : World} {ao : Option Addr} {n : Nat} (h : Moved b w w1) (hb : BytesAt w base ao n) (hl : base ≤ b) : BytesAt w1 base ao n := by
  refine ⟨hb.1, fun hn => ?_⟩
  obtain ⟨a, ha, hlt, hx⟩ := hb.2 hn
  refine ⟨a, ha, hlt, fun i hi => ?_⟩
  obtain ⟨x, h1, h2⟩ := hx i hi
  refine ⟨x, ?_, h2⟩
  rw [h.1.cell (p := a.add i) (by rw [show (a.add i).block = a.block from by unfold Addr.add; split <;> rfl]; exact Nat.lt_of_lt_of_le hlt hl)]
  exact h1
theorem pick_any (b k : Nat) (ao : Option Addr) (n cap : Nat) (m : Int) (w : World) (h1 : 1 < m) (h9 : m < 1099511627776) (hk : k < 2305843009213693952) (hs : Src w b k ao n cap) (hb : BytesAt w b ao n) :
    Calls Tryz.prog 67 #[.pointer (some ⟨b, 0, none⟩), .int .i64 m] w fun e w' => ∃ x : Int, e = .returned (.int .i64 x) ∧ 0 ≤ x ∧ x < m ∧ Src w' b (k + 2) ao n cap ∧ Moved b w w' := by
  go_enter Tryz.func67, Tryz.ntmps67
  go_wp2_with (fail)
  refine (next_any b k ao n cap _ (by omega) hs hb).mono ?_
  rintro e w1 ⟨x, rfl, hx0, hx9, hs1, hm1⟩
  by_cases hc : 200 < m
  · go_wp2_with (fail)
    refine (next_any b (k + 1) ao n cap _ (by omega) hs1 (hm1.bytes hb (Nat.le_refl _))).mono ?_
    rintro e w2 ⟨y, rfl, hy0, hy9, hs2, hm2⟩
    go_wp2
    go_ret
    exact ⟨_, rfl, Int.emod_nonneg _ (by omega), Int.emod_lt_of_pos _ (by omega), hs2, hm1.trans hm2⟩
  · go_wp2
    go_ret
    exact ⟨_, rfl, Int.emod_nonneg _ (by omega), Int.emod_lt_of_pos _ (by omega), hs1.le (by omega), hm1⟩
end Go.Proofs.YtekfmjddlemboaaGreatDoor

/-! What is true of trains of small films, in plain arithmetic: no turn of the first two thousand makes a train that is not valid; what is steady, washed, thickest, falling, longer, mixed; each under its own premises. -/
set_option linter.unusedVariables false
set_option linter.unusedSimpArgs false
namespace Go.Proofs.YtekfmjddlemboaaGreatDoor
open Go.RowKit Ieee

/-- A film of at most eight. -/
abbrev Small (a : Nat) : Prop := Up 1090519040 a
/-! ### numbers on a grid -/
theorem grid (q e : Nat) (hq : q < 2 ^ 24) (he : e ≤ 200) : ∃ c, Fin32 c ∧ Z32 c = ((q * 2 ^ e : Nat) : Int) := by
  have hb : q < 2 * single.binade := hq
  have hlt : q * 2 ^ e < Flt.U single single.infRung := by
    rw [Flt.single_inf]
    have h1 : q * 2 ^ e ≤ q * 2 ^ 200 := Nat.mul_le_mul_left _ (Nat.pow_le_pow_right (by decide) he)
    have h2 : q * 2 ^ 200 < 2 ^ 24 * 2 ^ 200 := Nat.mul_lt_mul_of_pos_right hq (Nat.two_pow_pos 200)
    have h3 : 2 ^ (24 + 200) ≤ 2 ^ Flt.eS := Nat.pow_le_pow_right (by decide) (by rw [Flt.eS_eq]; omega)
    rw [Nat.pow_add] at h3
    omega
  have hU := Flt.G_short single (q := q) (e := e) hb (Nat.le_of_lt hlt)
  have hG : Flt.G single (q * 2 ^ e) 0 ≤ single.infRung := by unfold Flt.G; omega
  have hne : Flt.G single (q * 2 ^ e) 0 ≠ single.infRung := fun h => by rw [h] at hU; omega
  have hs := Flt.infRung_lt' single
  refine ⟨single.word false (Flt.G single (q * 2 ^ e) 0), ?_, ?_⟩
  · show Flt.rung single _ < _
    rw [Flt.rung_word single false (by omega)]; omega
  · show Flt.Z single _ = _
    rw [Flt.Z_word single false (by omega), hU]
    rfl

/-! ### the sum of the films -/
/-! ### turns -/
/-! ### steady -/
theorem leF_iff {a b : Nat} (hb : ¬ Flt.NaN single b) : leF a b = true ↔ ¬ Flt.NaN single a ∧ Z32 a ≤ Z32 b := by
  unfold leF
  rw [ord_le hb]
  exact decide_eq_true_iff
end Go.Proofs.YtekfmjddlemboaaGreatDoor

/-! Contracts of the draws: a part, a film, a train; each under its own premises. -/
set_option linter.unusedVariables false
set_option linter.unusedSimpArgs false
namespace Go.Proofs.YtekfmjddlemboaaGreatDoor
open Go.RowKit Ieee

theorem cvt_Z (n : Nat) (hn : n < 2 ^ 24) : Fin32 (floatOfInt .f32 (n : Int)) ∧ Z32 (floatOfInt .f32 (n : Int)) = ((n * 2 ^ 149 : Nat) : Int) := by
  have hq : n < 2 * single.binade := hn
  have hlt : n * 2 ^ 149 < Flt.U single single.infRung := by
    rw [Flt.single_inf]
    have h2 : n * 2 ^ 149 < 2 ^ 24 * 2 ^ 149 := Nat.mul_lt_mul_of_pos_right hn (Nat.two_pow_pos 149)
    have h3 : 2 ^ (24 + 149) ≤ 2 ^ Flt.eS := Nat.pow_le_pow_right (by decide) (by rw [Flt.eS_eq]; omega)
    rw [Nat.pow_add] at h3
    omega
  have hU := Flt.G_short single (q := n) (e := 149) hq (Nat.le_of_lt hlt)
  have hG : Flt.G single (n * 2 ^ 149) 0 ≤ single.infRung := by unfold Flt.G; omega
  have hne : Flt.G single (n * 2 ^ 149) 0 ≠ single.infRung := fun h => by rw [h] at hU; omega
  have hs := Flt.infRung_lt' single
  have he : floatOfInt .f32 (n : Int) = single.word false (Flt.G single (n * 2 ^ 149) 0) := by
    show single.write (.number (decide ((n : Int) < 0)) (n : Int).natAbs 0) = _
    have hd : decide ((n : Int) < 0) = false := by simp
    have ha : (n : Int).natAbs = n := by simp
    rw [hd, ha]
    simp only [Format.write]
    rw [Flt.nearest_eq single _ _ _ 149 0 (by decide)]
  rw [he]
  refine ⟨?_, ?_⟩
  · show Flt.rung single _ < _
    rw [Flt.rung_word single false (by omega)]; omega
  · show Flt.Z single _ = _
    rw [Flt.Z_word single false (by omega), hU]
    rfl
theorem quo_up {n m y c : Nat} {q : Int} (hn : n < 2 ^ 24) (hy : Fin32 y) (hm : 0 < m) (hZ : Z32 y = ((m * 2 ^ 149 : Nat) : Int)) (hc : Fin32 c) (hq : Z32 c = q * 2 ^ 149) (q0 : 0 ≤ q) (q9 : q ≤ 1024) (hle : (n : Int) ≤ q * m) : Up c (fdiv (floatOfInt .f32 (n : Int)) y) := by
  obtain ⟨f, z⟩ := cvt_Z n hn
  have hp : 0 < Z32 y := by rw [hZ]; have := Nat.two_pow_pos 149; exact_mod_cast Nat.mul_pos hm this
  have n0 : Z32 y ≠ 0 := by omega
  have z0 : 0 ≤ Z32 (floatOfInt .f32 (n : Int)) := by rw [z]; omega
  have c0 : 0 ≤ Z32 c := by rw [hq]; exact Int.mul_nonneg q0 (by decide)
  have h1 : Z32 (fdiv (floatOfInt .f32 (n : Int)) y) ≤ Z32 c := by
    refine fdiv_le f hy z0 hp hc c0 ?_
    rw [z, hZ, hq]
    have h := Int.mul_le_mul_of_nonneg_right hle (show (0 : Int) ≤ 2 ^ 149 * 2 ^ 149 by decide)
    have e1 : ((n * 2 ^ 149 : Nat) : Int) * 2 ^ 149 = (n : Int) * (2 ^ 149 * 2 ^ 149) := by rw [Int.natCast_mul, Int.natCast_pow, Int.mul_assoc]; rfl
    have e2 : q * 2 ^ 149 * ((m * 2 ^ 149 : Nat) : Int) = q * (m : Int) * (2 ^ 149 * 2 ^ 149) := by
      rw [Int.natCast_mul, Int.natCast_pow]
      show q * 2 ^ 149 * ((m : Int) * 2 ^ 149) = _
      ac_rfl
    rw [e1, e2]
    exact h
  have h0 : 0 ≤ Z32 (fdiv (floatOfInt .f32 (n : Int)) y) := by
    have := fdiv_ge f hy z0 hp (c := 0) (by decide) (by rw [Z_zero]; omega) (by rw [Z_zero, Int.zero_mul]; omega)
    rwa [Z_zero] at this
  have hc9 : Z32 c ≤ 2 ^ 159 := by rw [hq]; omega
  exact ⟨fin_of (num_fdiv f hy n0) (by omega) (by omega), h0, h1⟩
theorem quo_fin {n : Nat} (hn : n < 2 ^ 24) : Fin32 (floatOfInt .f32 (n : Int)) := (cvt_Z n hn).1
theorem Z_16 : Z32 1098907648 = ((16 * 2 ^ 149 : Nat) : Int) := by decide +kernel
theorem Z_1000 : Z32 1148846080 = ((1000 * 2 ^ 149 : Nat) : Int) := by decide +kernel
theorem Z_meg : Z32 1233125376 = ((1048576 * 2 ^ 149 : Nat) : Int) := by decide +kernel
theorem Z_1 : Z32 1065353216 = 1 * 2 ^ 149 := by decide +kernel
theorem up_part {a : Nat} (h : Up 1065353216 a) : partB a = true := (part_iff a).2 ⟨fin_nan h.1, h.2.1, by rw [← Z_one]; exact h.2.2⟩
theorem ne_16 : Z32 1098907648 ≠ 0 := by decide +kernel
theorem ne_1000 : Z32 1148846080 ≠ 0 := by decide +kernel
theorem ne_meg : Z32 1233125376 ≠ 0 := by decide +kernel
end Go.Proofs.YtekfmjddlemboaaGreatDoor

/-! Contracts of SameTrain, the reference's, of numbers of any size; each under its own premises. -/
set_option linter.unusedVariables false
set_option linter.unusedSimpArgs false
namespace Go.Proofs.YtekfmjddlemboaaGreatDoor
open Go.RowKit Ieee
theorem sameN_self (a : Nat) : sameN a a = true := by
  unfold sameN
  split
  · rename_i h
    have : Flt.NaN Ieee.single a := by rcases h with h | h <;> exact h
    simp [this]
  · simp
theorem sameTo_eq {F G : Nat → Nat} : ∀ n, (∀ i, i < n → F i = G i) → sameTo F G n = true
  | 0, _ => rfl
  | n + 1, h => by
    show (sameTo F G n && sameN (F n) (G n)) = true
    rw [sameTo_eq n (fun i hi => h i (by omega)), h n (by omega), sameN_self]
    rfl
end Go.Proofs.YtekfmjddlemboaaGreatDoor

/-! Contracts of the draw of a train, and of A2Train, A2Film and A2Part; each under its own premises. -/
set_option linter.unusedVariables false
set_option linter.unusedSimpArgs false
namespace Go.Proofs.YtekfmjddlemboaaGreatDoor
open Go.RowKit Ieee

theorem bytes_below {b : Nat} {w w1 : World} {ao : Option Addr} {n : Nat} (h : Below b w w1) (hb : BytesAt w b ao n) : BytesAt w1 b ao n := by
  refine ⟨hb.1, fun hn => ?_⟩
  obtain ⟨a, ha, hlt, hx⟩ := hb.2 hn
  refine ⟨a, ha, hlt, fun i hi => ?_⟩
  obtain ⟨x, h1, h2⟩ := hx i hi
  refine ⟨x, ?_, h2⟩
  rw [h.cell (p := a.add i) (by rw [show (a.add i).block = a.block from by unfold Addr.add; split <;> rfl]; exact hlt)]
  exact h1
end Go.Proofs.YtekfmjddlemboaaGreatDoor

/-! Contracts of A2Train, A2Film, A2Part and of the test for too many bytes; each under its own premises. -/
set_option linter.unusedVariables false
set_option linter.unusedSimpArgs false
namespace Go.Proofs.YtekfmjddlemboaaGreatDoor
open Go.RowKit Ieee

theorem bytes_wide {b b' : Nat} {w : World} {ao : Option Addr} {n : Nat} (hb : BytesAt w b ao n) (h : b ≤ b') : BytesAt w b' ao n := by
  refine ⟨hb.1, fun hn => ?_⟩
  obtain ⟨a, ha, hlt, hx⟩ := hb.2 hn
  exact ⟨a, ha, by omega, hx⟩
theorem from_any (ao : Option Addr) (n cap : Nat) (w : World) : Calls Tryz.prog 34 #[.slice ao n cap] w fun e w' => e = .returned (.pointer (some ⟨w.heap.size, 0, none⟩)) ∧ w' = w.alloc (.cells #[.slice ao n cap, .int .i64 0, .int .u64 0] 94) := by
  go_enter Tryz.func34, Tryz.ntmps34
  go_wp2
  go_ret
  exact ⟨rfl, rfl⟩

theorem a2Long_any (ao ao' : Option Addr) (n cap n' cap' : Nat) (w : World) (h1 : n ≤ maxLen) (h2 : n' ≤ maxLen) : Calls Tryz.prog 4 #[.slice ao n cap, .slice ao' n' cap'] w fun e w' => e = .returned (.bool (decide (3000 < n) || decide (3000 < n'))) ∧ w = w' := by
  by_cases hn : 3000 < n
  · go_enter Tryz.func4, Tryz.ntmps4
    go_wp2
    go_ret
    exact ⟨by simp [hn], rfl⟩
  · by_cases hm : 3000 < n'
    · go_enter Tryz.func4, Tryz.ntmps4
      go_wp2
      go_ret
      exact ⟨by simp [hm]; omega, rfl⟩
    · go_enter Tryz.func4, Tryz.ntmps4
      go_wp2
      go_ret
      exact ⟨by simp [hn, hm]; omega, rfl⟩
end Go.Proofs.YtekfmjddlemboaaGreatDoor

/-! Contracts of what FnSteady calls, of trains of small films; each under its own premises. -/
set_option linter.unusedVariables false
set_option linter.unusedSimpArgs false
namespace Go.Proofs.YtekfmjddlemboaaGreatDoor
open Go.RowKit Ieee

theorem size_abs {v wi : Nat} (hv : ¬ Flt.NaN single v) (hw : ¬ Flt.NaN single wi) : leF (sizeS v) wi = leF (absN v) wi := by
  unfold sizeS
  cases hc : (FloatKind.f32.format.order v 0 == some .lt)
  · have hz : 0 ≤ Z32 v := by
      rw [order_Z hv (by decide)] at hc
      rcases Int.lt_trichotomy (Z32 v) 0 with h | h | h
      · rw [show Z32 0 = 0 from Z_zero, Int.compare_eq_lt.2 h] at hc; simp at hc
      · omega
      · omega
    have h1 := leF_iff (a := v) hw
    have h2 := leF_iff (a := absN v) hw
    rw [abs_Z_pos hz] at h2
    have hn := absN_num hv
    simp only [Bool.false_eq_true, if_false]
    cases h3 : leF v wi <;> cases h4 : leF (absN v) wi <;> simp_all <;> omega
  · simp
theorem near_q {a b wi : Nat} {v : Bool} (ha : Fin32 a) (hb : Fin32 b) (hd : Fin32 (fsub a b)) (hw : ¬ Flt.NaN single wi) (h : leF (absN (fsub a b)) wi = v) (w : World) (n : Nat) :
    Calls Tryz.prog 30 #[.float .f32 a, .float .f32 b, .float .f32 wi] (w.drewN n) fun e w' => e = .returned (.bool v) ∧ ∃ m, w' = w.drewN m := by
  have e1 := fun w => run_fsub (P := Tryz.prog) w 25 ha hb
  have hn := fin_nan hd
  have hl := fsub_lt ha hb
  rw [← size_abs hn hw] at h
  unfold leF at h
  go_enter Tryz.func30, Tryz.ntmps30
  go_wp2_with (fail)
  refine (specSize_q hn hl w n).mono ?_
  rintro e w1 ⟨rfl, m, rfl⟩
  go_wp2
  go_ret
  exact ⟨by simp, m, rfl⟩
set_option maxHeartbeats 1600000 in
theorem a2same_any (G : Nat → Nat) (b b' c c' : Nat) (w : World) (hc : ∀ i : Nat, i < 8 → w.cell? ⟨b, i, none⟩ = some (.float .f32 (G i))) (hc' : ∀ i : Nat, i < 8 → w.cell? ⟨b', i, none⟩ = some (.float .f32 (G i))) :
    Calls Tryz.prog 54 #[.slice (some ⟨b, 0, none⟩) 8 c, .slice (some ⟨b', 0, none⟩) 8 c'] w fun e w' => e = .returned (.bool true) ∧ ∃ m, w' = w.drewN m := by
  have HC := Lib.hid hc
  have HC' := Lib.hid hc'
  clear hc hc'
  go_enter Tryz.func54, Tryz.ntmps54
  go_wp2
  go_loopw [5] (fun i wr => ∃ k m : Nat, k ≤ 8 ∧ i = .int .i64 k ∧ wr = w.drewN m) (fun i _ => 8 - (intOf i).toNat)
  case atStart => exact ⟨0, 0, by omega, rfl, rfl⟩
  case round =>
    obtain ⟨k, m, hk, rfl, hwr⟩ := hrel
    by_cases hlt : k < 8
    · have ca : wr.cell? ⟨b, k, none⟩ = some (.float .f32 (G k)) := by rw [hwr]; exact HC.out k hlt
      have cb : wr.cell? ⟨b', k, none⟩ = some (.float .f32 (G k)) := by rw [hwr]; exact HC'.out k hlt
      have hk2 : sameN (G k) (G k) = true := sameN_self _
      have HW := Lib.hid hwr
      clear hwr
      go_wp2
      go_quiet ((go_at_call 55; with_reducible exact specSame_q hk2 _ _))
      go_wp2
      go_roundw
      case rel => exact ⟨k + 1, _, by omega, by go_num, by rw [HW.out, World.drewN_drewN]⟩
      case measure => simp [intOf]; omega
    · obtain rfl : k = 8 := by omega
      have HW := Lib.hid hwr
      clear hwr
      go_wp2
      go_ret
      exact ⟨rfl, m, HW.out⟩

end Go.Proofs.YtekfmjddlemboaaGreatDoor

/-! More that is true of trains of small films: the thickest roller, washed films, halves between two films, the lesser and the greater of two; each under its own premises. -/
set_option linter.unusedVariables false
set_option linter.unusedSimpArgs false
namespace Go.Proofs.YtekfmjddlemboaaGreatDoor
open Go.RowKit Ieee

theorem gt_no {a b : Nat} (ha : ¬ Flt.NaN single a) (hb : ¬ Flt.NaN single b) (h : Z32 a ≤ Z32 b) : (FloatKind.f32.format.order a b == some .gt) = false := by
  cases hc : (FloatKind.f32.format.order a b == some .gt)
  · rfl
  · have := (gt_iff ha hb).1 hc; omega
theorem lt_iff {a b : Nat} (ha : ¬ Flt.NaN single a) (hb : ¬ Flt.NaN single b) : (FloatKind.f32.format.order a b == some .lt) = true ↔ Z32 a < Z32 b := by
  rw [order_Z ha hb]
  simp only [beq_iff_eq, Option.some.injEq]
  exact Int.compare_eq_lt
theorem lt_no {a b : Nat} (ha : ¬ Flt.NaN single a) (hb : ¬ Flt.NaN single b) (h : Z32 b ≤ Z32 a) : (FloatKind.f32.format.order a b == some .lt) = false := by
  cases hc : (FloatKind.f32.format.order a b == some .lt)
  · rfl
  · have := (lt_iff ha hb).1 hc; omega
/-! ### the thickest roller -/
/-! ### halves -/
/-! ### the lesser and the greater of two -/
section
variable {P : Program}
end
theorem sameNum_any (a : Nat) (w : World) : Calls Tryz.prog 18 #[.float .f32 a, .float .f32 a] w fun e w' => e = .returned (.bool true) ∧ w = w' := by
  have h := fun w => specSame_any (a := a) (b := a) (w := w)
  rw [sameN_self] at h
  go_enter Tryz.func18, Tryz.ntmps18
  go_wp2_with (fail)
  refine (h _).mono ?_
  rintro e w1 ⟨rfl, rfl⟩
  go_wp2
  go_ret
  exact ⟨rfl, rfl⟩
theorem sameNum_q (a : Nat) (w : World) (n : Nat) : Calls Tryz.prog 18 #[.float .f32 a, .float .f32 a] (w.drewN n) fun e w' => e = .returned (.bool true) ∧ ∃ m, w' = w.drewN m := quiet_same (sameNum_any a _)
theorem a2same_q {G : Nat → Nat} {b b' : Nat} {w : World} (hc : ∀ i : Nat, i < 8 → w.cell? ⟨b, i, none⟩ = some (.float .f32 (G i))) (hc' : ∀ i : Nat, i < 8 → w.cell? ⟨b', i, none⟩ = some (.float .f32 (G i))) (c c' n : Nat) :
    Calls Tryz.prog 54 #[.slice (some ⟨b, 0, none⟩) 8 c, .slice (some ⟨b', 0, none⟩) 8 c'] (w.drewN n) fun e w' => e = .returned (.bool true) ∧ ∃ m, w' = w.drewN m := by
  refine (a2same_any G b b' c c' (w.drewN n) hc hc').mono ?_
  rintro e w1 ⟨rfl, m, rfl⟩
  exact ⟨rfl, _, World.drewN_drewN _ _ _⟩
end Go.Proofs.YtekfmjddlemboaaGreatDoor

/-! Gains and light: what has gained is no less, what is taken back becomes the dot, nearly, and the dot of a light is found, nearly; each under its own premises. -/
set_option linter.unusedVariables false
set_option linter.unusedSimpArgs false
namespace Go.Proofs.YtekfmjddlemboaaGreatDoor
open Go.RowKit Ieee

theorem clip_Z {x : Nat} (h : ¬ Flt.NaN single x) : Z32 (clipR x) = if 2 ^ 149 < Z32 x then 2 ^ 149 else if Z32 x < 0 then 0 else Z32 x := by
  unfold clipR
  rw [order_Z h (by decide), order_Z h (by decide), show Z32 1065353216 = 2 ^ 149 from Z_one, show Z32 0 = 0 from Z_zero]
  by_cases h1 : 2 ^ 149 < Z32 x
  · rw [Int.compare_eq_gt.2 h1, if_pos (by rfl), if_pos h1, Z_one]
  · rw [if_neg (c := 2 ^ 149 < Z32 x) h1]
    have n1 : (some (compare (Z32 x) (2 ^ 149)) == some Ordering.gt) = false := by
      cases hc : compare (Z32 x) (2 ^ 149)
      · rfl
      · rfl
      · exact absurd (Int.compare_eq_gt.1 hc) h1
    rw [n1]
    by_cases h2 : Z32 x < 0
    · rw [Int.compare_eq_lt.2 h2, if_pos h2]
      exact Z_zero
    · have n2 : (some (compare (Z32 x) 0) == some Ordering.lt) = false := by
        cases hc : compare (Z32 x) 0
        · exact absurd (Int.compare_eq_lt.1 hc) h2
        · rfl
        · rfl
      rw [n2, if_neg h2]
      rfl
end Go.Proofs.YtekfmjddlemboaaGreatDoor

/-! The draws of a part and of a film, as words of 32 bits; each under its own premises. -/
set_option linter.unusedVariables false
set_option linter.unusedSimpArgs false
namespace Go.Proofs.YtekfmjddlemboaaGreatDoor
open Go.RowKit Ieee

theorem fdiv_lt {x y : Nat} (hx : Fin32 x) (hy : Fin32 y) (h0 : Z32 y ≠ 0) : fdiv x y < 2 ^ 32 := by
  obtain ⟨g, e, hg, _⟩ := Flt.div_fin single (D := 149) (by decide) hx hy h0
  unfold fdiv
  rw [e]
  simp only [Option.getD_some]
  have h1 := Flt.infRung_lt' single
  have hsw := sw_single
  unfold Ieee.Format.word
  split <;> omega
theorem toneL_any (b k : Nat) (ao : Option Addr) (n cap : Nat) (w : World) (hk : k < 1152921504606846976) (hs : Src w b k ao n cap) (hb : BytesAt w b ao n) :
    Calls Tryz.prog 68 #[.pointer (some ⟨b, 0, none⟩)] w fun e w' => ∃ v : Nat, e = .returned (.float .f32 v) ∧ (partB v = true ∧ v < 2 ^ 32) ∧ Src w' b (k + 4) ao n cap ∧ Moved b w w' := by
  have cv : ∀ (m : Nat) (w : World), (convert 2 25 (.int .i64 (m : Int))).run Tryz.prog w = .ok (.float .f32 (floatOfInt .f32 (m : Int))) w := fun m w => by kernel_rfl
  have dv : ∀ (x y : Nat) (hx : Fin32 x) (hy : Fin32 y) (h0 : Z32 y ≠ 0) (w : World), (binOp .quo 25 (.float .f32 x) (.float .f32 y)).run Tryz.prog w = .ok (.float .f32 (fdiv x y)) w := fun x y hx hy h0 w => run_fdiv w 25 hx hy h0
  go_enter Tryz.func68, Tryz.ntmps68
  go_wp2_with (fail)
  refine (pick_any b k ao n cap 4 _ (by omega) (by omega) (by omega) hs hb).mono ?_
  rintro e w1 ⟨x, rfl, hx0, hx9, hs1, hm1⟩
  have hb1 := hm1.bytes hb (Nat.le_refl _)
  by_cases h0 : x = 0
  · subst h0
    go_wp2_with (fail)
    refine (pick_any b (k + 2) ao n cap 17 _ (by omega) (by omega) (by omega) hs1 hb1).mono ?_
    rintro e w2 ⟨y, rfl, hy0, hy9, hs2, hm2⟩
    obtain ⟨y, rfl⟩ := Int.eq_ofNat_of_zero_le hy0
    have d := fun w => dv (floatOfInt .f32 (y : Int)) 1098907648 (quo_fin (by omega)) (by decide) ne_16 w
    have c := cv y
    go_wp2
    go_ret
    exact ⟨_, rfl, ⟨up_part (quo_up (m := 16) (q := 1) (by omega) (by decide) (by omega) Z_16 (by decide) Z_1 (by omega) (by omega) (by omega)), fdiv_lt (quo_fin (by omega)) (by decide) ne_16⟩, hs2, hm1.trans hm2⟩
  · by_cases h1 : x = 1
    · subst h1
      go_wp2_with (fail)
      refine (pick_any b (k + 2) ao n cap 1001 _ (by omega) (by omega) (by omega) hs1 hb1).mono ?_
      rintro e w2 ⟨y, rfl, hy0, hy9, hs2, hm2⟩
      obtain ⟨y, rfl⟩ := Int.eq_ofNat_of_zero_le hy0
      have d := fun w => dv (floatOfInt .f32 (y : Int)) 1148846080 (quo_fin (by omega)) (by decide) ne_1000 w
      have c := cv y
      go_wp2
      go_ret
      exact ⟨_, rfl, ⟨up_part (quo_up (m := 1000) (q := 1) (by omega) (by decide) (by omega) Z_1000 (by decide) Z_1 (by omega) (by omega) (by omega)), fdiv_lt (quo_fin (by omega)) (by decide) ne_1000⟩, hs2, hm1.trans hm2⟩
    · have e0 : (x == 0) = false := by simp [h0]
      have e1 : (x == 1) = false := by simp [h1]
      go_wp2_with (fail)
      refine (pick_any b (k + 2) ao n cap 1048576 _ (by omega) (by omega) (by omega) hs1 hb1).mono ?_
      rintro e w2 ⟨y, rfl, hy0, hy9, hs2, hm2⟩
      obtain ⟨y, rfl⟩ := Int.eq_ofNat_of_zero_le hy0
      have d := fun w => dv (floatOfInt .f32 (y : Int)) 1233125376 (quo_fin (by omega)) (by decide) ne_meg w
      have c := cv y
      go_wp2
      go_ret
      exact ⟨_, rfl, ⟨up_part (quo_up (m := 1048576) (q := 1) (by omega) (by decide) (by omega) Z_meg (by decide) Z_1 (by omega) (by omega) (by omega)), fdiv_lt (quo_fin (by omega)) (by decide) ne_meg⟩, hs2, hm1.trans hm2⟩
end Go.Proofs.YtekfmjddlemboaaGreatDoor
