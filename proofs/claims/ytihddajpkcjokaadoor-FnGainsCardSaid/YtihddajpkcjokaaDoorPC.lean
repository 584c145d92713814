/- Parts of a proof, merged; each under its own premises. -/
import Derived.Test.YtihddajpkcjokaaDoorPB
import Derived.Test.YtihddajpkcjokaaDoorPA
import Derived.StillTailTactics
import Derived.Laws.Cover2
import Derived.Deep.Cut
import Derived.OrdersHeld
import Derived.Deep.RegionHeld
import Derived.Deep.RegionWith
import Derived.OwnWalk
import Derived.Deep.RegionHeld3
import Derived.Deep.MidRow
import Derived.Laws.BitsAllLaws
import Derived.Test.YtihddajpkcjokaaDoorRows
import Derived.ProofKit
import Derived.WalkLawsBesides
import Derived.Deep.QuietTactic
import Derived.BigQuiet
import Derived.Laws.CopyOwn

/-! A plate of which all cells turn: eachDot, freshDots, whatever the function is that is handed to them. -/
set_option linter.unusedVariables false
set_option linter.unusedSimpArgs false
namespace Go.Proofs.YtihddajpkcjokaaDoor
open Go.RowKit Ieee

theorem own_block {w : World} {base g c a n : Nat} {e : TypeId} (h : w.ownsRow base e 1 (.slice (some ⟨g, 0, none⟩) n c) n (cellsV a n)) : ∃ cur, w.heap[g]? = some (.cells cur e (0, 0)) ∧ ∀ j, j < n → cur[j]? = some (.int .i64 (cellAt a j : Nat)) := by
  obtain ⟨_, h2⟩ := h
  rcases h2 with ⟨h3, _⟩ | ⟨g', cap, cur, hv, _, hh, _, _, _, ht⟩
  · simp at h3
  · simp only [Value.slice.injEq, Option.some.injEq, Addr.mk.injEq, and_true, true_and] at hv
    obtain ⟨rfl, rfl⟩ := hv
    refine ⟨cur, hh, fun j hj => ?_⟩
    have h1 : (cur.toList.take (n * 1))[j]? = (cellsV a n)[j]? := by rw [ht]
    rw [cellsV_at hj, List.getElem?_take, if_pos (by omega)] at h1
    simpa using h1
/-- What a function value gives at each cell; it may draw, and turns nothing. -/
def GivesDots (P : Program) (k : FuncId) (cap : Array Value) (a b : Nat) (F g : Nat → Nat) (w : World) : Prop :=
  ∀ (n : Nat) (W : World), n < a * b → Below w.heap.size w W → Calls P k (#[.int .i64 (cellAt a n : Nat), .float .f32 (F (cellAt a n))] ++ cap) W fun e w' => e = .returned (.float .f32 (g (cellAt a n))) ∧ ∃ m, w' = W.drewN m
theorem blk_drewN {r : Option Obj} (w : World) (i m : Nat) (hr : w.heap[i]? = r) : (w.drewN m).heap[i]? = r := hr
theorem put_map {w : World} {g a b : Nat} {f G : Nat → Nat} {pre : List Value} {t : TypeId} {k o : Nat} (ha : a < 9) (hb : b < 9) (hk : k < a * b) (hl : pre.length = o) (h : w.heap[g]? = some (.cells (row pre 64 (mapC a b f G k)) t (0, 0))) :
    (w.setCell ⟨g, o + cellAt a k, none⟩ (.float .f32 (f (cellAt a k)))).heap[g]? = some (.cells (row pre 64 (mapC a b f G (k + 1))) t (0, 0)) := by
  subst hl
  have h64 := (cells_all a ha b hb).2
  rw [put_row (cells_of a ha b hb k (by omega) hk).1 h, mapC_step ha hb f G hk]

set_option maxRecDepth 100000 in
set_option maxHeartbeats 1600000 in
theorem eachDot_any (fk : FuncId) (cap : Array Value) (eg : ∀ args w, (callFunc fk args).run Tryd.prog w = .ok (.enter fk args) w) (a b : Nat) (ha1 : 1 ≤ a) (ha : a < 9) (hb1 : 1 ≤ b) (hb : b < 9) (F g : Nat → Nat) (w : World) (hg : GivesDots Tryd.prog fk cap a b F g w) :
    Calls Tryd.prog 41 #[.agg (plate a b F), .func (.func fk) #[] cap] w fun e w' => e = .returned (.agg (plate a b (mapA a b g F))) ∧ Below w.heap.size w w' := by
  have hz : Tryd.zeroCells35 = row [.int .i8 0, .int .i8 0] 64 (fun _ => 0) := rfl
  have HG := Lib.hid hg
  clear hg
  obtain ⟨n, hnn, hn⟩ : ∃ n, a * b = n ∧ n ≤ 64 := ⟨_, rfl, (cells_all a ha b hb).2⟩
  have HNN := Lib.hid hnn
  clear hnn
  go_enter Tryd.func41, Tryd.ntmps41
  go_wp2_with (first | ((with_reducible refine at_load 35 ?_); refine wpList_load_part rfl 35 _ rfl _ 0 66 rfl _ _ _ _ (by repeat (first | (with_reducible assumption) | ((with_reducible refine blk_new _ _ _ ?_); focus (simp; done)) | ((with_reducible refine blk_old _ _ _ ?_ ?_); focus (simp; done)) | ((with_reducible refine blk_old _ _ _ ?_ ?_); focus (first | omega | (simp; omega))) | ((with_reducible apply blk_set); focus (simp; done)) | ((with_reducible refine blk_off _ _ _ _ ?_ ?_); focus (simp; done)) | ((with_reducible refine blk_offc _ _ _ _ ?_ ?_); focus (first | (simp; done) | omega | (simp; omega))) | ((with_reducible refine blk_off _ _ _ _ ?_ ?_); focus (first | omega | (simp; omega))) | (with_reducible refine blk_drew _ _ ?_) | ((with_reducible refine blk_below (by assumption) ?_ ?_); focus (simp; done)) | ((with_reducible refine blk_below (by assumption) ?_ ?_); focus (first | omega | (simp; omega))))) Tryd.underlying35 rfl (by kernel_rfl) (by simp [row_size]) _ (row_all [_, _] 64 _) ?_) | ((with_reducible refine at_store 35 ?_); refine wpList_store_part rfl 35 _ _ rfl _ 0 _ rfl rfl _ _ (by repeat (first | (with_reducible assumption) | ((with_reducible refine blk_new _ _ _ ?_); focus (simp; done)) | ((with_reducible refine blk_old _ _ _ ?_ ?_); focus (simp; done)) | ((with_reducible refine blk_old _ _ _ ?_ ?_); focus (first | omega | (simp; omega))) | ((with_reducible apply blk_set); focus (simp; done)) | ((with_reducible refine blk_off _ _ _ _ ?_ ?_); focus (simp; done)) | ((with_reducible refine blk_offc _ _ _ _ ?_ ?_); focus (first | (simp; done) | omega | (simp; omega))) | ((with_reducible refine blk_off _ _ _ _ ?_ ?_); focus (first | omega | (simp; omega))) | (with_reducible refine blk_drew _ _ ?_) | ((with_reducible refine blk_below (by assumption) ?_ ?_); focus (simp; done)) | ((with_reducible refine blk_below (by assumption) ?_ ?_); focus (first | omega | (simp; omega))))) (by rw [row_size]; kernel_rfl) (by simp [row_size]) (row_cells _ _ _ rfl) _ (row_over _ _ 64 _ _ (by simp)) ?_))
  go_at_call 55
  refine (cells_n a b n HNN.out ha1 ha hb1 hb _ w.heap.size (by first | (simp; done) | (simp; omega) | omega) ((cell_of_row _ _ 0 (plate a b F) 35 (0, 0) (by repeat (first | (with_reducible assumption) | ((with_reducible refine blk_new _ _ _ ?_); focus (simp; done)) | ((with_reducible refine blk_old _ _ _ ?_ ?_); focus (simp; done)) | ((with_reducible refine blk_old _ _ _ ?_ ?_); focus (first | omega | (simp; omega))) | ((with_reducible apply blk_set); focus (simp; done)) | ((with_reducible refine blk_off _ _ _ _ ?_ ?_); focus (simp; done)) | ((with_reducible refine blk_offc _ _ _ _ ?_ ?_); focus (first | (simp; done) | omega | (simp; omega))) | ((with_reducible refine blk_off _ _ _ _ ?_ ?_); focus (first | omega | (simp; omega))) | (with_reducible refine blk_drew _ _ ?_) | ((with_reducible refine blk_below (by assumption) ?_ ?_); focus (simp; done)) | ((with_reducible refine blk_below (by assumption) ?_ ?_); focus (first | omega | (simp; omega)))))).trans (row_g0 _ _ _ _)) ((cell_of_row _ _ 1 (plate a b F) 35 (0, 0) (by repeat (first | (with_reducible assumption) | ((with_reducible refine blk_new _ _ _ ?_); focus (simp; done)) | ((with_reducible refine blk_old _ _ _ ?_ ?_); focus (simp; done)) | ((with_reducible refine blk_old _ _ _ ?_ ?_); focus (first | omega | (simp; omega))) | ((with_reducible apply blk_set); focus (simp; done)) | ((with_reducible refine blk_off _ _ _ _ ?_ ?_); focus (simp; done)) | ((with_reducible refine blk_offc _ _ _ _ ?_ ?_); focus (first | (simp; done) | omega | (simp; omega))) | ((with_reducible refine blk_off _ _ _ _ ?_ ?_); focus (first | omega | (simp; omega))) | (with_reducible refine blk_drew _ _ ?_) | ((with_reducible refine blk_below (by assumption) ?_ ?_); focus (simp; done)) | ((with_reducible refine blk_below (by assumption) ?_ ?_); focus (first | omega | (simp; omega)))))).trans (row_g1 _ _ _ _ _))).mono ?_
  rintro e w1 ⟨g0, c, rfl, hown, hbc⟩
  obtain ⟨hg0, hg1⟩ : w.heap.size + 3 ≤ g0 ∧ g0 < w1.heap.size := by
    have := hown.lt g0 rfl
    simp at this
    omega
  have hz1 := hbc.size
  simp at hz1
  obtain ⟨cur, hcur, hat⟩ := own_block hown
  have k1 : w1.heap[w.heap.size]? = some (.cells (plate a b F) 35 (0, 0)) := blk_below hbc (by first | (simp; done) | (simp; omega) | omega) (by repeat (first | (with_reducible assumption) | ((with_reducible refine blk_new _ _ _ ?_); focus (simp; done)) | ((with_reducible refine blk_old _ _ _ ?_ ?_); focus (simp; done)) | ((with_reducible refine blk_old _ _ _ ?_ ?_); focus (first | omega | (simp; omega))) | ((with_reducible apply blk_set); focus (simp; done)) | ((with_reducible refine blk_off _ _ _ _ ?_ ?_); focus (simp; done)) | ((with_reducible refine blk_offc _ _ _ _ ?_ ?_); focus (first | (simp; done) | omega | (simp; omega))) | ((with_reducible refine blk_off _ _ _ _ ?_ ?_); focus (first | omega | (simp; omega))) | (with_reducible refine blk_drew _ _ ?_) | ((with_reducible refine blk_below (by assumption) ?_ ?_); focus (simp; done)) | ((with_reducible refine blk_below (by assumption) ?_ ?_); focus (first | omega | (simp; omega)))))
  have k2 : w1.heap[w.heap.size + 1]? = some (.cells (plate 0 0 (fun _ => 0)) 35 (0, 0)) := blk_below hbc (by first | (simp; done) | (simp; omega) | omega) (by repeat (first | (with_reducible assumption) | ((with_reducible refine blk_new _ _ _ ?_); focus (simp; done)) | ((with_reducible refine blk_old _ _ _ ?_ ?_); focus (simp; done)) | ((with_reducible refine blk_old _ _ _ ?_ ?_); focus (first | omega | (simp; omega))) | ((with_reducible apply blk_set); focus (simp; done)) | ((with_reducible refine blk_off _ _ _ _ ?_ ?_); focus (simp; done)) | ((with_reducible refine blk_offc _ _ _ _ ?_ ?_); focus (first | (simp; done) | omega | (simp; omega))) | ((with_reducible refine blk_off _ _ _ _ ?_ ?_); focus (first | omega | (simp; omega))) | (with_reducible refine blk_drew _ _ ?_) | ((with_reducible refine blk_below (by assumption) ?_ ?_); focus (simp; done)) | ((with_reducible refine blk_below (by assumption) ?_ ?_); focus (first | omega | (simp; omega)))))
  have k3 : w1.heap[w.heap.size + 2]? = some (.cells (plate a b F) 35 (0, 0)) := blk_below hbc (by first | (simp; done) | (simp; omega) | omega) (by repeat (first | (with_reducible assumption) | ((with_reducible refine blk_new _ _ _ ?_); focus (simp; done)) | ((with_reducible refine blk_old _ _ _ ?_ ?_); focus (simp; done)) | ((with_reducible refine blk_old _ _ _ ?_ ?_); focus (first | omega | (simp; omega))) | ((with_reducible apply blk_set); focus (simp; done)) | ((with_reducible refine blk_off _ _ _ _ ?_ ?_); focus (simp; done)) | ((with_reducible refine blk_offc _ _ _ _ ?_ ?_); focus (first | (simp; done) | omega | (simp; omega))) | ((with_reducible refine blk_off _ _ _ _ ?_ ?_); focus (first | omega | (simp; omega))) | (with_reducible refine blk_drew _ _ ?_) | ((with_reducible refine blk_below (by assumption) ?_ ?_); focus (simp; done)) | ((with_reducible refine blk_below (by assumption) ?_ ?_); focus (first | omega | (simp; omega)))))
  have k4 : Below w.heap.size w w1 := bel_next hbc (by first | (simp; done) | (simp; omega) | omega) (by repeat (first | (with_reducible assumption) | (with_reducible exact Below.refl _ _) | ((with_reducible refine bel_alloc _ ?_ ?_); focus (first | omega | (simp; done) | (simp; omega))) | ((with_reducible refine bel_row _ ?_ ?_); focus (first | omega | (simp; done) | (simp; omega))) | ((with_reducible refine bel_cell _ ?_ ?_); focus (first | omega | (simp; done) | (simp; omega))) | (with_reducible refine Below.drew ?_) | (with_reducible refine below_wideW _ ?_) | ((with_reducible refine bel_next (by assumption) ?_ ?_); focus (first | omega | (simp; done) | (simp; omega)))))
  have HA := Lib.hid hat
  have K1 := Lib.hid k1
  have K2 := Lib.hid k2
  have K3 := Lib.hid k3
  have K4 := Lib.hid k4
  have KC := Lib.hid hcur
  clear hown hbc hcur hat k1 k2 k3 k4 hz1
  go_wp2
  go_loopw [11] (fun i wr => ∃ k : Nat, k ≤ n ∧ i = .int .i64 k ∧ wr.heap[w.heap.size]? = some (.cells (plate a b F) 35 (0, 0)) ∧ wr.heap[w.heap.size + 1]? = some (.cells (plate 0 0 (fun _ => 0)) 35 (0, 0)) ∧ wr.heap[w.heap.size + 2]? = some (.cells (plate a b (mapC a b g F k)) 35 (0, 0)) ∧ wr.heap[g0]? = some (.cells cur 2 (0, 0)) ∧ Below w.heap.size w wr) (fun i _ => 65 - (intOf i).toNat)
  case atStart => exact ⟨0, by omega, rfl, K1.out, K2.out, by rw [mapC_0]; exact K3.out, KC.out, K4.out⟩
  case round =>
    obtain ⟨k, hk, rfl, h1, h2, h3, h4, h5⟩ := hrel
    clear K1 K2 K3 K4 KC
    by_cases hlt : k < n
    · have hlt' : k < a * b := by have := HNN.out; omega
      obtain ⟨q1, q2, q3⟩ := cells_of a ha b hb k (by omega) hlt'
      have cl : wr.cell? ⟨g0, k, none⟩ = some (.int .i64 (cellAt a k : Nat)) := (cell_of_row wr g0 k cur 2 (0, 0) h4).trans (HA.out k hlt)
      have cf : wr.cell? ⟨w.heap.size, 2 + cellAt a k, none⟩ = some (.float .f32 (F (cellAt a k))) := (cell_of_row wr _ (2 + cellAt a k) _ _ _ h1).trans (row_k2 _ _ _ _ q1)
      have co : wr.cell? ⟨w.heap.size + 2, 2 + cellAt a k, none⟩ = some (.float .f32 (mapC a b g F k (cellAt a k))) := (cell_of_row wr _ (2 + cellAt a k) _ _ _ h3).trans (row_k2 _ _ _ _ q1)
      have ff : wr.frozen? ⟨w.heap.size + 2, 2 + cellAt a k, none⟩ = false := frozen_of_row wr _ _ _ _ h3
      have H1 := Lib.hid h1
      have H2 := Lib.hid h2
      have H3 := Lib.hid h3
      have H4 := Lib.hid h4
      have H5 := Lib.hid h5
      have HL := Lib.hid hlt'
      obtain ⟨q, hq⟩ : ∃ q, q = cellAt a k := ⟨_, rfl⟩
      rw [← hq] at cl cf ff q1 co
      have HQ := Lib.hid hq
      have hgv : Calls Tryd.prog fk (#[.int .i64 q, .float .f32 (F q)] ++ cap) wr fun e w' => e = .returned (.float .f32 (g q)) ∧ ∃ m, w' = wr.drewN m := by
        have := HG.out k wr hlt' h5
        rwa [← hq] at this
      have HV := Lib.hid hgv
      clear h1 h2 h3 h4 h5 q2 q3 hlt' hq hgv
      have z0 : (0 : Int) ≤ q := by omega
      have z1 : (q : Int) < 64 := by omega
      have i0 : (0 : Int) ≤ k := by omega
      have i1 : (k : Int) < n := by omega
      have i2 : (n : Int) ≤ 64 := by omega
      go_wp2_with ((with_reducible refine HV.out.mono ?_); rintro e w' ⟨rfl, m, rfl⟩)
      go_roundw
      case rel => exact ⟨k + 1, by omega, by go_num, put_off (by omega) (blk_drewN _ _ _ H1.out), put_off (by omega) (blk_drewN _ _ _ H2.out), by rw [HQ.out]; exact put_map ha hb HL.out rfl (blk_drewN _ _ _ H3.out), put_off (by omega) (blk_drewN _ _ _ H4.out), bel_cell _ (by simp; omega) (bel_drewN _ H5.out)⟩
      case measure => simp [intOf]; omega
    · have hkn : k = n := by omega
      have h3' : wr.heap[w.heap.size + 2]? = some (.cells (plate a b (mapA a b g F)) 35 (0, 0)) := by
        rw [h3, hkn, ← HNN.out, show plate a b (mapC a b g F (a * b)) = plate a b (mapA a b g F) from mapC_end ha hb _ _ _]
      have hz5 := h5.size
      have H5 := Lib.hid h5
      clear h3 hkn h5 h4
      have hz6 : w.heap.size + 2 < wr.heap.size := by
        cases hlt : decide (w.heap.size + 2 < wr.heap.size)
        · simp only [decide_eq_false_iff_not] at hlt
          rw [Array.getElem?_eq_none (by omega)] at h3'
          cases h3'
        · simpa using hlt
      go_wp2_with (first | ((with_reducible refine at_load 35 ?_); refine wpList_load_part rfl 35 _ rfl _ 0 66 rfl _ _ _ _ (by repeat (first | (with_reducible assumption) | ((with_reducible refine blk_new _ _ _ ?_); focus (simp; done)) | ((with_reducible refine blk_old _ _ _ ?_ ?_); focus (simp; done)) | ((with_reducible refine blk_old _ _ _ ?_ ?_); focus (first | omega | (simp; omega))) | ((with_reducible apply blk_set); focus (simp; done)) | ((with_reducible refine blk_off _ _ _ _ ?_ ?_); focus (simp; done)) | ((with_reducible refine blk_offc _ _ _ _ ?_ ?_); focus (first | (simp; done) | omega | (simp; omega))) | ((with_reducible refine blk_off _ _ _ _ ?_ ?_); focus (first | omega | (simp; omega))) | (with_reducible refine blk_drew _ _ ?_) | ((with_reducible refine blk_below (by assumption) ?_ ?_); focus (simp; done)) | ((with_reducible refine blk_below (by assumption) ?_ ?_); focus (first | omega | (simp; omega))))) Tryd.underlying35 rfl (by kernel_rfl) (by simp [row_size]) _ (row_all [_, _] 64 _) ?_) | ((with_reducible refine at_store 35 ?_); refine wpList_store_part rfl 35 _ _ rfl _ 0 _ rfl rfl _ _ (by repeat (first | (with_reducible assumption) | ((with_reducible refine blk_new _ _ _ ?_); focus (simp; done)) | ((with_reducible refine blk_old _ _ _ ?_ ?_); focus (simp; done)) | ((with_reducible refine blk_old _ _ _ ?_ ?_); focus (first | omega | (simp; omega))) | ((with_reducible apply blk_set); focus (simp; done)) | ((with_reducible refine blk_off _ _ _ _ ?_ ?_); focus (simp; done)) | ((with_reducible refine blk_offc _ _ _ _ ?_ ?_); focus (first | (simp; done) | omega | (simp; omega))) | ((with_reducible refine blk_off _ _ _ _ ?_ ?_); focus (first | omega | (simp; omega))) | (with_reducible refine blk_drew _ _ ?_) | ((with_reducible refine blk_below (by assumption) ?_ ?_); focus (simp; done)) | ((with_reducible refine blk_below (by assumption) ?_ ?_); focus (first | omega | (simp; omega))))) (by rw [row_size]; kernel_rfl) (by simp [row_size]) (row_cells _ _ _ rfl) _ (row_over _ _ 64 _ _ (by simp)) ?_))
      have h5 := H5.out
      refine bodyPost_ret (v := .agg (plate a b (mapA a b g F))) ?_ ?_ ?_
      · refine results_cell_row Tryd.results41 _ _ _ 35 (plate a b (mapA a b g F)) (0, 0) _ rfl ?_ Tryd.underlying35 rfl (by simp only [row_size]; kernel_rfl)
        exact (by repeat (first | (with_reducible assumption) | ((with_reducible refine blk_new _ _ _ ?_); focus (simp; done)) | ((with_reducible refine blk_old _ _ _ ?_ ?_); focus (simp; done)) | ((with_reducible refine blk_old _ _ _ ?_ ?_); focus (first | omega | (simp; omega))) | ((with_reducible apply blk_set); focus (simp; done)) | ((with_reducible refine blk_off _ _ _ _ ?_ ?_); focus (simp; done)) | ((with_reducible refine blk_offc _ _ _ _ ?_ ?_); focus (first | (simp; done) | omega | (simp; omega))) | ((with_reducible refine blk_off _ _ _ _ ?_ ?_); focus (first | omega | (simp; omega))) | (with_reducible refine blk_drew _ _ ?_) | ((with_reducible refine blk_below (by assumption) ?_ ?_); focus (simp; done)) | ((with_reducible refine blk_below (by assumption) ?_ ?_); focus (first | omega | (simp; omega)))))
      · rfl
      · exact ⟨rfl, (by repeat (first | (with_reducible assumption) | (with_reducible exact Below.refl _ _) | ((with_reducible refine bel_alloc _ ?_ ?_); focus (first | omega | (simp; done) | (simp; omega))) | ((with_reducible refine bel_row _ ?_ ?_); focus (first | omega | (simp; done) | (simp; omega))) | ((with_reducible refine bel_cell _ ?_ ?_); focus (first | omega | (simp; done) | (simp; omega))) | (with_reducible refine Below.drew ?_) | (with_reducible refine below_wideW _ ?_) | ((with_reducible refine bel_next (by assumption) ?_ ?_); focus (first | omega | (simp; done) | (simp; omega)))))⟩

end Go.Proofs.YtihddajpkcjokaaDoor

/-! Contracts of InvertPlate, the reference's and the program's, and the law on it. -/
set_option linter.unusedVariables false
set_option linter.unusedSimpArgs false
namespace Go.Proofs.YtihddajpkcjokaaDoor
open Go.RowKit Ieee

theorem put_cnt {w : World} {g a b : Nat} {f G : Nat → Nat} {pre : List Value} {t : TypeId} {i o v : Nat} (ha : a < 9) (hb : b < 9) (hi : i < 64) (hc : isC a b i = true) (hl : pre.length = o) (hv : v = f i) (h : w.heap[g]? = some (.cells (row pre 64 (mapC a b f G (cntC a b i))) t (0, 0))) :
    (w.setCell ⟨g, o + i, none⟩ (.float .f32 v)).heap[g]? = some (.cells (row pre 64 (mapC a b f G (cntC a b (i + 1)))) t (0, 0)) := by
  subst hl; subst hv
  rw [put_row hi h, mapC_step' ha hb f G hi hc]

end Go.Proofs.YtihddajpkcjokaaDoor

/-! The law on ZoneTrains. -/
set_option linter.unusedVariables false
set_option linter.unusedSimpArgs false
namespace Go.Proofs.YtihddajpkcjokaaDoor
open Go.RowKit Ieee
/-- Behind a piece of a walk all older blocks are as they were. -/
def Kept (B : Nat) (w0 wr w' : World) : Prop := (∀ i, i < wr.heap.size → w'.heap[i]? = wr.heap[i]?) ∧ wr.heap.size ≤ w'.heap.size ∧ Below B w0 w'
theorem Kept.refl {B : Nat} {w0 wr : World} (h : Below B w0 wr) : Kept B w0 wr wr := ⟨fun _ _ => rfl, Nat.le_refl _, h⟩
theorem Kept.drew {B : Nat} {w0 wr w' : World} (h : Kept B w0 wr w') : Kept B w0 wr w'.drew := ⟨h.1, h.2.1, Below.drew h.2.2⟩
theorem Kept.call {B : Nat} {w0 wr W W2 : World} (h : Kept B w0 wr W) (hB : B ≤ wr.heap.size) (hb : Below W.heap.size W W2) : Kept B w0 wr W2 :=
  ⟨fun i hi => (hb.block i (Nat.lt_of_lt_of_le hi h.2.1)).trans (h.1 i hi), Nat.le_trans h.2.1 hb.size, bel_next hb (Nat.le_trans hB h.2.1) h.2.2⟩
theorem Kept.alloc {B : Nat} {w0 wr W : World} (h : Kept B w0 wr W) (hB : B ≤ wr.heap.size) (o : Obj) : Kept B w0 wr (W.alloc o) :=
  ⟨fun i hi => blk_old _ _ _ (Nat.lt_of_lt_of_le hi h.2.1) (h.1 i hi), by have := h.2.1; simp; omega, bel_alloc o (Nat.le_trans hB h.2.1) h.2.2⟩
theorem Kept.row {B : Nat} {w0 wr W : World} (h : Kept B w0 wr W) (hB : B ≤ wr.heap.size) {g : Nat} (hg : wr.heap.size ≤ g) (cs : Array Value) : Kept B w0 wr (W.setRow g cs) :=
  ⟨fun i hi => blk_off _ _ _ _ (by omega) (h.1 i hi), by have := h.2.1; simp; omega, bel_row cs (Nat.le_trans hB hg) h.2.2⟩

end Go.Proofs.YtihddajpkcjokaaDoor

/-! Contracts of SameTrain, the reference's and the program's, and the law on it. -/
set_option linter.unusedVariables false
set_option linter.unusedSimpArgs false
namespace Go.Proofs.YtihddajpkcjokaaDoor
open Go.RowKit Ieee

def sameTo (F G : Nat → Nat) : Nat → Bool
  | 0 => true
  | k + 1 => sameTo F G k && sameN (F k) (G k)
theorem sameTo_no {F G : Nat → Nat} {k n : Nat} (hk : k < n) (h : sameN (F k) (G k) = false) : sameTo F G n = false := by
  induction n with
  | zero => omega
  | succ n ih =>
    by_cases e : k = n
    · subst e; simp [sameTo, h]
    · simp [sameTo, ih (by omega)]

theorem specSame_q {a b : Nat} {v : Bool} (h : sameN a b = v) (w : World) (n : Nat) : Calls Tryd.prog 35 #[.float .f32 a, .float .f32 b] (w.drewN n) fun e w' => e = .returned (.bool v) ∧ ∃ m, w' = w.drewN m := by
  subst h
  exact quiet_same (specSame_any a b _)

end Go.Proofs.YtihddajpkcjokaaDoor

/-! Contracts of SamePlate, the reference's and the program's; the laws on ValidPlate and SamePlate. -/
set_option linter.unusedVariables false
set_option linter.unusedSimpArgs false
namespace Go.Proofs.YtihddajpkcjokaaDoor
open Go.RowKit Ieee

def sameP (x y : Int) (F : Nat → Nat) (x' y' : Int) (F' : Nat → Nat) : Bool := (x == x') && ((y == y') && sameTo F F' 64)
set_option maxHeartbeats 1600000 in
theorem specSamePl_any (x y : Int) (F : Nat → Nat) (x' y' : Int) (F' : Nat → Nat) (w : World) (hF : ∀ i, i < 64 → F i < 2 ^ 32) (hF' : ∀ i, i < 64 → F' i < 2 ^ 32) (B B' : Nat) (hB : w.heap[B]? = some (.cells (plate x y F) 35 (0, 0))) (hB' : w.heap[B']? = some (.cells (plate x' y' F') 35 (0, 0))) :
    Calls Tryd.prog 45 #[.pointer (some ⟨B, 0, none⟩), .pointer (some ⟨B', 0, none⟩)] w fun e w' => e = .returned (.bool (sameP x y F x' y' F')) ∧ ∃ m, w' = w.drewN m := by
  have HB := Lib.hid hB
  have HB' := Lib.hid hB'
  clear hB hB'
  go_enter Tryd.func45, Tryd.ntmps45
  go_wp2
  go_loopw [5] (fun i wr => ∃ k m : Nat, k ≤ 64 ∧ i = .int .i64 k ∧ sameTo F F' k = true ∧ wr = w.drewN m) (fun i _ => 64 - (intOf i).toNat)
  case atStart => exact ⟨0, 0, by omega, rfl, rfl, rfl⟩
  case round =>
    obtain ⟨k, m, hk, rfl, hsm, hwr⟩ := hrel
    have HW := Lib.hid hwr
    have HS := Lib.hid hsm
    clear hsm
    by_cases hlt : k < 64
    · have ca : wr.cell? ⟨B, 2 + k, none⟩ = some (.float .f32 (F k)) := by rw [hwr]; exact (cell_of_row w _ (2 + k) _ _ _ HB.out).trans (row_k2 _ _ _ _ hlt)
      have cb : wr.cell? ⟨B', 2 + k, none⟩ = some (.float .f32 (F' k)) := by rw [hwr]; exact (cell_of_row w _ (2 + k) _ _ _ HB'.out).trans (row_k2 _ _ _ _ hlt)
      clear hwr
      cases hk2 : sameN (F k) (F' k)
      · go_wp2
        go_quiet ((go_at_call 35; with_reducible exact specSame_q hk2 _ _))
        go_wp2
        go_ret
        exact ⟨by unfold sameP; rw [sameTo_no hlt hk2]; simp, _, by rw [HW.out, World.drewN_drewN]⟩
      · go_wp2
        go_quiet ((go_at_call 35; with_reducible exact specSame_q hk2 _ _))
        go_wp2
        go_roundw
        case rel => exact ⟨k + 1, _, by omega, by go_num, by simp [sameTo, HS.out, hk2], by rw [HW.out, World.drewN_drewN]⟩
        case measure => simp [intOf]; omega
    · obtain rfl : k = 64 := by omega
      have d0 : wr.cell? ⟨B, 0, none⟩ = some (.int .i8 x) := by rw [hwr]; exact (cell_of_row w _ 0 _ _ _ HB.out).trans (row_g0 _ _ _ _)
      have d1 : wr.cell? ⟨B, 1, none⟩ = some (.int .i8 y) := by rw [hwr]; exact (cell_of_row w _ 1 _ _ _ HB.out).trans (row_g1 _ _ _ _ _)
      have e0 : wr.cell? ⟨B', 0, none⟩ = some (.int .i8 x') := by rw [hwr]; exact (cell_of_row w _ 0 _ _ _ HB'.out).trans (row_g0 _ _ _ _)
      have e1 : wr.cell? ⟨B', 1, none⟩ = some (.int .i8 y') := by rw [hwr]; exact (cell_of_row w _ 1 _ _ _ HB'.out).trans (row_g1 _ _ _ _ _)
      clear hwr
      by_cases hr : x = x'
      · by_cases hy : y = y'
        · have hrb : (y == y') = true := by simp [hy]
          go_wp2
          go_quiet (fail)
          go_wp2
          go_ret
          exact ⟨by unfold sameP; rw [HS.out]; simp [hr, hy], _, by rw [HW.out, World.drewN_drewN]⟩
        · have hrb : (y == y') = false := by simp [hy]
          go_wp2
          go_quiet (fail)
          go_wp2
          go_ret
          exact ⟨by unfold sameP; rw [HS.out]; simp [hr, hy], _, by rw [HW.out, World.drewN_drewN]⟩
      · have hrb : (x == x') = false := by simp [hr]
        go_wp2
        go_quiet (fail)
        go_wp2
        go_ret
        exact ⟨by unfold sameP; simp [hr], _, by rw [HW.out, World.drewN_drewN]⟩
theorem specSameP_any (x y : Int) (F : Nat → Nat) (x' y' : Int) (F' : Nat → Nat) (w : World) (hF : ∀ i, i < 64 → F i < 2 ^ 32) (hF' : ∀ i, i < 64 → F' i < 2 ^ 32) : Calls Tryd.prog 21 #[.agg (plate x y F), .agg (plate x' y' F')] w fun e w' => e = .returned (.bool (sameP x y F x' y' F')) ∧ Below w.heap.size w w' := by
  have hB : ((w.alloc (.cells (plate x y F) 35)).alloc (.cells (plate x' y' F') 35)).heap[w.heap.size]? = some (.cells (plate x y F) 35 (0, 0)) := (by repeat (first | (with_reducible assumption) | ((with_reducible refine blk_new _ _ _ ?_); focus (simp; done)) | ((with_reducible refine blk_old _ _ _ ?_ ?_); focus (simp; done)) | ((with_reducible refine blk_old _ _ _ ?_ ?_); focus (first | omega | (simp; omega))) | ((with_reducible apply blk_set); focus (simp; done)) | ((with_reducible refine blk_off _ _ _ _ ?_ ?_); focus (simp; done)) | ((with_reducible refine blk_offc _ _ _ _ ?_ ?_); focus (first | (simp; done) | omega | (simp; omega))) | ((with_reducible refine blk_off _ _ _ _ ?_ ?_); focus (first | omega | (simp; omega))) | (with_reducible refine blk_drew _ _ ?_) | ((with_reducible refine blk_below (by assumption) ?_ ?_); focus (simp; done)) | ((with_reducible refine blk_below (by assumption) ?_ ?_); focus (first | omega | (simp; omega)))))
  have hB' : ((w.alloc (.cells (plate x y F) 35)).alloc (.cells (plate x' y' F') 35)).heap[w.heap.size + 1]? = some (.cells (plate x' y' F') 35 (0, 0)) := (by repeat (first | (with_reducible assumption) | ((with_reducible refine blk_new _ _ _ ?_); focus (simp; done)) | ((with_reducible refine blk_old _ _ _ ?_ ?_); focus (simp; done)) | ((with_reducible refine blk_old _ _ _ ?_ ?_); focus (first | omega | (simp; omega))) | ((with_reducible apply blk_set); focus (simp; done)) | ((with_reducible refine blk_off _ _ _ _ ?_ ?_); focus (simp; done)) | ((with_reducible refine blk_offc _ _ _ _ ?_ ?_); focus (first | (simp; done) | omega | (simp; omega))) | ((with_reducible refine blk_off _ _ _ _ ?_ ?_); focus (first | omega | (simp; omega))) | (with_reducible refine blk_drew _ _ ?_) | ((with_reducible refine blk_below (by assumption) ?_ ?_); focus (simp; done)) | ((with_reducible refine blk_below (by assumption) ?_ ?_); focus (first | omega | (simp; omega)))))
  go_enter Tryd.func21, Tryd.ntmps21
  go_wp2_with (go_at_call 45; (with_reducible refine (specSamePl_any x y F x' y' F' _ hF hF' _ _ hB hB').mono ?_); rintro e w' ⟨rfl, m, rfl⟩)
  go_ret
  exact ⟨rfl, bel_drewN _ (by repeat (first | (with_reducible assumption) | (with_reducible exact Below.refl _ _) | ((with_reducible refine bel_alloc _ ?_ ?_); focus (first | omega | (simp; done) | (simp; omega))) | ((with_reducible refine bel_row _ ?_ ?_); focus (first | omega | (simp; done) | (simp; omega))) | ((with_reducible refine bel_cell _ ?_ ?_); focus (first | omega | (simp; done) | (simp; omega))) | (with_reducible refine Below.drew ?_) | (with_reducible refine below_wideW _ ?_) | ((with_reducible refine bel_next (by assumption) ?_ ?_); focus (first | omega | (simp; done) | (simp; omega)))))⟩

end Go.Proofs.YtihddajpkcjokaaDoor

/-! Contracts of DifferOf, the reference's and the program's, and the law on it. -/
set_option linter.unusedVariables false
set_option linter.unusedSimpArgs false
namespace Go.Proofs.YtihddajpkcjokaaDoor
open Go.RowKit Ieee

/-! ### sizes of numbers -/
def absN (a : Nat) : Nat := a % 2 ^ 31
theorem sw_single : single.signWeight = 2 ^ 31 := by decide
theorem absN_rung (a : Nat) : Flt.rung single (absN a) = Flt.rung single a := by
  unfold Flt.rung absN; rw [sw_single, Nat.mod_mod]
theorem absN_neg (a : Nat) : Flt.neg single (absN a) = false := by
  unfold Flt.neg absN; rw [sw_single]
  have : a % 2 ^ 31 / 2 ^ 31 = 0 := Nat.div_eq_of_lt (Nat.mod_lt _ (by decide))
  rw [this]; rfl
theorem absN_num {a : Nat} (h : ¬ Flt.NaN single a) : ¬ Flt.NaN single (absN a) := by unfold Flt.NaN at *; rwa [absN_rung]
theorem absN_Z (a : Nat) : Z32 (absN a) = (Flt.U single (Flt.rung single a) : Nat) := by
  unfold Z32 Flt.Z; rw [absN_neg, absN_rung]; rfl
theorem negF_abs {a : Nat} (ha : a < 2 ^ 32) (h : Flt.neg single a = true) : Op.negFloat .f32 a = absN a := by
  unfold Flt.neg at h; rw [sw_single] at h
  have h1 : a / 2 ^ 31 < 2 := Nat.div_lt_of_lt_mul (by omega)
  have h2 : a / 2 ^ 31 ≠ 0 := fun e => by rw [e] at h; simp at h
  have h3 : a = 2 ^ 31 + a % 2 ^ 31 := by omega
  show a ^^^ 2 ^ 31 = absN a
  unfold absN
  apply Nat.eq_of_testBit_eq
  intro i
  rw [Nat.testBit_xor, Nat.testBit_two_pow, Nat.testBit_mod_two_pow]
  rcases Nat.lt_trichotomy i 31 with h | h | h
  · have : ¬ 31 = i := by omega
    simp [h, this]
  · subst h
    have : a.testBit 31 = true := by
      rw [Nat.testBit_eq_decide_div_mod_eq]
      have : a / 2 ^ 31 = 1 := by omega
      rw [this]; rfl
    simp [this]
  · have h4 : ¬ 31 = i := by omega
    have h5 : ¬ i < 31 := by omega
    have h6 : a.testBit i = false := Nat.testBit_lt_two_pow (Nat.lt_of_lt_of_le ha (Nat.pow_le_pow_right (by omega) (by omega)))
    simp [h4, h5, h6]
/-- The size of a number as the reference has it. -/
def sizeS (a : Nat) : Nat := if FloatKind.f32.format.order a 0 == some .lt then absN a else a
theorem order_Z {a b : Nat} (ha : ¬ Flt.NaN single a) (hb : ¬ Flt.NaN single b) : FloatKind.f32.format.order a b = some (compare (Z32 a) (Z32 b)) := Flt.order_num single (by decide) ha hb
theorem neg_Z {a : Nat} (h : Z32 a < 0) : Flt.neg single a = true := by
  unfold Z32 Flt.Z Flt.sg at h
  split at h
  · assumption
  · omega
theorem abs_Z_pos {a : Nat} (h : 0 ≤ Z32 a) : Z32 (absN a) = Z32 a := by
  rw [absN_Z]
  unfold Z32 Flt.Z Flt.sg at *
  split at h
  · rename_i hn; rw [if_pos hn]; omega
  · rename_i hn; rw [if_neg hn]
theorem gt_iff {a b : Nat} (ha : ¬ Flt.NaN single a) (hb : ¬ Flt.NaN single b) : (FloatKind.f32.format.order a b == some .gt) = true ↔ Z32 b < Z32 a := by
  rw [order_Z ha hb]
  simp only [beq_iff_eq, Option.some.injEq]
  exact Int.compare_eq_gt
theorem fsub_lt {a b : Nat} (ha : Fin32 a) (hb : Fin32 b) : fsub a b < 2 ^ 32 := by
  unfold fsub
  rw [Flt.sub_fin single ha hb]
  simp only [Option.getD_some]
  have := Flt.G_lt single (Flt.Z single a - Flt.Z single b).natAbs 0
  have hsw := sw_single
  unfold Ieee.Format.word
  split <;> omega
theorem specSize_q {v : Nat} (hv : ¬ Flt.NaN single v) (hl : v < 2 ^ 32) (w : World) (n : Nat) : Calls Tryd.prog 37 #[.float .f32 v] (w.drewN n) fun e w' => e = .returned (.float .f32 (sizeS v)) ∧ ∃ m, w' = w.drewN m := by
  refine quiet_same ?_
  unfold sizeS
  cases hc : (FloatKind.f32.format.order v 0 == some .lt)
  · go_enter Tryd.func37, Tryd.ntmps37
    go_wp2
    go_ret
    exact ⟨rfl, rfl⟩
  · have hz : Z32 v < 0 := by
      rw [order_Z hv (by decide)] at hc
      simp only [beq_iff_eq, Option.some.injEq] at hc
      have := Int.compare_eq_lt.1 hc
      rwa [show Z32 0 = 0 from Z_zero] at this
    have hneg := negF_abs hl (neg_Z hz)
    have hru : ∀ w, (Op.unary .neg (.float .f32 v)).run Tryd.prog w = .ok (.float .f32 (absN v)) w := fun w => by rw [← hneg]; rfl
    clear hz hneg hv hl
    go_enter Tryd.func37, Tryd.ntmps37
    go_wp2
    go_ret
    exact ⟨rfl, rfl⟩
end Go.Proofs.YtihddajpkcjokaaDoor

/-! Contracts of GainPlate and OverPlate, the reference's and the program's, and the laws on them. -/
set_option linter.unusedVariables false
set_option linter.unusedSimpArgs false
namespace Go.Proofs.YtihddajpkcjokaaDoor
open Go.RowKit Ieee

set_option maxRecDepth 100000 in
set_option maxHeartbeats 3200000 in
theorem specGainP_any (x y : Int) (F : Nat → Nat) (w : World) (lx : -128 ≤ x) (ux : x ≤ 127) (ly : -128 ≤ y) (uy : y ≤ 127) (x9 : Nat) : Calls Tryd.prog 20 #[.agg (plate x y F), .float .f32 x9] w fun e w' => e = .returned (.tuple #[.agg (if plateB x y F && gainB x9 then plate x y (mapA x.toNat y.toNat (fun i => gained (F i) x9) F) else plate 0 0 (fun _ => 0)), .int .i64 (if plateB x y F then (if gainB x9 then 0 else 2) else 1)]) ∧ Below w.heap.size w w' := by
  have hz : Tryd.zeroCells35 = row [.int .i8 0, .int .i8 0] 64 (fun _ => 0) := rfl
  cases ho : plateB x y F
  · go_enter Tryd.func20, Tryd.ntmps20
    go_wp2_with (first | (go_at_call 43; (with_reducible refine (specPOk_any x y F _ lx ux ly uy _ ?_).mono ?_); (focus (repeat (first | (with_reducible assumption) | ((with_reducible refine blk_new _ _ _ ?_); focus (simp; done)) | ((with_reducible refine blk_old _ _ _ ?_ ?_); focus (simp; done)) | ((with_reducible refine blk_old _ _ _ ?_ ?_); focus (first | omega | (simp; omega))) | ((with_reducible apply blk_set); focus (simp; done)) | ((with_reducible refine blk_off _ _ _ _ ?_ ?_); focus (simp; done)) | ((with_reducible refine blk_offc _ _ _ _ ?_ ?_); focus (first | (simp; done) | omega | (simp; omega))) | ((with_reducible refine blk_off _ _ _ _ ?_ ?_); focus (first | omega | (simp; omega))) | (with_reducible refine blk_drew _ _ ?_) | ((with_reducible refine blk_below (by assumption) ?_ ?_); focus (simp; done)) | ((with_reducible refine blk_below (by assumption) ?_ ?_); focus (first | omega | (simp; omega)))))); rintro e w' ⟨rfl, rfl⟩) | ((with_reducible refine at_store 35 ?_); refine wpList_store_part rfl 35 _ _ rfl _ 0 _ rfl rfl _ _ (by repeat (first | (with_reducible assumption) | ((with_reducible refine blk_new _ _ _ ?_); focus (simp; done)) | ((with_reducible refine blk_old _ _ _ ?_ ?_); focus (simp; done)) | ((with_reducible refine blk_old _ _ _ ?_ ?_); focus (first | omega | (simp; omega))) | ((with_reducible apply blk_set); focus (simp; done)) | ((with_reducible refine blk_off _ _ _ _ ?_ ?_); focus (simp; done)) | ((with_reducible refine blk_offc _ _ _ _ ?_ ?_); focus (first | (simp; done) | omega | (simp; omega))) | ((with_reducible refine blk_off _ _ _ _ ?_ ?_); focus (first | omega | (simp; omega))) | (with_reducible refine blk_drew _ _ ?_) | ((with_reducible refine blk_below (by assumption) ?_ ?_); focus (simp; done)) | ((with_reducible refine blk_below (by assumption) ?_ ?_); focus (first | omega | (simp; omega))))) (by rw [row_size]; kernel_rfl) (by simp [row_size]) (row_cells _ _ _ rfl) _ (row_over _ _ 64 _ _ (by simp)) ?_) | ((with_reducible refine at_load 35 ?_); refine wpList_load_part rfl 35 _ rfl _ 0 66 rfl _ _ _ _ (by repeat (first | (with_reducible assumption) | ((with_reducible refine blk_new _ _ _ ?_); focus (simp; done)) | ((with_reducible refine blk_old _ _ _ ?_ ?_); focus (simp; done)) | ((with_reducible refine blk_old _ _ _ ?_ ?_); focus (first | omega | (simp; omega))) | ((with_reducible apply blk_set); focus (simp; done)) | ((with_reducible refine blk_off _ _ _ _ ?_ ?_); focus (simp; done)) | ((with_reducible refine blk_offc _ _ _ _ ?_ ?_); focus (first | (simp; done) | omega | (simp; omega))) | ((with_reducible refine blk_off _ _ _ _ ?_ ?_); focus (first | omega | (simp; omega))) | (with_reducible refine blk_drew _ _ ?_) | ((with_reducible refine blk_below (by assumption) ?_ ?_); focus (simp; done)) | ((with_reducible refine blk_below (by assumption) ?_ ?_); focus (first | omega | (simp; omega))))) Tryd.underlying35 rfl (by kernel_rfl) (by simp [row_size]) _ (row_all [_, _] 64 _) ?_) | (go_at_call 32; (with_reducible refine (specGain_any _ _).mono ?_); rintro e w' ⟨rfl, rfl⟩) | go_in)
    refine bodyPost_ret (v := .tuple #[.agg (plate 0 0 (fun _ => 0)), .int .i64 1]) ?_ ?_ ?_
    · refine results_row_tmp Tryd.results20 _ _ _ 35 (plate 0 0 (fun _ => 0)) (0, 0) _ _ rfl rfl ?_ Tryd.underlying35 rfl (by simp only [row_size]; kernel_rfl)
      exact (by repeat (first | (with_reducible assumption) | ((with_reducible refine blk_new _ _ _ ?_); focus (simp; done)) | ((with_reducible refine blk_old _ _ _ ?_ ?_); focus (simp; done)) | ((with_reducible refine blk_old _ _ _ ?_ ?_); focus (first | omega | (simp; omega))) | ((with_reducible apply blk_set); focus (simp; done)) | ((with_reducible refine blk_off _ _ _ _ ?_ ?_); focus (simp; done)) | ((with_reducible refine blk_offc _ _ _ _ ?_ ?_); focus (first | (simp; done) | omega | (simp; omega))) | ((with_reducible refine blk_off _ _ _ _ ?_ ?_); focus (first | omega | (simp; omega))) | (with_reducible refine blk_drew _ _ ?_) | ((with_reducible refine blk_below (by assumption) ?_ ?_); focus (simp; done)) | ((with_reducible refine blk_below (by assumption) ?_ ?_); focus (first | omega | (simp; omega)))))
    · rfl
    · exact ⟨rfl, (by repeat (first | (with_reducible assumption) | (with_reducible exact Below.refl _ _) | ((with_reducible refine bel_alloc _ ?_ ?_); focus (first | omega | (simp; done) | (simp; omega))) | ((with_reducible refine bel_row _ ?_ ?_); focus (first | omega | (simp; done) | (simp; omega))) | ((with_reducible refine bel_cell _ ?_ ?_); focus (first | omega | (simp; done) | (simp; omega))) | (with_reducible refine Below.drew ?_) | (with_reducible refine below_wideW _ ?_) | ((with_reducible refine bel_next (by assumption) ?_ ?_); focus (first | omega | (simp; done) | (simp; omega)))))⟩
  · cases hg : gainB x9
    · go_enter Tryd.func20, Tryd.ntmps20
      go_wp2_with (first | (go_at_call 43; (with_reducible refine (specPOk_any x y F _ lx ux ly uy _ ?_).mono ?_); (focus (repeat (first | (with_reducible assumption) | ((with_reducible refine blk_new _ _ _ ?_); focus (simp; done)) | ((with_reducible refine blk_old _ _ _ ?_ ?_); focus (simp; done)) | ((with_reducible refine blk_old _ _ _ ?_ ?_); focus (first | omega | (simp; omega))) | ((with_reducible apply blk_set); focus (simp; done)) | ((with_reducible refine blk_off _ _ _ _ ?_ ?_); focus (simp; done)) | ((with_reducible refine blk_offc _ _ _ _ ?_ ?_); focus (first | (simp; done) | omega | (simp; omega))) | ((with_reducible refine blk_off _ _ _ _ ?_ ?_); focus (first | omega | (simp; omega))) | (with_reducible refine blk_drew _ _ ?_) | ((with_reducible refine blk_below (by assumption) ?_ ?_); focus (simp; done)) | ((with_reducible refine blk_below (by assumption) ?_ ?_); focus (first | omega | (simp; omega)))))); rintro e w' ⟨rfl, rfl⟩) | ((with_reducible refine at_store 35 ?_); refine wpList_store_part rfl 35 _ _ rfl _ 0 _ rfl rfl _ _ (by repeat (first | (with_reducible assumption) | ((with_reducible refine blk_new _ _ _ ?_); focus (simp; done)) | ((with_reducible refine blk_old _ _ _ ?_ ?_); focus (simp; done)) | ((with_reducible refine blk_old _ _ _ ?_ ?_); focus (first | omega | (simp; omega))) | ((with_reducible apply blk_set); focus (simp; done)) | ((with_reducible refine blk_off _ _ _ _ ?_ ?_); focus (simp; done)) | ((with_reducible refine blk_offc _ _ _ _ ?_ ?_); focus (first | (simp; done) | omega | (simp; omega))) | ((with_reducible refine blk_off _ _ _ _ ?_ ?_); focus (first | omega | (simp; omega))) | (with_reducible refine blk_drew _ _ ?_) | ((with_reducible refine blk_below (by assumption) ?_ ?_); focus (simp; done)) | ((with_reducible refine blk_below (by assumption) ?_ ?_); focus (first | omega | (simp; omega))))) (by rw [row_size]; kernel_rfl) (by simp [row_size]) (row_cells _ _ _ rfl) _ (row_over _ _ 64 _ _ (by simp)) ?_) | ((with_reducible refine at_load 35 ?_); refine wpList_load_part rfl 35 _ rfl _ 0 66 rfl _ _ _ _ (by repeat (first | (with_reducible assumption) | ((with_reducible refine blk_new _ _ _ ?_); focus (simp; done)) | ((with_reducible refine blk_old _ _ _ ?_ ?_); focus (simp; done)) | ((with_reducible refine blk_old _ _ _ ?_ ?_); focus (first | omega | (simp; omega))) | ((with_reducible apply blk_set); focus (simp; done)) | ((with_reducible refine blk_off _ _ _ _ ?_ ?_); focus (simp; done)) | ((with_reducible refine blk_offc _ _ _ _ ?_ ?_); focus (first | (simp; done) | omega | (simp; omega))) | ((with_reducible refine blk_off _ _ _ _ ?_ ?_); focus (first | omega | (simp; omega))) | (with_reducible refine blk_drew _ _ ?_) | ((with_reducible refine blk_below (by assumption) ?_ ?_); focus (simp; done)) | ((with_reducible refine blk_below (by assumption) ?_ ?_); focus (first | omega | (simp; omega))))) Tryd.underlying35 rfl (by kernel_rfl) (by simp [row_size]) _ (row_all [_, _] 64 _) ?_) | (go_at_call 32; (with_reducible refine (specGain_any _ _).mono ?_); rintro e w' ⟨rfl, rfl⟩) | go_in)
      refine bodyPost_ret (v := .tuple #[.agg (plate 0 0 (fun _ => 0)), .int .i64 2]) ?_ ?_ ?_
      · refine results_row_tmp Tryd.results20 _ _ _ 35 (plate 0 0 (fun _ => 0)) (0, 0) _ _ rfl rfl ?_ Tryd.underlying35 rfl (by simp only [row_size]; kernel_rfl)
        exact (by repeat (first | (with_reducible assumption) | ((with_reducible refine blk_new _ _ _ ?_); focus (simp; done)) | ((with_reducible refine blk_old _ _ _ ?_ ?_); focus (simp; done)) | ((with_reducible refine blk_old _ _ _ ?_ ?_); focus (first | omega | (simp; omega))) | ((with_reducible apply blk_set); focus (simp; done)) | ((with_reducible refine blk_off _ _ _ _ ?_ ?_); focus (simp; done)) | ((with_reducible refine blk_offc _ _ _ _ ?_ ?_); focus (first | (simp; done) | omega | (simp; omega))) | ((with_reducible refine blk_off _ _ _ _ ?_ ?_); focus (first | omega | (simp; omega))) | (with_reducible refine blk_drew _ _ ?_) | ((with_reducible refine blk_below (by assumption) ?_ ?_); focus (simp; done)) | ((with_reducible refine blk_below (by assumption) ?_ ?_); focus (first | omega | (simp; omega)))))
      · rfl
      · exact ⟨rfl, (by repeat (first | (with_reducible assumption) | (with_reducible exact Below.refl _ _) | ((with_reducible refine bel_alloc _ ?_ ?_); focus (first | omega | (simp; done) | (simp; omega))) | ((with_reducible refine bel_row _ ?_ ?_); focus (first | omega | (simp; done) | (simp; omega))) | ((with_reducible refine bel_cell _ ?_ ?_); focus (first | omega | (simp; done) | (simp; omega))) | (with_reducible refine Below.drew ?_) | (with_reducible refine below_wideW _ ?_) | ((with_reducible refine bel_next (by assumption) ?_ ?_); focus (first | omega | (simp; done) | (simp; omega)))))⟩
    · obtain ⟨a, b, rfl, rfl, la, ha, lb, hb, hp, hz0⟩ := plateB_size ho
      have HP := Lib.hid hp
      clear hp hz0
      go_enter Tryd.func20, Tryd.ntmps20
      go_wp2_with (first | (go_at_call 43; (with_reducible refine (specPOk_any a b F _ (by omega) (by omega) (by omega) (by omega) _ ?_).mono ?_); (focus (repeat (first | (with_reducible assumption) | ((with_reducible refine blk_new _ _ _ ?_); focus (simp; done)) | ((with_reducible refine blk_old _ _ _ ?_ ?_); focus (simp; done)) | ((with_reducible refine blk_old _ _ _ ?_ ?_); focus (first | omega | (simp; omega))) | ((with_reducible apply blk_set); focus (simp; done)) | ((with_reducible refine blk_off _ _ _ _ ?_ ?_); focus (simp; done)) | ((with_reducible refine blk_offc _ _ _ _ ?_ ?_); focus (first | (simp; done) | omega | (simp; omega))) | ((with_reducible refine blk_off _ _ _ _ ?_ ?_); focus (first | omega | (simp; omega))) | (with_reducible refine blk_drew _ _ ?_) | ((with_reducible refine blk_below (by assumption) ?_ ?_); focus (simp; done)) | ((with_reducible refine blk_below (by assumption) ?_ ?_); focus (first | omega | (simp; omega)))))); rintro e w' ⟨rfl, rfl⟩) | ((with_reducible refine at_store 35 ?_); refine wpList_store_part rfl 35 _ _ rfl _ 0 _ rfl rfl _ _ (by repeat (first | (with_reducible assumption) | ((with_reducible refine blk_new _ _ _ ?_); focus (simp; done)) | ((with_reducible refine blk_old _ _ _ ?_ ?_); focus (simp; done)) | ((with_reducible refine blk_old _ _ _ ?_ ?_); focus (first | omega | (simp; omega))) | ((with_reducible apply blk_set); focus (simp; done)) | ((with_reducible refine blk_off _ _ _ _ ?_ ?_); focus (simp; done)) | ((with_reducible refine blk_offc _ _ _ _ ?_ ?_); focus (first | (simp; done) | omega | (simp; omega))) | ((with_reducible refine blk_off _ _ _ _ ?_ ?_); focus (first | omega | (simp; omega))) | (with_reducible refine blk_drew _ _ ?_) | ((with_reducible refine blk_below (by assumption) ?_ ?_); focus (simp; done)) | ((with_reducible refine blk_below (by assumption) ?_ ?_); focus (first | omega | (simp; omega))))) (by rw [row_size]; kernel_rfl) (by simp [row_size]) (row_cells _ _ _ rfl) _ (row_over _ _ 64 _ _ (by simp)) ?_) | ((with_reducible refine at_load 35 ?_); refine wpList_load_part rfl 35 _ rfl _ 0 66 rfl _ _ _ _ (by repeat (first | (with_reducible assumption) | ((with_reducible refine blk_new _ _ _ ?_); focus (simp; done)) | ((with_reducible refine blk_old _ _ _ ?_ ?_); focus (simp; done)) | ((with_reducible refine blk_old _ _ _ ?_ ?_); focus (first | omega | (simp; omega))) | ((with_reducible apply blk_set); focus (simp; done)) | ((with_reducible refine blk_off _ _ _ _ ?_ ?_); focus (simp; done)) | ((with_reducible refine blk_offc _ _ _ _ ?_ ?_); focus (first | (simp; done) | omega | (simp; omega))) | ((with_reducible refine blk_off _ _ _ _ ?_ ?_); focus (first | omega | (simp; omega))) | (with_reducible refine blk_drew _ _ ?_) | ((with_reducible refine blk_below (by assumption) ?_ ?_); focus (simp; done)) | ((with_reducible refine blk_below (by assumption) ?_ ?_); focus (first | omega | (simp; omega))))) Tryd.underlying35 rfl (by kernel_rfl) (by simp [row_size]) _ (row_all [_, _] 64 _) ?_) | (go_at_call 32; (with_reducible refine (specGain_any _ _).mono ?_); rintro e w' ⟨rfl, rfl⟩) | go_in)
      go_loopw [6] (fun i wr => ∃ k : Nat, k ≤ 64 ∧ i = .int .i64 k ∧ wr.heap[w.heap.size]? = some (.cells (plate a b (mapC a b (fun i => gained (F i) x9) F (cntC a b k))) 35 (0, 0)) ∧ wr.heap[w.heap.size + 1]? = some (.cells (plate 0 0 (fun _ => 0)) 35 (0, 0)) ∧ Below w.heap.size w wr) (fun i _ => 64 - (intOf i).toNat)
      case atStart => exact ⟨0, by omega, rfl, by rw [show cntC a b 0 = 0 from rfl, mapC_0]; exact (by repeat (first | (with_reducible assumption) | ((with_reducible refine blk_new _ _ _ ?_); focus (simp; done)) | ((with_reducible refine blk_old _ _ _ ?_ ?_); focus (simp; done)) | ((with_reducible refine blk_old _ _ _ ?_ ?_); focus (first | omega | (simp; omega))) | ((with_reducible apply blk_set); focus (simp; done)) | ((with_reducible refine blk_off _ _ _ _ ?_ ?_); focus (simp; done)) | ((with_reducible refine blk_offc _ _ _ _ ?_ ?_); focus (first | (simp; done) | omega | (simp; omega))) | ((with_reducible refine blk_off _ _ _ _ ?_ ?_); focus (first | omega | (simp; omega))) | (with_reducible refine blk_drew _ _ ?_) | ((with_reducible refine blk_below (by assumption) ?_ ?_); focus (simp; done)) | ((with_reducible refine blk_below (by assumption) ?_ ?_); focus (first | omega | (simp; omega))))), (by repeat (first | (with_reducible assumption) | ((with_reducible refine blk_new _ _ _ ?_); focus (simp; done)) | ((with_reducible refine blk_old _ _ _ ?_ ?_); focus (simp; done)) | ((with_reducible refine blk_old _ _ _ ?_ ?_); focus (first | omega | (simp; omega))) | ((with_reducible apply blk_set); focus (simp; done)) | ((with_reducible refine blk_off _ _ _ _ ?_ ?_); focus (simp; done)) | ((with_reducible refine blk_offc _ _ _ _ ?_ ?_); focus (first | (simp; done) | omega | (simp; omega))) | ((with_reducible refine blk_off _ _ _ _ ?_ ?_); focus (first | omega | (simp; omega))) | (with_reducible refine blk_drew _ _ ?_) | ((with_reducible refine blk_below (by assumption) ?_ ?_); focus (simp; done)) | ((with_reducible refine blk_below (by assumption) ?_ ?_); focus (first | omega | (simp; omega))))), (by repeat (first | (with_reducible assumption) | (with_reducible exact Below.refl _ _) | ((with_reducible refine bel_alloc _ ?_ ?_); focus (first | omega | (simp; done) | (simp; omega))) | ((with_reducible refine bel_row _ ?_ ?_); focus (first | omega | (simp; done) | (simp; omega))) | ((with_reducible refine bel_cell _ ?_ ?_); focus (first | omega | (simp; done) | (simp; omega))) | (with_reducible refine Below.drew ?_) | (with_reducible refine below_wideW _ ?_) | ((with_reducible refine bel_next (by assumption) ?_ ?_); focus (first | omega | (simp; done) | (simp; omega)))))⟩
      case round =>
        obtain ⟨k, hk, rfl, h3, h2, h5⟩ := hrel
        have p0 : wr.cell? ⟨w.heap.size, 0, none⟩ = some (.int .i8 a) := (cell_of_row wr _ 0 _ _ _ h3).trans (row_g0 _ _ _ _)
        have p1 : wr.cell? ⟨w.heap.size, 1, none⟩ = some (.int .i8 b) := (cell_of_row wr _ 1 _ _ _ h3).trans (row_g1 _ _ _ _ _)
        by_cases hlt : k < 64
        · have k0 : (0 : Int) ≤ k := by omega
          have k64 : (k : Int) < 64 := by omega
          have co : wr.cell? ⟨w.heap.size, 2 + k, none⟩ = some (.float .f32 (F k)) := by
            have := (cell_of_row wr _ (2 + k) _ _ _ h3).trans (row_k2 _ _ _ _ hlt)
            rwa [mapC_keep _ _ hlt rfl] at this
          have ff : wr.frozen? ⟨w.heap.size, 2 + k, none⟩ = false := frozen_of_row wr _ _ _ _ h3
          have H2 := Lib.hid h2
          have H3 := Lib.hid h3
          have H5 := Lib.hid h5
          clear h2 h3 h5
          cases hr : isC a b k
          · have HR := Lib.hid hr
            have hIs : ∀ w' : World, w'.cell? ⟨w.heap.size, 0, none⟩ = some (.int .i8 a) → w'.cell? ⟨w.heap.size, 1, none⟩ = some (.int .i8 b) → Calls Tryd.prog 44 #[.pointer (some ⟨w.heap.size, 0, none⟩), .int .i64 k] w' fun e w'' => e = .returned (.bool false) ∧ w' = w'' := fun w' c0 c1 => by have := specIs_any ha hb hlt w' (w.heap.size) c0 c1; rwa [HR.out] at this
            clear hr
            go_wp2_with (first | (go_at_call 44; (with_reducible refine (hIs _ (by assumption) (by assumption)).mono ?_); rintro e w' ⟨rfl, rfl⟩) | go_in)
            go_roundw
            case rel => exact ⟨k + 1, by omega, by go_num, by rw [cnt_skip a b k HR.out]; exact H3.out, H2.out, H5.out⟩
            case measure => simp [intOf]; omega
          · have HR := Lib.hid hr
            have hgd := fun w => specGained_any (F k) x9 w (HP.out k hlt hr) hg
            have hIs : ∀ w' : World, w'.cell? ⟨w.heap.size, 0, none⟩ = some (.int .i8 a) → w'.cell? ⟨w.heap.size, 1, none⟩ = some (.int .i8 b) → Calls Tryd.prog 44 #[.pointer (some ⟨w.heap.size, 0, none⟩), .int .i64 k] w' fun e w'' => e = .returned (.bool true) ∧ w' = w'' := fun w' c0 c1 => by have := specIs_any ha hb hlt w' (w.heap.size) c0 c1; rwa [HR.out] at this
            clear hr
            go_wp2_with (first | (go_at_call 44; (with_reducible refine (hIs _ (by assumption) (by assumption)).mono ?_); rintro e w' ⟨rfl, rfl⟩) | (go_at_call 33; (with_reducible refine (hgd _).mono ?_); rintro e w' ⟨rfl, rfl⟩) | go_in)
            go_roundw
            case rel => exact ⟨k + 1, by omega, by go_num, put_cnt (f := (fun i => gained (F i) x9)) ha hb hlt HR.out rfl rfl H3.out, put_off (by omega) H2.out, bel_cell _ (by simp) H5.out⟩
            case measure => simp [intOf]; omega
        · obtain rfl : k = 64 := by omega
          rw [(cells_all a ha b hb).1, show plate a b (mapC a b (fun i => gained (F i) x9) F (a * b)) = plate a b (mapA a b (fun i => gained (F i) x9) F) from mapC_end ha hb _ _ _] at h3
          have H5 := Lib.hid h5
          have hz5 := h5.size
          clear h5
          go_wp2_with (first | ((with_reducible refine at_store 35 ?_); refine wpList_store_part rfl 35 _ _ rfl _ 0 _ rfl rfl _ _ (by repeat (first | (with_reducible assumption) | ((with_reducible refine blk_new _ _ _ ?_); focus (simp; done)) | ((with_reducible refine blk_old _ _ _ ?_ ?_); focus (simp; done)) | ((with_reducible refine blk_old _ _ _ ?_ ?_); focus (first | omega | (simp; omega))) | ((with_reducible apply blk_set); focus (simp; done)) | ((with_reducible refine blk_off _ _ _ _ ?_ ?_); focus (simp; done)) | ((with_reducible refine blk_offc _ _ _ _ ?_ ?_); focus (first | (simp; done) | omega | (simp; omega))) | ((with_reducible refine blk_off _ _ _ _ ?_ ?_); focus (first | omega | (simp; omega))) | (with_reducible refine blk_drew _ _ ?_) | ((with_reducible refine blk_below (by assumption) ?_ ?_); focus (simp; done)) | ((with_reducible refine blk_below (by assumption) ?_ ?_); focus (first | omega | (simp; omega))))) (by rw [row_size]; kernel_rfl) (by simp [row_size]) (row_cells _ _ _ rfl) _ (row_over _ _ 64 _ _ (by simp)) ?_) | ((with_reducible refine at_load 35 ?_); refine wpList_load_part rfl 35 _ rfl _ 0 66 rfl _ _ _ _ (by repeat (first | (with_reducible assumption) | ((with_reducible refine blk_new _ _ _ ?_); focus (simp; done)) | ((with_reducible refine blk_old _ _ _ ?_ ?_); focus (simp; done)) | ((with_reducible refine blk_old _ _ _ ?_ ?_); focus (first | omega | (simp; omega))) | ((with_reducible apply blk_set); focus (simp; done)) | ((with_reducible refine blk_off _ _ _ _ ?_ ?_); focus (simp; done)) | ((with_reducible refine blk_offc _ _ _ _ ?_ ?_); focus (first | (simp; done) | omega | (simp; omega))) | ((with_reducible refine blk_off _ _ _ _ ?_ ?_); focus (first | omega | (simp; omega))) | (with_reducible refine blk_drew _ _ ?_) | ((with_reducible refine blk_below (by assumption) ?_ ?_); focus (simp; done)) | ((with_reducible refine blk_below (by assumption) ?_ ?_); focus (first | omega | (simp; omega))))) Tryd.underlying35 rfl (by kernel_rfl) (by simp [row_size]) _ (row_all [_, _] 64 _) ?_))
          have h5 := H5.out
          refine bodyPost_ret (v := .tuple #[.agg (plate a b (mapA a b (fun i => gained (F i) x9) F)), .int .i64 0]) ?_ ?_ ?_
          · refine results_row_tmp Tryd.results20 _ _ _ 35 (plate a b (mapA a b (fun i => gained (F i) x9) F)) (0, 0) _ _ rfl rfl ?_ Tryd.underlying35 rfl (by simp only [row_size]; kernel_rfl)
            exact (by repeat (first | (with_reducible assumption) | ((with_reducible refine blk_new _ _ _ ?_); focus (simp; done)) | ((with_reducible refine blk_old _ _ _ ?_ ?_); focus (simp; done)) | ((with_reducible refine blk_old _ _ _ ?_ ?_); focus (first | omega | (simp; omega))) | ((with_reducible apply blk_set); focus (simp; done)) | ((with_reducible refine blk_off _ _ _ _ ?_ ?_); focus (simp; done)) | ((with_reducible refine blk_offc _ _ _ _ ?_ ?_); focus (first | (simp; done) | omega | (simp; omega))) | ((with_reducible refine blk_off _ _ _ _ ?_ ?_); focus (first | omega | (simp; omega))) | (with_reducible refine blk_drew _ _ ?_) | ((with_reducible refine blk_below (by assumption) ?_ ?_); focus (simp; done)) | ((with_reducible refine blk_below (by assumption) ?_ ?_); focus (first | omega | (simp; omega)))))
          · rfl
          · exact ⟨rfl, (by repeat (first | (with_reducible assumption) | (with_reducible exact Below.refl _ _) | ((with_reducible refine bel_alloc _ ?_ ?_); focus (first | omega | (simp; done) | (simp; omega))) | ((with_reducible refine bel_row _ ?_ ?_); focus (first | omega | (simp; done) | (simp; omega))) | ((with_reducible refine bel_cell _ ?_ ?_); focus (first | omega | (simp; done) | (simp; omega))) | (with_reducible refine Below.drew ?_) | (with_reducible refine below_wideW _ ?_) | ((with_reducible refine bel_next (by assumption) ?_ ?_); focus (first | omega | (simp; done) | (simp; omega)))))⟩

theorem giveGain {a b : Nat} {F : Nat → Nat} {x9 B : Nat} (ha : a < 9) (hb : b < 9) (hp : ∀ i, i < 64 → isC a b i = true → partB (F i) = true) (hg : gainB x9 = true) (w : World) (hB : B < w.heap.size) (hc : w.cell? ⟨B, 0, none⟩ = some (.float .f32 x9)) : GivesDots Tryd.prog 42 #[.pointer (some ⟨B, 0, none⟩)] a b F (fun i => gained (F i) x9) w := by
  intro n W hn hbw
  have c0 : W.cell? ⟨B, 0, none⟩ = some (.float .f32 x9) := (hbw.cell (p := ⟨B, 0, none⟩) hB).trans hc
  have h64 := (cells_all a ha b hb).2
  obtain ⟨q1, q2, q3⟩ := cells_of a ha b hb n (by omega) hn
  have hgd := fun w => implGained_any (F (cellAt a n)) x9 w (hp _ q1 q2) hg
  clear q1 q2 q3 hp hn h64 hbw hc
  show Calls Tryd.prog 42 #[.int .i64 (cellAt a n : Nat), .float .f32 (F (cellAt a n)), .pointer (some ⟨B, 0, none⟩)] W _
  go_enter Tryd.func42, Tryd.ntmps42
  go_wp2_with (go_at_call 30; (with_reducible refine (hgd _).mono ?_); rintro e w' ⟨rfl, rfl⟩)
  go_ret
  exact ⟨rfl, 0, rfl⟩

set_option maxRecDepth 100000 in
set_option maxHeartbeats 3200000 in
theorem implGainP_any (x y : Int) (F : Nat → Nat) (w : World) (lx : -128 ≤ x) (ux : x ≤ 127) (ly : -128 ≤ y) (uy : y ≤ 127) (x9 : Nat) : Calls Tryd.prog 19 #[.agg (plate x y F), .float .f32 x9] w fun e w' => e = .returned (.tuple #[.agg (if plateB x y F && gainB x9 then plate x y (mapA x.toNat y.toNat (fun i => gained (F i) x9) F) else plate 0 0 (fun _ => 0)), .int .i64 (if plateB x y F then (if gainB x9 then 0 else 2) else 1)]) ∧ Below w.heap.size w w' := by
  have hz : Tryd.zeroCells35 = row [.int .i8 0, .int .i8 0] 64 (fun _ => 0) := rfl
  cases ho : plateB x y F
  · go_enter Tryd.func19, Tryd.ntmps19
    go_wp2_with (first | (go_at_call 22; (with_reducible refine (implPOk_any x y F _ lx ux ly uy).mono ?_); rintro e w1 ⟨rfl, hb1⟩; have hz1 := hb1.size; (try simp at hz1); obtain ⟨hc1, hf1⟩ := bcell hb1; (try have hlta : w.heap.size < w1.heap.size := by omega); (try have hltb : w.heap.size + 1 < w1.heap.size := by omega)) | ((with_reducible refine at_store 35 ?_); refine wpList_store_part rfl 35 _ _ rfl _ 0 _ rfl rfl _ _ (by repeat (first | (with_reducible assumption) | ((with_reducible refine blk_new _ _ _ ?_); focus (simp; done)) | ((with_reducible refine blk_old _ _ _ ?_ ?_); focus (simp; done)) | ((with_reducible refine blk_old _ _ _ ?_ ?_); focus (first | omega | (simp; omega))) | ((with_reducible apply blk_set); focus (simp; done)) | ((with_reducible refine blk_off _ _ _ _ ?_ ?_); focus (simp; done)) | ((with_reducible refine blk_offc _ _ _ _ ?_ ?_); focus (first | (simp; done) | omega | (simp; omega))) | ((with_reducible refine blk_off _ _ _ _ ?_ ?_); focus (first | omega | (simp; omega))) | (with_reducible refine blk_drew _ _ ?_) | ((with_reducible refine blk_below (by assumption) ?_ ?_); focus (simp; done)) | ((with_reducible refine blk_below (by assumption) ?_ ?_); focus (first | omega | (simp; omega))))) (by rw [row_size]; kernel_rfl) (by simp [row_size]) (row_cells _ _ _ rfl) _ (row_over _ _ 64 _ _ (by simp)) ?_) | ((with_reducible refine at_load 35 ?_); refine wpList_load_part rfl 35 _ rfl _ 0 66 rfl _ _ _ _ (by repeat (first | (with_reducible assumption) | ((with_reducible refine blk_new _ _ _ ?_); focus (simp; done)) | ((with_reducible refine blk_old _ _ _ ?_ ?_); focus (simp; done)) | ((with_reducible refine blk_old _ _ _ ?_ ?_); focus (first | omega | (simp; omega))) | ((with_reducible apply blk_set); focus (simp; done)) | ((with_reducible refine blk_off _ _ _ _ ?_ ?_); focus (simp; done)) | ((with_reducible refine blk_offc _ _ _ _ ?_ ?_); focus (first | (simp; done) | omega | (simp; omega))) | ((with_reducible refine blk_off _ _ _ _ ?_ ?_); focus (first | omega | (simp; omega))) | (with_reducible refine blk_drew _ _ ?_) | ((with_reducible refine blk_below (by assumption) ?_ ?_); focus (simp; done)) | ((with_reducible refine blk_below (by assumption) ?_ ?_); focus (first | omega | (simp; omega))))) Tryd.underlying35 rfl (by kernel_rfl) (by simp [row_size]) _ (row_all [_, _] 64 _) ?_) | (go_at_call 29; (with_reducible refine (implGain_any _ _).mono ?_); rintro e w' ⟨rfl, rfl⟩) | go_in)
    refine bodyPost_ret (v := .tuple #[.agg (plate 0 0 (fun _ => 0)), .int .i64 1]) ?_ ?_ ?_
    · refine results_row_tmp Tryd.results19 _ _ _ 35 (plate 0 0 (fun _ => 0)) (0, 0) _ _ rfl rfl ?_ Tryd.underlying35 rfl (by simp only [row_size]; kernel_rfl)
      exact (by repeat (first | (with_reducible assumption) | ((with_reducible refine blk_new _ _ _ ?_); focus (simp; done)) | ((with_reducible refine blk_old _ _ _ ?_ ?_); focus (simp; done)) | ((with_reducible refine blk_old _ _ _ ?_ ?_); focus (first | omega | (simp; omega))) | ((with_reducible apply blk_set); focus (simp; done)) | ((with_reducible refine blk_off _ _ _ _ ?_ ?_); focus (simp; done)) | ((with_reducible refine blk_offc _ _ _ _ ?_ ?_); focus (first | (simp; done) | omega | (simp; omega))) | ((with_reducible refine blk_off _ _ _ _ ?_ ?_); focus (first | omega | (simp; omega))) | (with_reducible refine blk_drew _ _ ?_) | ((with_reducible refine blk_below (by assumption) ?_ ?_); focus (simp; done)) | ((with_reducible refine blk_below (by assumption) ?_ ?_); focus (first | omega | (simp; omega)))))
    · rfl
    · exact ⟨rfl, (by repeat (first | (with_reducible assumption) | (with_reducible exact Below.refl _ _) | ((with_reducible refine bel_alloc _ ?_ ?_); focus (first | omega | (simp; done) | (simp; omega))) | ((with_reducible refine bel_row _ ?_ ?_); focus (first | omega | (simp; done) | (simp; omega))) | ((with_reducible refine bel_cell _ ?_ ?_); focus (first | omega | (simp; done) | (simp; omega))) | (with_reducible refine Below.drew ?_) | (with_reducible refine below_wideW _ ?_) | ((with_reducible refine bel_next (by assumption) ?_ ?_); focus (first | omega | (simp; done) | (simp; omega)))))⟩
  · cases hg : gainB x9
    · go_enter Tryd.func19, Tryd.ntmps19
      go_wp2_with (first | (go_at_call 22; (with_reducible refine (implPOk_any x y F _ lx ux ly uy).mono ?_); rintro e w1 ⟨rfl, hb1⟩; have hz1 := hb1.size; (try simp at hz1); obtain ⟨hc1, hf1⟩ := bcell hb1; (try have hlta : w.heap.size < w1.heap.size := by omega); (try have hltb : w.heap.size + 1 < w1.heap.size := by omega)) | ((with_reducible refine at_store 35 ?_); refine wpList_store_part rfl 35 _ _ rfl _ 0 _ rfl rfl _ _ (by repeat (first | (with_reducible assumption) | ((with_reducible refine blk_new _ _ _ ?_); focus (simp; done)) | ((with_reducible refine blk_old _ _ _ ?_ ?_); focus (simp; done)) | ((with_reducible refine blk_old _ _ _ ?_ ?_); focus (first | omega | (simp; omega))) | ((with_reducible apply blk_set); focus (simp; done)) | ((with_reducible refine blk_off _ _ _ _ ?_ ?_); focus (simp; done)) | ((with_reducible refine blk_offc _ _ _ _ ?_ ?_); focus (first | (simp; done) | omega | (simp; omega))) | ((with_reducible refine blk_off _ _ _ _ ?_ ?_); focus (first | omega | (simp; omega))) | (with_reducible refine blk_drew _ _ ?_) | ((with_reducible refine blk_below (by assumption) ?_ ?_); focus (simp; done)) | ((with_reducible refine blk_below (by assumption) ?_ ?_); focus (first | omega | (simp; omega))))) (by rw [row_size]; kernel_rfl) (by simp [row_size]) (row_cells _ _ _ rfl) _ (row_over _ _ 64 _ _ (by simp)) ?_) | ((with_reducible refine at_load 35 ?_); refine wpList_load_part rfl 35 _ rfl _ 0 66 rfl _ _ _ _ (by repeat (first | (with_reducible assumption) | ((with_reducible refine blk_new _ _ _ ?_); focus (simp; done)) | ((with_reducible refine blk_old _ _ _ ?_ ?_); focus (simp; done)) | ((with_reducible refine blk_old _ _ _ ?_ ?_); focus (first | omega | (simp; omega))) | ((with_reducible apply blk_set); focus (simp; done)) | ((with_reducible refine blk_off _ _ _ _ ?_ ?_); focus (simp; done)) | ((with_reducible refine blk_offc _ _ _ _ ?_ ?_); focus (first | (simp; done) | omega | (simp; omega))) | ((with_reducible refine blk_off _ _ _ _ ?_ ?_); focus (first | omega | (simp; omega))) | (with_reducible refine blk_drew _ _ ?_) | ((with_reducible refine blk_below (by assumption) ?_ ?_); focus (simp; done)) | ((with_reducible refine blk_below (by assumption) ?_ ?_); focus (first | omega | (simp; omega))))) Tryd.underlying35 rfl (by kernel_rfl) (by simp [row_size]) _ (row_all [_, _] 64 _) ?_) | (go_at_call 29; (with_reducible refine (implGain_any _ _).mono ?_); rintro e w' ⟨rfl, rfl⟩) | go_in)
      refine bodyPost_ret (v := .tuple #[.agg (plate 0 0 (fun _ => 0)), .int .i64 2]) ?_ ?_ ?_
      · refine results_row_tmp Tryd.results19 _ _ _ 35 (plate 0 0 (fun _ => 0)) (0, 0) _ _ rfl rfl ?_ Tryd.underlying35 rfl (by simp only [row_size]; kernel_rfl)
        exact (by repeat (first | (with_reducible assumption) | ((with_reducible refine blk_new _ _ _ ?_); focus (simp; done)) | ((with_reducible refine blk_old _ _ _ ?_ ?_); focus (simp; done)) | ((with_reducible refine blk_old _ _ _ ?_ ?_); focus (first | omega | (simp; omega))) | ((with_reducible apply blk_set); focus (simp; done)) | ((with_reducible refine blk_off _ _ _ _ ?_ ?_); focus (simp; done)) | ((with_reducible refine blk_offc _ _ _ _ ?_ ?_); focus (first | (simp; done) | omega | (simp; omega))) | ((with_reducible refine blk_off _ _ _ _ ?_ ?_); focus (first | omega | (simp; omega))) | (with_reducible refine blk_drew _ _ ?_) | ((with_reducible refine blk_below (by assumption) ?_ ?_); focus (simp; done)) | ((with_reducible refine blk_below (by assumption) ?_ ?_); focus (first | omega | (simp; omega)))))
      · rfl
      · exact ⟨rfl, (by repeat (first | (with_reducible assumption) | (with_reducible exact Below.refl _ _) | ((with_reducible refine bel_alloc _ ?_ ?_); focus (first | omega | (simp; done) | (simp; omega))) | ((with_reducible refine bel_row _ ?_ ?_); focus (first | omega | (simp; done) | (simp; omega))) | ((with_reducible refine bel_cell _ ?_ ?_); focus (first | omega | (simp; done) | (simp; omega))) | (with_reducible refine Below.drew ?_) | (with_reducible refine below_wideW _ ?_) | ((with_reducible refine bel_next (by assumption) ?_ ?_); focus (first | omega | (simp; done) | (simp; omega)))))⟩
    · obtain ⟨a, b, rfl, rfl, la, ha, lb, hb, hp, hz0⟩ := plateB_size ho
      have HP := Lib.hid hp
      clear hp hz0
      go_enter Tryd.func19, Tryd.ntmps19
      go_wp2_with (first | (go_at_call 22; (with_reducible refine (implPOk_any a b F _ (by omega) (by omega) (by omega) (by omega)).mono ?_); rintro e w1 ⟨rfl, hb1⟩; have hz1 := hb1.size; (try simp at hz1); obtain ⟨hc1, hf1⟩ := bcell hb1; (try have hlta : w.heap.size < w1.heap.size := by omega); (try have hltb : w.heap.size + 1 < w1.heap.size := by omega)) | ((with_reducible refine at_store 35 ?_); refine wpList_store_part rfl 35 _ _ rfl _ 0 _ rfl rfl _ _ (by repeat (first | (with_reducible assumption) | ((with_reducible refine blk_new _ _ _ ?_); focus (simp; done)) | ((with_reducible refine blk_old _ _ _ ?_ ?_); focus (simp; done)) | ((with_reducible refine blk_old _ _ _ ?_ ?_); focus (first | omega | (simp; omega))) | ((with_reducible apply blk_set); focus (simp; done)) | ((with_reducible refine blk_off _ _ _ _ ?_ ?_); focus (simp; done)) | ((with_reducible refine blk_offc _ _ _ _ ?_ ?_); focus (first | (simp; done) | omega | (simp; omega))) | ((with_reducible refine blk_off _ _ _ _ ?_ ?_); focus (first | omega | (simp; omega))) | (with_reducible refine blk_drew _ _ ?_) | ((with_reducible refine blk_below (by assumption) ?_ ?_); focus (simp; done)) | ((with_reducible refine blk_below (by assumption) ?_ ?_); focus (first | omega | (simp; omega))))) (by rw [row_size]; kernel_rfl) (by simp [row_size]) (row_cells _ _ _ rfl) _ (row_over _ _ 64 _ _ (by simp)) ?_) | ((with_reducible refine at_load 35 ?_); refine wpList_load_part rfl 35 _ rfl _ 0 66 rfl _ _ _ _ (by repeat (first | (with_reducible assumption) | ((with_reducible refine blk_new _ _ _ ?_); focus (simp; done)) | ((with_reducible refine blk_old _ _ _ ?_ ?_); focus (simp; done)) | ((with_reducible refine blk_old _ _ _ ?_ ?_); focus (first | omega | (simp; omega))) | ((with_reducible apply blk_set); focus (simp; done)) | ((with_reducible refine blk_off _ _ _ _ ?_ ?_); focus (simp; done)) | ((with_reducible refine blk_offc _ _ _ _ ?_ ?_); focus (first | (simp; done) | omega | (simp; omega))) | ((with_reducible refine blk_off _ _ _ _ ?_ ?_); focus (first | omega | (simp; omega))) | (with_reducible refine blk_drew _ _ ?_) | ((with_reducible refine blk_below (by assumption) ?_ ?_); focus (simp; done)) | ((with_reducible refine blk_below (by assumption) ?_ ?_); focus (first | omega | (simp; omega))))) Tryd.underlying35 rfl (by kernel_rfl) (by simp [row_size]) _ (row_all [_, _] 64 _) ?_) | (go_at_call 29; (with_reducible refine (implGain_any _ _).mono ?_); rintro e w' ⟨rfl, rfl⟩) | (go_at_call 41; (with_reducible refine (eachDot_any 42 #[.pointer (some ⟨w.heap.size + 1, 0, none⟩)] (fun args w => by kernel_rfl) a b la ha lb hb F (fun i => gained (F i) x9) _ (giveGain ha hb HP.out hg _ (by first | omega | (simp; done) | (simp; omega)) (by go_simp))).mono ?_); rintro e w2 ⟨rfl, hb2⟩; have hz2 := hb2.size; (try simp at hz2)) | go_in)
      refine bodyPost_ret (v := .tuple #[.agg (plate a b (mapA a b (fun i => gained (F i) x9) F)), .int .i64 0]) ?_ ?_ ?_
      · refine results_row_tmp Tryd.results19 _ _ _ 35 (plate a b (mapA a b (fun i => gained (F i) x9) F)) (0, 0) _ _ rfl rfl ?_ Tryd.underlying35 rfl (by simp only [row_size]; kernel_rfl)
        exact (by repeat (first | (with_reducible assumption) | ((with_reducible refine blk_new _ _ _ ?_); focus (simp; done)) | ((with_reducible refine blk_old _ _ _ ?_ ?_); focus (simp; done)) | ((with_reducible refine blk_old _ _ _ ?_ ?_); focus (first | omega | (simp; omega))) | ((with_reducible apply blk_set); focus (simp; done)) | ((with_reducible refine blk_off _ _ _ _ ?_ ?_); focus (simp; done)) | ((with_reducible refine blk_offc _ _ _ _ ?_ ?_); focus (first | (simp; done) | omega | (simp; omega))) | ((with_reducible refine blk_off _ _ _ _ ?_ ?_); focus (first | omega | (simp; omega))) | (with_reducible refine blk_drew _ _ ?_) | ((with_reducible refine blk_below (by assumption) ?_ ?_); focus (simp; done)) | ((with_reducible refine blk_below (by assumption) ?_ ?_); focus (first | omega | (simp; omega)))))
      · rfl
      · exact ⟨rfl, (by repeat (first | (with_reducible assumption) | (with_reducible exact Below.refl _ _) | ((with_reducible refine bel_alloc _ ?_ ?_); focus (first | omega | (simp; done) | (simp; omega))) | ((with_reducible refine bel_row _ ?_ ?_); focus (first | omega | (simp; done) | (simp; omega))) | ((with_reducible refine bel_cell _ ?_ ?_); focus (first | omega | (simp; done) | (simp; omega))) | (with_reducible refine Below.drew ?_) | (with_reducible refine below_wideW _ ?_) | ((with_reducible refine bel_next (by assumption) ?_ ?_); focus (first | omega | (simp; done) | (simp; omega)))))⟩

end Go.Proofs.YtihddajpkcjokaaDoor

/-! Contracts of OverPlate, the reference's and the program's, and the law on it. -/
set_option linter.unusedVariables false
set_option linter.unusedSimpArgs false
namespace Go.Proofs.YtihddajpkcjokaaDoor
open Go.RowKit Ieee

theorem fadd_lt {a b : Nat} (ha : Fin32 a) (hb : Fin32 b) : fadd a b < 2 ^ 32 := by
  unfold fadd
  rw [Flt.add_fin single ha hb]
  simp only [Option.getD_some]
  have := Flt.G_lt single (Flt.Z single a + Flt.Z single b).natAbs 0
  have hsw := sw_single
  unfold Ieee.Format.word
  split <;> omega
end Go.Proofs.YtihddajpkcjokaaDoor

/-! Contracts of TurnsUntilSteady, and the law on it. -/
set_option linter.unusedVariables false
set_option linter.unusedSimpArgs false
namespace Go.Proofs.YtihddajpkcjokaaDoor
open Go.RowKit Ieee

def leF (a b : Nat) : Bool := FloatKind.f32.format.order a b == some .lt || FloatKind.f32.format.order a b == some .eq
end Go.Proofs.YtihddajpkcjokaaDoor

/-! The frame of a law's proof: arguments that were read before the call read so behind it, where below the old heap nothing has turned. -/
namespace Go.Proofs.YtihddajpkcjokaaDoor
open Go.ChangeShapes Go.WideShapes Go.ChangeAt Go.RowKit

theorem Tryd.own : ownKnob Tryd.prog.godebug = none := by kernel_rfl
theorem Tryd.laidOut : laidOutB Tryd.prog = true := by kernel_rfl

section
variable {H : Type} {enc : TypeId × Value → H} {P : Program}
theorem carry_all (hl : laidOutB P = true) {W W' : World} (hb : Below W.heap.size W W') : ∀ {ts : List TypeId} {vs : List Value} {ds : List (DataW H)} {ps : List MemPlace},
    (ts.all fun t => P.readableRec t && decide (t < P.types.size)) = true → DataW.TrodAll enc P W 0 (fun _ => true) true ts vs ds ps → (∀ x ∈ ps, x.block < W.heap.size) →
    DataW.TrodAll enc P W' 0 (fun b => decide (b < W.heap.size)) true ts vs ds ps
  | [], vs, ds, ps, _, h, _ => by
    obtain ⟨rfl, rfl, rfl⟩ := trodAll_nil h
    exact trodAll_mk0
  | t :: ts, vs, ds, ps, hr, h, hlt => by
    obtain ⟨v, vs', d, ds', p, q, rfl, rfl, rfl, h1, h2⟩ := trodAll_cons h
    simp only [List.all_cons, Bool.and_eq_true, decide_eq_true_eq] at hr
    exact ⟨p, q, Below.trod hl hr.1.1 hr.1.2 h1 hb (fun x hx => hlt x (by simp [hx])), carry_all hl hb hr.2 h2 (fun x hx => hlt x (by simp [hx])), rfl⟩

theorem law_post {f : Func} {s : ChangeSpec} {W W' : World} {args : Array Value} {ds gs : List (DataW H)} {before : List MemPlace} {tb : TypeId} (hl : laidOutB P = true)
    (hW : DataW.Whole enc P f.params.toList s.vars false W args.toList ds gs before) (hb : Below W.heap.size W W') (hrt : f.resultTypes = #[tb]) (htb : P.underlying tb = some .bool)
    (hvars : s.vars = []) (hs : s.fn H (ds ++ gs) = { results := [.lit (.bool true)], args := ds }) (hts : (f.params.toList.all fun t => P.readableRec t && decide (t < P.types.size)) = true) :
    s.post enc P f false true false false W args (.bool true) W' := by
  have hW' := hW
  obtain ⟨p, q, hA, hV, rfl, hfz, hnd⟩ := hW
  rw [hvars] at hV
  obtain ⟨rfl, rfl⟩ := trodVars_none hV
  refine ⟨ds, [], _, [], p, [], hW', ?_, ?_, ?_, hb.frame _, fun h => by cases h⟩
  · rw [hs, hrt]
    exact trodAll_mk1 (shut_bool htb true)
  · rw [hs]
    exact carry_all hl hb hts hA (fun x hx => hW'.lt x (by simp [hx]))
  · rw [hs, hvars]
    rfl

end
end Go.Proofs.YtihddajpkcjokaaDoor

/-! Contracts of a source of numbers: next, pick and one; each under its own premises. -/
set_option linter.unusedVariables false
set_option linter.unusedSimpArgs false
namespace Go.Proofs.YtihddajpkcjokaaDoor
open Go.RowKit Ieee

/-- A slice of bytes whose places lie below a block. -/
def BytesAt (w : World) (base : Nat) (ao : Option Addr) (n : Nat) : Prop := n ≤ maxLen ∧ (0 < n → ∃ a : Addr, ao = some a ∧ a.block < base ∧ ∀ i : Nat, i < n → ∃ x : Int, w.cell? (a.add i) = some (.int .u8 x) ∧ 0 ≤ x ∧ x < 256)
/-- A source with at most k numbers taken. -/
def Src (w : World) (b k : Nat) (ao : Option Addr) (n cap : Nat) : Prop := ∃ (p : Nat) (sd : Int), p ≤ k ∧ w.heap[b]? = some (.cells #[.slice ao n cap, .int .i64 p, .int .u64 sd] 69 (0, 0))
/-- Nothing but one block is another. -/
def Moved (b : Nat) (w w' : World) : Prop := Below b w w' ∧ (∀ i, i ≠ b → w'.heap[i]? = w.heap[i]?) ∧ w'.heap.size = w.heap.size

theorem mask_small (y : Nat) (h : y < 2 ^ 64) : Go.bits .and .u64 (y : Int) 255 = ((y % 256 : Nat) : Int) := by
  have := u64_and_nat y 255 (by omega) (by omega)
  rw [nat_mask8] at this
  exact this
theorem wrap_nat (x : Int) : ∃ y : Nat, IntKind.u64.wrap x = (y : Int) ∧ y < 2 ^ 64 := by
  have h1 : IntKind.u64.wrap x = x % 18446744073709551616 := rfl
  exact ⟨(IntKind.u64.wrap x).toNat, by rw [h1]; omega, by rw [h1]; omega⟩
theorem mask_any (z : Int) : ∃ x : Int, wrap64 (Go.bits .and .u64 (IntKind.u64.wrap z / 1099511627776) 255) = x ∧ 0 ≤ x ∧ x < 256 := by
  obtain ⟨y, hy, hl⟩ := wrap_nat z
  rw [hy, show (y : Int) / 1099511627776 = ((y / 1099511627776 : Nat) : Int) from by omega, mask_small _ (by omega)]
  refine ⟨((y / 1099511627776 % 256 : Nat) : Int), ?_, by omega, by omega⟩
  unfold wrap64
  omega
theorem src_two {b p k n cap : Nat} {ao : Option Addr} {sd : Int} {w : World} (hp : p ≤ k) (hB : w.heap[b]? = some (.cells #[.slice ao n cap, .int .i64 p, .int .u64 sd] 69 (0, 0))) (m1 m2 : Nat) (q : Int) (hq : q = (p : Int) + 1) (y : Int) :
    Src ((((w.drewN m1).setCell ⟨b, 1, none⟩ (.int .i64 q)).setCell ⟨b, 2, none⟩ (.int .u64 y)).drewN m2) b (k + 1) ao n cap ∧ Moved b w ((((w.drewN m1).setCell ⟨b, 1, none⟩ (.int .i64 q)).setCell ⟨b, 2, none⟩ (.int .u64 y)).drewN m2) := by
  subst hq
  have h0 : (w.drewN m1).heap[b]? = some (.cells #[.slice ao n cap, .int .i64 p, .int .u64 sd] 69 (0, 0)) := hB
  have h1 : ((w.drewN m1).setCell ⟨b, 1, none⟩ (.int .i64 (p + 1))).heap[b]? = some (.cells #[.slice ao n cap, .int .i64 (p + 1), .int .u64 sd] 69 (0, 0)) := by
    rw [heap_setCell_same _ b _ _ _ _ h0]; rfl
  have h2 : (((w.drewN m1).setCell ⟨b, 1, none⟩ (.int .i64 (p + 1))).setCell ⟨b, 2, none⟩ (.int .u64 y)).heap[b]? = some (.cells #[.slice ao n cap, .int .i64 (p + 1), .int .u64 y] 69 (0, 0)) := by
    rw [heap_setCell_same _ b _ _ _ _ h1]; rfl
  refine ⟨⟨p + 1, y, by omega, h2⟩, ?_, ?_, ?_⟩
  · exact bel_drewN _ (((bel_drewN m1 (Below.refl b w)).setCell (Nat.le_refl b) _).setCell (Nat.le_refl b) _)
  · intro i hi
    show (((w.drewN m1).setCell ⟨b, 1, none⟩ (.int .i64 (p + 1))).setCell ⟨b, 2, none⟩ (.int .u64 y)).heap[i]? = _
    rw [heap_setCell_other _ _ i _ hi, heap_setCell_other _ _ i _ hi]
    rfl
  · show (((w.drewN m1).setCell ⟨b, 1, none⟩ (.int .i64 (p + 1))).setCell ⟨b, 2, none⟩ (.int .u64 y)).heap.size = _
    simp
theorem next_any (b k : Nat) (ao : Option Addr) (n cap : Nat) (w : World) (hk : k < 4611686018427387904) (hs : Src w b k ao n cap) (hb : BytesAt w b ao n) :
    Calls Tryd.prog 52 #[.pointer (some ⟨b, 0, none⟩)] w fun e w' => ∃ x : Int, e = .returned (.int .i64 x) ∧ 0 ≤ x ∧ x < 256 ∧ Src w' b (k + 1) ao n cap ∧ Moved b w w' := by
  obtain ⟨p, sd, hp, hB⟩ := hs
  obtain ⟨hm, hy⟩ := hb
  have c0 : w.cell? ⟨b, 0, none⟩ = some (.slice ao n cap) := cell_of_row w b 0 _ _ _ hB
  have c1 : w.cell? ⟨b, 1, none⟩ = some (.int .i64 p) := cell_of_row w b 1 _ _ _ hB
  have c2 : w.cell? ⟨b, 2, none⟩ = some (.int .u64 sd) := cell_of_row w b 2 _ _ _ hB
  have f1 : w.frozen? ⟨b, 1, none⟩ = false := by simp [World.frozen?, hB]
  have f2 : w.frozen? ⟨b, 2, none⟩ = false := by simp [World.frozen?, hB]
  by_cases hlt : p < n
  · obtain ⟨a, rfl, hab, hx⟩ := hy (by omega)
    obtain ⟨x, hxc, hx0, hx9⟩ := hx p hlt
    go_enter Tryd.func52, Tryd.ntmps52
    go_wp2
    go_quiet (fail)
    go_wp2
    go_quiet (fail)
    go_wp2
    go_quiet (fail)
    go_wp2
    go_ret
    exact ⟨x, rfl, hx0, hx9, src_two hp hB _ _ _ rfl _⟩
  · go_enter Tryd.func52, Tryd.ntmps52
    go_wp2
    go_quiet (fail)
    go_wp2
    go_quiet (fail)
    go_wp2
    obtain ⟨x, hx, hx0, hx9⟩ := mask_any (IntKind.u64.wrap (IntKind.u64.wrap (sd * 6364136223846793005)) + 1442695040888963407)
    rw [hx]
    go_ret
    exact ⟨x, rfl, hx0, hx9, src_two hp hB _ _ _ rfl _⟩
theorem Src.le {w : World} {b k k' : Nat} {ao : Option Addr} {n cap : Nat} (h : Src w b k ao n cap) (hk : k ≤ k') : Src w b k' ao n cap := by
  obtain ⟨p, sd, h1, h2⟩ := h
  exact ⟨p, sd, by omega, h2⟩
theorem Moved.trans {b : Nat} {w w1 w2 : World} (h : Moved b w w1) (h2 : Moved b w1 w2) : Moved b w w2 :=
  ⟨h.1.trans h2.1, fun i hi => (h2.2.1 i hi).trans (h.2.1 i hi), h2.2.2.trans h.2.2⟩
theorem Moved.bytes {b base : Nat} {w w1 : World} {ao : Option Addr} {n : Nat} (h : Moved b w w1) (hb : BytesAt w base ao n) (hl : base ≤ b) : BytesAt w1 base ao n := by
  refine ⟨hb.1, fun hn => ?_⟩
  obtain ⟨a, ha, hlt, hx⟩ := hb.2 hn
  refine ⟨a, ha, hlt, fun i hi => ?_⟩
  obtain ⟨x, h1, h2⟩ := hx i hi
  refine ⟨x, ?_, h2⟩
  rw [h.1.cell (p := a.add i) (by rw [show (a.add i).block = a.block from by unfold Addr.add; split <;> rfl]; exact Nat.lt_of_lt_of_le hlt hl)]
  exact h1
theorem pick_any (b k : Nat) (ao : Option Addr) (n cap : Nat) (m : Int) (w : World) (h1 : 1 < m) (h9 : m < 1099511627776) (hk : k < 2305843009213693952) (hs : Src w b k ao n cap) (hb : BytesAt w b ao n) :
    Calls Tryd.prog 28 #[.pointer (some ⟨b, 0, none⟩), .int .i64 m] w fun e w' => ∃ x : Int, e = .returned (.int .i64 x) ∧ 0 ≤ x ∧ x < m ∧ Src w' b (k + 2) ao n cap ∧ Moved b w w' := by
  go_enter Tryd.func28, Tryd.ntmps28
  go_wp2_with (fail)
  refine (next_any b k ao n cap _ (by omega) hs hb).mono ?_
  rintro e w1 ⟨x, rfl, hx0, hx9, hs1, hm1⟩
  by_cases hc : 200 < m
  · go_wp2_with (fail)
    refine (next_any b (k + 1) ao n cap _ (by omega) hs1 (hm1.bytes hb (Nat.le_refl _))).mono ?_
    rintro e w2 ⟨y, rfl, hy0, hy9, hs2, hm2⟩
    go_wp2
    go_ret
    exact ⟨_, rfl, Int.emod_nonneg _ (by omega), Int.emod_lt_of_pos _ (by omega), hs2, hm1.trans hm2⟩
  · go_wp2
    go_ret
    exact ⟨_, rfl, Int.emod_nonneg _ (by omega), Int.emod_lt_of_pos _ (by omega), hs1.le (by omega), hm1⟩
end Go.Proofs.YtihddajpkcjokaaDoor

/-! What is true of trains of small films, in plain arithmetic: no turn of the first two thousand makes a train that is not valid; what is steady, washed, thickest, falling, longer, mixed; each under its own premises. -/
set_option linter.unusedVariables false
set_option linter.unusedSimpArgs false
namespace Go.Proofs.YtihddajpkcjokaaDoor
open Go.RowKit Ieee

/-- A film of at most eight. -/
abbrev Small (a : Nat) : Prop := Up 1090519040 a
theorem Z_eight : Z32 1090519040 = 2 ^ 152 := by decide +kernel

/-! ### numbers on a grid -/
theorem grid (q e : Nat) (hq : q < 2 ^ 24) (he : e ≤ 200) : ∃ c, Fin32 c ∧ Z32 c = ((q * 2 ^ e : Nat) : Int) := by
  have hb : q < 2 * single.binade := hq
  have hlt : q * 2 ^ e < Flt.U single single.infRung := by
    rw [Flt.single_inf]
    have h1 : q * 2 ^ e ≤ q * 2 ^ 200 := Nat.mul_le_mul_left _ (Nat.pow_le_pow_right (by decide) he)
    have h2 : q * 2 ^ 200 < 2 ^ 24 * 2 ^ 200 := Nat.mul_lt_mul_of_pos_right hq (Nat.two_pow_pos 200)
    have h3 : 2 ^ (24 + 200) ≤ 2 ^ Flt.eS := Nat.pow_le_pow_right (by decide) (by rw [Flt.eS_eq]; omega)
    rw [Nat.pow_add] at h3
    omega
  have hU := Flt.G_short single (q := q) (e := e) hb (Nat.le_of_lt hlt)
  have hG : Flt.G single (q * 2 ^ e) 0 ≤ single.infRung := by unfold Flt.G; omega
  have hne : Flt.G single (q * 2 ^ e) 0 ≠ single.infRung := fun h => by rw [h] at hU; omega
  have hs := Flt.infRung_lt' single
  refine ⟨single.word false (Flt.G single (q * 2 ^ e) 0), ?_, ?_⟩
  · show Flt.rung single _ < _
    rw [Flt.rung_word single false (by omega)]; omega
  · show Flt.Z single _ = _
    rw [Flt.Z_word single false (by omega), hU]
    rfl

/-- The greatest number that a sum of films may reach. -/
def lid : Int := 2 ^ 166
/-! ### the sum of the films -/
def sumZ (G : Nat → Nat) : Nat → Int
  | 0 => 0
  | k + 1 => sumZ G k + Z32 (G k)
/-- Numbers without a sign. -/
def PosF (n : Nat) (G : Nat → Nat) : Prop := ∀ i, i < n → Fin32 (G i) ∧ 0 ≤ Z32 (G i)
theorem sumZ_pos {G : Nat → Nat} {m : Nat} (h : PosF m G) : ∀ n, n ≤ m → 0 ≤ sumZ G n
  | 0, _ => Int.le_refl _
  | n + 1, hn => by
    have := sumZ_pos h n (by omega)
    have := (h n (by omega)).2
    show 0 ≤ sumZ G n + Z32 (G n)
    omega
theorem sumZ_one {G : Nat → Nat} {m : Nat} (h : PosF m G) : ∀ n, n ≤ m → ∀ i, i < n → Z32 (G i) ≤ sumZ G n
  | 0, _, i, hi => by omega
  | n + 1, hn, i, hi => by
    show _ ≤ sumZ G n + Z32 (G n)
    have := sumZ_pos h n (by omega)
    have h2 := (h n (by omega)).2
    by_cases e : i = n
    · subst e; omega
    · have := sumZ_one h n (by omega) i (by omega); omega
/-! ### turns -/
theorem cellsB_yes {r : Int} {F : Nat → Nat} : ∀ n, (∀ i, i < n → cellB r F i = true) → cellsB r F n = true
  | 0, _ => rfl
  | n + 1, h => by
    show (cellsB r F n && cellB r F n) = true
    rw [cellsB_yes n (fun i hi => h i (by omega)), h n (by omega)]
    rfl
theorem trainB_of {r : Int} {s t : Nat} {F : Nat → Nat} (h1 : 2 ≤ r) (h2 : r ≤ 12) (hs : partB s = true) (ht : partB t = true) (hF : PosF r.toNat F) (hl : sumZ F r.toNat < lid) (hz : ∀ i : Nat, i < 12 → r ≤ (i : Int) → zeroB (F i) = true) : trainB r s t F = true := by
  refine trainB_yes h1 h2 hs ht (cellsB_yes 12 fun i hi => ?_)
  unfold cellB
  by_cases h : (i : Int) < r
  · rw [if_pos h]
    obtain ⟨x1, x2⟩ := hF i (by omega)
    have := sumZ_one hF r.toNat (Nat.le_refl _) i (by omega)
    exact (film_iff _).2 ⟨fin_nan x1, x2, by unfold lid at hl; omega⟩
  · rw [if_neg h]
    exact hz i hi (by omega)
/-- A train of small films: what is drawn. -/
structure SmallT (r : Int) (s t : Nat) (F : Nat → Nat) : Prop where
  h2 : 2 ≤ r
  h6 : r ≤ 6
  hs : partB s = true
  ht : partB t = true
  hF : ∀ i : Nat, i < 12 → Small (F i)
  hz : ∀ i : Nat, i < 12 → r ≤ (i : Int) → F i = 0
theorem small_sum {n : Nat} {F : Nat → Nat} (h : ∀ i : Nat, i < n → Small (F i)) : ∀ k, k ≤ n → sumZ F k ≤ (k : Int) * 2 ^ 152
  | 0, _ => by simp [sumZ]
  | k + 1, hk => by
    have h1 := small_sum h k (by omega)
    have h2 := (h k (by omega)).2.2
    rw [Z_eight] at h2
    show sumZ F k + Z32 (F k) ≤ ((k + 1 : Nat) : Int) * 2 ^ 152
    omega
/-! ### steady -/
theorem leF_iff {a b : Nat} (hb : ¬ Flt.NaN single b) : leF a b = true ↔ ¬ Flt.NaN single a ∧ Z32 a ≤ Z32 b := by
  unfold leF
  rw [ord_le hb]
  exact decide_eq_true_iff
end Go.Proofs.YtihddajpkcjokaaDoor
