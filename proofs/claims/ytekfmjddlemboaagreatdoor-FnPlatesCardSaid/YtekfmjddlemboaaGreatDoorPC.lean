/- Parts of a proof, merged; each under its own premises. -/
import Derived.Test.YtekfmjddlemboaaGreatDoorPB
import Derived.Test.YtekfmjddlemboaaGreatDoorPA
import Derived.Deep.RegionHeld3
import Derived.Deep.MidRow

/-! A plate of which all cells turn: eachDot, freshDots, whatever the function is that is handed to them. -/
set_option linter.unusedVariables false
set_option linter.unusedSimpArgs false
namespace Go.Proofs.YtekfmjddlemboaaGreatDoor
open Go.RowKit Ieee

theorem own_block {w : World} {base g c a n : Nat} {e : TypeId} (h : w.ownsRow base e 1 (.slice (some ⟨g, 0, none⟩) n c) n (cellsV a n)) : ∃ cur, w.heap[g]? = some (.cells cur e (0, 0)) ∧ ∀ j, j < n → cur[j]? = some (.int .i64 (cellAt a j : Nat)) := by
  obtain ⟨_, h2⟩ := h
  rcases h2 with ⟨h3, _⟩ | ⟨g', cap, cur, hv, _, hh, _, _, _, ht⟩
  · simp at h3
  · simp only [Value.slice.injEq, Option.some.injEq, Addr.mk.injEq, and_true, true_and] at hv
    obtain ⟨rfl, rfl⟩ := hv
    refine ⟨cur, hh, fun j hj => ?_⟩
    have h1 : (cur.toList.take (n * 1))[j]? = (cellsV a n)[j]? := by rw [ht]
    rw [cellsV_at hj, List.getElem?_take, if_pos (by omega)] at h1
    simpa using h1
/-- What a function value gives at each cell; it may draw, and turns nothing. -/
def GivesDots (P : Program) (k : FuncId) (cap : Array Value) (a b : Nat) (F g : Nat → Nat) (w : World) : Prop :=
  ∀ (n : Nat) (W : World), n < a * b → Below w.heap.size w W → Calls P k (#[.int .i64 (cellAt a n : Nat), .float .f32 (F (cellAt a n))] ++ cap) W fun e w' => e = .returned (.float .f32 (g (cellAt a n))) ∧ ∃ m, w' = W.drewN m
theorem blk_drewN {r : Option Obj} (w : World) (i m : Nat) (hr : w.heap[i]? = r) : (w.drewN m).heap[i]? = r := hr
theorem put_map {w : World} {g a b : Nat} {f G : Nat → Nat} {pre : List Value} {t : TypeId} {k o : Nat} (ha : a < 9) (hb : b < 9) (hk : k < a * b) (hl : pre.length = o) (h : w.heap[g]? = some (.cells (row pre 64 (mapC a b f G k)) t (0, 0))) :
    (w.setCell ⟨g, o + cellAt a k, none⟩ (.float .f32 (f (cellAt a k)))).heap[g]? = some (.cells (row pre 64 (mapC a b f G (k + 1))) t (0, 0)) := by
  subst hl
  have h64 := (cells_all a ha b hb).2
  rw [put_row (cells_of a ha b hb k (by omega) hk).1 h, mapC_step ha hb f G hk]

set_option maxRecDepth 100000 in
set_option maxHeartbeats 1600000 in
theorem eachDot_any (fk : FuncId) (cap : Array Value) (eg : ∀ args w, (callFunc fk args).run Tryz.prog w = .ok (.enter fk args) w) (a b : Nat) (ha1 : 1 ≤ a) (ha : a < 9) (hb1 : 1 ≤ b) (hb : b < 9) (F g : Nat → Nat) (w : World) (hg : GivesDots Tryz.prog fk cap a b F g w) :
    Calls Tryz.prog 65 #[.agg (plate a b F), .func (.func fk) #[] cap] w fun e w' => e = .returned (.agg (plate a b (mapA a b g F))) ∧ Below w.heap.size w w' := by
  have hz : Tryz.zeroCells29 = row [.int .i8 0, .int .i8 0] 64 (fun _ => 0) := rfl
  have HG := Lib.hid hg
  clear hg
  obtain ⟨n, hnn, hn⟩ : ∃ n, a * b = n ∧ n ≤ 64 := ⟨_, rfl, (cells_all a ha b hb).2⟩
  have HNN := Lib.hid hnn
  clear hnn
  go_enter Tryz.func65, Tryz.ntmps65
  go_wp2_with (first | ((with_reducible refine at_load 29 ?_); refine wpList_load_part rfl 29 _ rfl _ 0 66 rfl _ _ _ _ (by repeat (first | (with_reducible assumption) | ((with_reducible refine blk_new _ _ _ ?_); focus (simp; done)) | ((with_reducible refine blk_old _ _ _ ?_ ?_); focus (simp; done)) | ((with_reducible refine blk_old _ _ _ ?_ ?_); focus (first | omega | (simp; omega))) | ((with_reducible apply blk_set); focus (simp; done)) | ((with_reducible refine blk_off _ _ _ _ ?_ ?_); focus (simp; done)) | ((with_reducible refine blk_offc _ _ _ _ ?_ ?_); focus (first | (simp; done) | omega | (simp; omega))) | ((with_reducible refine blk_off _ _ _ _ ?_ ?_); focus (first | omega | (simp; omega))) | (with_reducible refine blk_drew _ _ ?_) | ((with_reducible refine blk_below (by assumption) ?_ ?_); focus (simp; done)) | ((with_reducible refine blk_below (by assumption) ?_ ?_); focus (first | omega | (simp; omega))))) Tryz.underlying29 rfl (by kernel_rfl) (by simp [row_size]) _ (row_all [_, _] 64 _) ?_) | ((with_reducible refine at_store 29 ?_); refine wpList_store_part rfl 29 _ _ rfl _ 0 _ rfl rfl _ _ (by repeat (first | (with_reducible assumption) | ((with_reducible refine blk_new _ _ _ ?_); focus (simp; done)) | ((with_reducible refine blk_old _ _ _ ?_ ?_); focus (simp; done)) | ((with_reducible refine blk_old _ _ _ ?_ ?_); focus (first | omega | (simp; omega))) | ((with_reducible apply blk_set); focus (simp; done)) | ((with_reducible refine blk_off _ _ _ _ ?_ ?_); focus (simp; done)) | ((with_reducible refine blk_offc _ _ _ _ ?_ ?_); focus (first | (simp; done) | omega | (simp; omega))) | ((with_reducible refine blk_off _ _ _ _ ?_ ?_); focus (first | omega | (simp; omega))) | (with_reducible refine blk_drew _ _ ?_) | ((with_reducible refine blk_below (by assumption) ?_ ?_); focus (simp; done)) | ((with_reducible refine blk_below (by assumption) ?_ ?_); focus (first | omega | (simp; omega))))) (by rw [row_size]; kernel_rfl) (by simp [row_size]) (row_cells _ _ _ rfl) _ (row_over _ _ 64 _ _ (by simp)) ?_))
  go_at_call 49
  refine (cells_n a b n HNN.out ha1 ha hb1 hb _ w.heap.size (by first | (simp; done) | (simp; omega) | omega) ((cell_of_row _ _ 0 (plate a b F) 29 (0, 0) (by repeat (first | (with_reducible assumption) | ((with_reducible refine blk_new _ _ _ ?_); focus (simp; done)) | ((with_reducible refine blk_old _ _ _ ?_ ?_); focus (simp; done)) | ((with_reducible refine blk_old _ _ _ ?_ ?_); focus (first | omega | (simp; omega))) | ((with_reducible apply blk_set); focus (simp; done)) | ((with_reducible refine blk_off _ _ _ _ ?_ ?_); focus (simp; done)) | ((with_reducible refine blk_offc _ _ _ _ ?_ ?_); focus (first | (simp; done) | omega | (simp; omega))) | ((with_reducible refine blk_off _ _ _ _ ?_ ?_); focus (first | omega | (simp; omega))) | (with_reducible refine blk_drew _ _ ?_) | ((with_reducible refine blk_below (by assumption) ?_ ?_); focus (simp; done)) | ((with_reducible refine blk_below (by assumption) ?_ ?_); focus (first | omega | (simp; omega)))))).trans (row_g0 _ _ _ _)) ((cell_of_row _ _ 1 (plate a b F) 29 (0, 0) (by repeat (first | (with_reducible assumption) | ((with_reducible refine blk_new _ _ _ ?_); focus (simp; done)) | ((with_reducible refine blk_old _ _ _ ?_ ?_); focus (simp; done)) | ((with_reducible refine blk_old _ _ _ ?_ ?_); focus (first | omega | (simp; omega))) | ((with_reducible apply blk_set); focus (simp; done)) | ((with_reducible refine blk_off _ _ _ _ ?_ ?_); focus (simp; done)) | ((with_reducible refine blk_offc _ _ _ _ ?_ ?_); focus (first | (simp; done) | omega | (simp; omega))) | ((with_reducible refine blk_off _ _ _ _ ?_ ?_); focus (first | omega | (simp; omega))) | (with_reducible refine blk_drew _ _ ?_) | ((with_reducible refine blk_below (by assumption) ?_ ?_); focus (simp; done)) | ((with_reducible refine blk_below (by assumption) ?_ ?_); focus (first | omega | (simp; omega)))))).trans (row_g1 _ _ _ _ _))).mono ?_
  rintro e w1 ⟨g0, c, rfl, hown, hbc⟩
  obtain ⟨hg0, hg1⟩ : w.heap.size + 3 ≤ g0 ∧ g0 < w1.heap.size := by
    have := hown.lt g0 rfl
    simp at this
    omega
  have hz1 := hbc.size
  simp at hz1
  obtain ⟨cur, hcur, hat⟩ := own_block hown
  have k1 : w1.heap[w.heap.size]? = some (.cells (plate a b F) 29 (0, 0)) := blk_below hbc (by first | (simp; done) | (simp; omega) | omega) (by repeat (first | (with_reducible assumption) | ((with_reducible refine blk_new _ _ _ ?_); focus (simp; done)) | ((with_reducible refine blk_old _ _ _ ?_ ?_); focus (simp; done)) | ((with_reducible refine blk_old _ _ _ ?_ ?_); focus (first | omega | (simp; omega))) | ((with_reducible apply blk_set); focus (simp; done)) | ((with_reducible refine blk_off _ _ _ _ ?_ ?_); focus (simp; done)) | ((with_reducible refine blk_offc _ _ _ _ ?_ ?_); focus (first | (simp; done) | omega | (simp; omega))) | ((with_reducible refine blk_off _ _ _ _ ?_ ?_); focus (first | omega | (simp; omega))) | (with_reducible refine blk_drew _ _ ?_) | ((with_reducible refine blk_below (by assumption) ?_ ?_); focus (simp; done)) | ((with_reducible refine blk_below (by assumption) ?_ ?_); focus (first | omega | (simp; omega)))))
  have k2 : w1.heap[w.heap.size + 1]? = some (.cells (plate 0 0 (fun _ => 0)) 29 (0, 0)) := blk_below hbc (by first | (simp; done) | (simp; omega) | omega) (by repeat (first | (with_reducible assumption) | ((with_reducible refine blk_new _ _ _ ?_); focus (simp; done)) | ((with_reducible refine blk_old _ _ _ ?_ ?_); focus (simp; done)) | ((with_reducible refine blk_old _ _ _ ?_ ?_); focus (first | omega | (simp; omega))) | ((with_reducible apply blk_set); focus (simp; done)) | ((with_reducible refine blk_off _ _ _ _ ?_ ?_); focus (simp; done)) | ((with_reducible refine blk_offc _ _ _ _ ?_ ?_); focus (first | (simp; done) | omega | (simp; omega))) | ((with_reducible refine blk_off _ _ _ _ ?_ ?_); focus (first | omega | (simp; omega))) | (with_reducible refine blk_drew _ _ ?_) | ((with_reducible refine blk_below (by assumption) ?_ ?_); focus (simp; done)) | ((with_reducible refine blk_below (by assumption) ?_ ?_); focus (first | omega | (simp; omega)))))
  have k3 : w1.heap[w.heap.size + 2]? = some (.cells (plate a b F) 29 (0, 0)) := blk_below hbc (by first | (simp; done) | (simp; omega) | omega) (by repeat (first | (with_reducible assumption) | ((with_reducible refine blk_new _ _ _ ?_); focus (simp; done)) | ((with_reducible refine blk_old _ _ _ ?_ ?_); focus (simp; done)) | ((with_reducible refine blk_old _ _ _ ?_ ?_); focus (first | omega | (simp; omega))) | ((with_reducible apply blk_set); focus (simp; done)) | ((with_reducible refine blk_off _ _ _ _ ?_ ?_); focus (simp; done)) | ((with_reducible refine blk_offc _ _ _ _ ?_ ?_); focus (first | (simp; done) | omega | (simp; omega))) | ((with_reducible refine blk_off _ _ _ _ ?_ ?_); focus (first | omega | (simp; omega))) | (with_reducible refine blk_drew _ _ ?_) | ((with_reducible refine blk_below (by assumption) ?_ ?_); focus (simp; done)) | ((with_reducible refine blk_below (by assumption) ?_ ?_); focus (first | omega | (simp; omega)))))
  have k4 : Below w.heap.size w w1 := bel_next hbc (by first | (simp; done) | (simp; omega) | omega) (by repeat (first | (with_reducible assumption) | (with_reducible exact Below.refl _ _) | ((with_reducible refine bel_alloc _ ?_ ?_); focus (first | omega | (simp; done) | (simp; omega))) | ((with_reducible refine bel_row _ ?_ ?_); focus (first | omega | (simp; done) | (simp; omega))) | ((with_reducible refine bel_cell _ ?_ ?_); focus (first | omega | (simp; done) | (simp; omega))) | (with_reducible refine Below.drew ?_) | (with_reducible refine below_wideW _ ?_) | ((with_reducible refine bel_next (by assumption) ?_ ?_); focus (first | omega | (simp; done) | (simp; omega)))))
  have HA := Lib.hid hat
  have K1 := Lib.hid k1
  have K2 := Lib.hid k2
  have K3 := Lib.hid k3
  have K4 := Lib.hid k4
  have KC := Lib.hid hcur
  clear hown hbc hcur hat k1 k2 k3 k4 hz1
  go_wp2
  go_loopw [11] (fun i wr => ∃ k : Nat, k ≤ n ∧ i = .int .i64 k ∧ wr.heap[w.heap.size]? = some (.cells (plate a b F) 29 (0, 0)) ∧ wr.heap[w.heap.size + 1]? = some (.cells (plate 0 0 (fun _ => 0)) 29 (0, 0)) ∧ wr.heap[w.heap.size + 2]? = some (.cells (plate a b (mapC a b g F k)) 29 (0, 0)) ∧ wr.heap[g0]? = some (.cells cur 2 (0, 0)) ∧ Below w.heap.size w wr) (fun i _ => 65 - (intOf i).toNat)
  case atStart => exact ⟨0, by omega, rfl, K1.out, K2.out, by rw [mapC_0]; exact K3.out, KC.out, K4.out⟩
  case round =>
    obtain ⟨k, hk, rfl, h1, h2, h3, h4, h5⟩ := hrel
    clear K1 K2 K3 K4 KC
    by_cases hlt : k < n
    · have hlt' : k < a * b := by have := HNN.out; omega
      obtain ⟨q1, q2, q3⟩ := cells_of a ha b hb k (by omega) hlt'
      have cl : wr.cell? ⟨g0, k, none⟩ = some (.int .i64 (cellAt a k : Nat)) := (cell_of_row wr g0 k cur 2 (0, 0) h4).trans (HA.out k hlt)
      have cf : wr.cell? ⟨w.heap.size, 2 + cellAt a k, none⟩ = some (.float .f32 (F (cellAt a k))) := (cell_of_row wr _ (2 + cellAt a k) _ _ _ h1).trans (row_k2 _ _ _ _ q1)
      have co : wr.cell? ⟨w.heap.size + 2, 2 + cellAt a k, none⟩ = some (.float .f32 (mapC a b g F k (cellAt a k))) := (cell_of_row wr _ (2 + cellAt a k) _ _ _ h3).trans (row_k2 _ _ _ _ q1)
      have ff : wr.frozen? ⟨w.heap.size + 2, 2 + cellAt a k, none⟩ = false := frozen_of_row wr _ _ _ _ h3
      have H1 := Lib.hid h1
      have H2 := Lib.hid h2
      have H3 := Lib.hid h3
      have H4 := Lib.hid h4
      have H5 := Lib.hid h5
      have HL := Lib.hid hlt'
      obtain ⟨q, hq⟩ : ∃ q, q = cellAt a k := ⟨_, rfl⟩
      rw [← hq] at cl cf ff q1 co
      have HQ := Lib.hid hq
      have hgv : Calls Tryz.prog fk (#[.int .i64 q, .float .f32 (F q)] ++ cap) wr fun e w' => e = .returned (.float .f32 (g q)) ∧ ∃ m, w' = wr.drewN m := by
        have := HG.out k wr hlt' h5
        rwa [← hq] at this
      have HV := Lib.hid hgv
      clear h1 h2 h3 h4 h5 q2 q3 hlt' hq hgv
      have z0 : (0 : Int) ≤ q := by omega
      have z1 : (q : Int) < 64 := by omega
      have i0 : (0 : Int) ≤ k := by omega
      have i1 : (k : Int) < n := by omega
      have i2 : (n : Int) ≤ 64 := by omega
      go_wp2_with ((with_reducible refine HV.out.mono ?_); rintro e w' ⟨rfl, m, rfl⟩)
      go_roundw
      case rel => exact ⟨k + 1, by omega, by go_num, put_off (by omega) (blk_drewN _ _ _ H1.out), put_off (by omega) (blk_drewN _ _ _ H2.out), by rw [HQ.out]; exact put_map ha hb HL.out rfl (blk_drewN _ _ _ H3.out), put_off (by omega) (blk_drewN _ _ _ H4.out), bel_cell _ (by simp; omega) (bel_drewN _ H5.out)⟩
      case measure => simp [intOf]; omega
    · have hkn : k = n := by omega
      have h3' : wr.heap[w.heap.size + 2]? = some (.cells (plate a b (mapA a b g F)) 29 (0, 0)) := by
        rw [h3, hkn, ← HNN.out, show plate a b (mapC a b g F (a * b)) = plate a b (mapA a b g F) from mapC_end ha hb _ _ _]
      have hz5 := h5.size
      have H5 := Lib.hid h5
      clear h3 hkn h5 h4
      have hz6 : w.heap.size + 2 < wr.heap.size := by
        cases hlt : decide (w.heap.size + 2 < wr.heap.size)
        · simp only [decide_eq_false_iff_not] at hlt
          rw [Array.getElem?_eq_none (by omega)] at h3'
          cases h3'
        · simpa using hlt
      go_wp2_with (first | ((with_reducible refine at_load 29 ?_); refine wpList_load_part rfl 29 _ rfl _ 0 66 rfl _ _ _ _ (by repeat (first | (with_reducible assumption) | ((with_reducible refine blk_new _ _ _ ?_); focus (simp; done)) | ((with_reducible refine blk_old _ _ _ ?_ ?_); focus (simp; done)) | ((with_reducible refine blk_old _ _ _ ?_ ?_); focus (first | omega | (simp; omega))) | ((with_reducible apply blk_set); focus (simp; done)) | ((with_reducible refine blk_off _ _ _ _ ?_ ?_); focus (simp; done)) | ((with_reducible refine blk_offc _ _ _ _ ?_ ?_); focus (first | (simp; done) | omega | (simp; omega))) | ((with_reducible refine blk_off _ _ _ _ ?_ ?_); focus (first | omega | (simp; omega))) | (with_reducible refine blk_drew _ _ ?_) | ((with_reducible refine blk_below (by assumption) ?_ ?_); focus (simp; done)) | ((with_reducible refine blk_below (by assumption) ?_ ?_); focus (first | omega | (simp; omega))))) Tryz.underlying29 rfl (by kernel_rfl) (by simp [row_size]) _ (row_all [_, _] 64 _) ?_) | ((with_reducible refine at_store 29 ?_); refine wpList_store_part rfl 29 _ _ rfl _ 0 _ rfl rfl _ _ (by repeat (first | (with_reducible assumption) | ((with_reducible refine blk_new _ _ _ ?_); focus (simp; done)) | ((with_reducible refine blk_old _ _ _ ?_ ?_); focus (simp; done)) | ((with_reducible refine blk_old _ _ _ ?_ ?_); focus (first | omega | (simp; omega))) | ((with_reducible apply blk_set); focus (simp; done)) | ((with_reducible refine blk_off _ _ _ _ ?_ ?_); focus (simp; done)) | ((with_reducible refine blk_offc _ _ _ _ ?_ ?_); focus (first | (simp; done) | omega | (simp; omega))) | ((with_reducible refine blk_off _ _ _ _ ?_ ?_); focus (first | omega | (simp; omega))) | (with_reducible refine blk_drew _ _ ?_) | ((with_reducible refine blk_below (by assumption) ?_ ?_); focus (simp; done)) | ((with_reducible refine blk_below (by assumption) ?_ ?_); focus (first | omega | (simp; omega))))) (by rw [row_size]; kernel_rfl) (by simp [row_size]) (row_cells _ _ _ rfl) _ (row_over _ _ 64 _ _ (by simp)) ?_))
      have h5 := H5.out
      refine bodyPost_ret (v := .agg (plate a b (mapA a b g F))) ?_ ?_ ?_
      · refine results_cell_row Tryz.results65 _ _ _ 29 (plate a b (mapA a b g F)) (0, 0) _ rfl ?_ Tryz.underlying29 rfl (by simp only [row_size]; kernel_rfl)
        exact (by repeat (first | (with_reducible assumption) | ((with_reducible refine blk_new _ _ _ ?_); focus (simp; done)) | ((with_reducible refine blk_old _ _ _ ?_ ?_); focus (simp; done)) | ((with_reducible refine blk_old _ _ _ ?_ ?_); focus (first | omega | (simp; omega))) | ((with_reducible apply blk_set); focus (simp; done)) | ((with_reducible refine blk_off _ _ _ _ ?_ ?_); focus (simp; done)) | ((with_reducible refine blk_offc _ _ _ _ ?_ ?_); focus (first | (simp; done) | omega | (simp; omega))) | ((with_reducible refine blk_off _ _ _ _ ?_ ?_); focus (first | omega | (simp; omega))) | (with_reducible refine blk_drew _ _ ?_) | ((with_reducible refine blk_below (by assumption) ?_ ?_); focus (simp; done)) | ((with_reducible refine blk_below (by assumption) ?_ ?_); focus (first | omega | (simp; omega)))))
      · rfl
      · exact ⟨rfl, (by repeat (first | (with_reducible assumption) | (with_reducible exact Below.refl _ _) | ((with_reducible refine bel_alloc _ ?_ ?_); focus (first | omega | (simp; done) | (simp; omega))) | ((with_reducible refine bel_row _ ?_ ?_); focus (first | omega | (simp; done) | (simp; omega))) | ((with_reducible refine bel_cell _ ?_ ?_); focus (first | omega | (simp; done) | (simp; omega))) | (with_reducible refine Below.drew ?_) | (with_reducible refine below_wideW _ ?_) | ((with_reducible refine bel_next (by assumption) ?_ ?_); focus (first | omega | (simp; done) | (simp; omega)))))⟩

set_option maxRecDepth 100000 in
set_option maxHeartbeats 1600000 in
theorem freshDots_any (fk : FuncId) (cap : Array Value) (eg : ∀ args w, (callFunc fk args).run Tryz.prog w = .ok (.enter fk args) w) (a b : Nat) (ha1 : 1 ≤ a) (ha : a < 9) (hb1 : 1 ≤ b) (hb : b < 9) (F g : Nat → Nat) (w : World) (hg : GivesDots Tryz.prog fk cap a b F g w) :
    Calls Tryz.prog 43 #[.agg (plate a b F), .func (.func fk) #[] cap] w fun e w' => e = .returned (.agg (plate a b (mapA a b g (fun _ => 0)))) ∧ Below w.heap.size w w' := by
  have hz : Tryz.zeroCells29 = row [.int .i8 0, .int .i8 0] 64 (fun _ => 0) := rfl
  have HG := Lib.hid hg
  clear hg
  obtain ⟨n, hnn, hn⟩ : ∃ n, a * b = n ∧ n ≤ 64 := ⟨_, rfl, (cells_all a ha b hb).2⟩
  have HNN := Lib.hid hnn
  clear hnn
  go_enter Tryz.func43, Tryz.ntmps43
  go_wp2_with (first | ((with_reducible refine at_load 29 ?_); refine wpList_load_part rfl 29 _ rfl _ 0 66 rfl _ _ _ _ (by repeat (first | (with_reducible assumption) | ((with_reducible refine blk_new _ _ _ ?_); focus (simp; done)) | ((with_reducible refine blk_old _ _ _ ?_ ?_); focus (simp; done)) | ((with_reducible refine blk_old _ _ _ ?_ ?_); focus (first | omega | (simp; omega))) | ((with_reducible apply blk_set); focus (simp; done)) | ((with_reducible refine blk_off _ _ _ _ ?_ ?_); focus (simp; done)) | ((with_reducible refine blk_offc _ _ _ _ ?_ ?_); focus (first | (simp; done) | omega | (simp; omega))) | ((with_reducible refine blk_off _ _ _ _ ?_ ?_); focus (first | omega | (simp; omega))) | (with_reducible refine blk_drew _ _ ?_) | ((with_reducible refine blk_below (by assumption) ?_ ?_); focus (simp; done)) | ((with_reducible refine blk_below (by assumption) ?_ ?_); focus (first | omega | (simp; omega))))) Tryz.underlying29 rfl (by kernel_rfl) (by simp [row_size]) _ (row_all [_, _] 64 _) ?_) | ((with_reducible refine at_store 29 ?_); refine wpList_store_part rfl 29 _ _ rfl _ 0 _ rfl rfl _ _ (by repeat (first | (with_reducible assumption) | ((with_reducible refine blk_new _ _ _ ?_); focus (simp; done)) | ((with_reducible refine blk_old _ _ _ ?_ ?_); focus (simp; done)) | ((with_reducible refine blk_old _ _ _ ?_ ?_); focus (first | omega | (simp; omega))) | ((with_reducible apply blk_set); focus (simp; done)) | ((with_reducible refine blk_off _ _ _ _ ?_ ?_); focus (simp; done)) | ((with_reducible refine blk_offc _ _ _ _ ?_ ?_); focus (first | (simp; done) | omega | (simp; omega))) | ((with_reducible refine blk_off _ _ _ _ ?_ ?_); focus (first | omega | (simp; omega))) | (with_reducible refine blk_drew _ _ ?_) | ((with_reducible refine blk_below (by assumption) ?_ ?_); focus (simp; done)) | ((with_reducible refine blk_below (by assumption) ?_ ?_); focus (first | omega | (simp; omega))))) (by rw [row_size]; kernel_rfl) (by simp [row_size]) (row_cells _ _ _ rfl) _ (row_over _ _ 64 _ _ (by simp)) ?_))
  go_at_call 49
  refine (cells_n a b n HNN.out ha1 ha hb1 hb _ w.heap.size (by first | (simp; done) | (simp; omega) | omega) ((cell_of_row _ _ 0 (plate a b F) 29 (0, 0) (by repeat (first | (with_reducible assumption) | ((with_reducible refine blk_new _ _ _ ?_); focus (simp; done)) | ((with_reducible refine blk_old _ _ _ ?_ ?_); focus (simp; done)) | ((with_reducible refine blk_old _ _ _ ?_ ?_); focus (first | omega | (simp; omega))) | ((with_reducible apply blk_set); focus (simp; done)) | ((with_reducible refine blk_off _ _ _ _ ?_ ?_); focus (simp; done)) | ((with_reducible refine blk_offc _ _ _ _ ?_ ?_); focus (first | (simp; done) | omega | (simp; omega))) | ((with_reducible refine blk_off _ _ _ _ ?_ ?_); focus (first | omega | (simp; omega))) | (with_reducible refine blk_drew _ _ ?_) | ((with_reducible refine blk_below (by assumption) ?_ ?_); focus (simp; done)) | ((with_reducible refine blk_below (by assumption) ?_ ?_); focus (first | omega | (simp; omega)))))).trans (row_g0 _ _ _ _)) ((cell_of_row _ _ 1 (plate a b F) 29 (0, 0) (by repeat (first | (with_reducible assumption) | ((with_reducible refine blk_new _ _ _ ?_); focus (simp; done)) | ((with_reducible refine blk_old _ _ _ ?_ ?_); focus (simp; done)) | ((with_reducible refine blk_old _ _ _ ?_ ?_); focus (first | omega | (simp; omega))) | ((with_reducible apply blk_set); focus (simp; done)) | ((with_reducible refine blk_off _ _ _ _ ?_ ?_); focus (simp; done)) | ((with_reducible refine blk_offc _ _ _ _ ?_ ?_); focus (first | (simp; done) | omega | (simp; omega))) | ((with_reducible refine blk_off _ _ _ _ ?_ ?_); focus (first | omega | (simp; omega))) | (with_reducible refine blk_drew _ _ ?_) | ((with_reducible refine blk_below (by assumption) ?_ ?_); focus (simp; done)) | ((with_reducible refine blk_below (by assumption) ?_ ?_); focus (first | omega | (simp; omega)))))).trans (row_g1 _ _ _ _ _))).mono ?_
  rintro e w1 ⟨g0, c, rfl, hown, hbc⟩
  obtain ⟨hg0, hg1⟩ : w.heap.size + 3 ≤ g0 ∧ g0 < w1.heap.size := by
    have := hown.lt g0 rfl
    simp at this
    omega
  have hz1 := hbc.size
  simp at hz1
  obtain ⟨cur, hcur, hat⟩ := own_block hown
  have k1 : w1.heap[w.heap.size]? = some (.cells (plate a b F) 29 (0, 0)) := blk_below hbc (by first | (simp; done) | (simp; omega) | omega) (by repeat (first | (with_reducible assumption) | ((with_reducible refine blk_new _ _ _ ?_); focus (simp; done)) | ((with_reducible refine blk_old _ _ _ ?_ ?_); focus (simp; done)) | ((with_reducible refine blk_old _ _ _ ?_ ?_); focus (first | omega | (simp; omega))) | ((with_reducible apply blk_set); focus (simp; done)) | ((with_reducible refine blk_off _ _ _ _ ?_ ?_); focus (simp; done)) | ((with_reducible refine blk_offc _ _ _ _ ?_ ?_); focus (first | (simp; done) | omega | (simp; omega))) | ((with_reducible refine blk_off _ _ _ _ ?_ ?_); focus (first | omega | (simp; omega))) | (with_reducible refine blk_drew _ _ ?_) | ((with_reducible refine blk_below (by assumption) ?_ ?_); focus (simp; done)) | ((with_reducible refine blk_below (by assumption) ?_ ?_); focus (first | omega | (simp; omega)))))
  have k2 : w1.heap[w.heap.size + 1]? = some (.cells (plate 0 0 (fun _ => 0)) 29 (0, 0)) := blk_below hbc (by first | (simp; done) | (simp; omega) | omega) (by repeat (first | (with_reducible assumption) | ((with_reducible refine blk_new _ _ _ ?_); focus (simp; done)) | ((with_reducible refine blk_old _ _ _ ?_ ?_); focus (simp; done)) | ((with_reducible refine blk_old _ _ _ ?_ ?_); focus (first | omega | (simp; omega))) | ((with_reducible apply blk_set); focus (simp; done)) | ((with_reducible refine blk_off _ _ _ _ ?_ ?_); focus (simp; done)) | ((with_reducible refine blk_offc _ _ _ _ ?_ ?_); focus (first | (simp; done) | omega | (simp; omega))) | ((with_reducible refine blk_off _ _ _ _ ?_ ?_); focus (first | omega | (simp; omega))) | (with_reducible refine blk_drew _ _ ?_) | ((with_reducible refine blk_below (by assumption) ?_ ?_); focus (simp; done)) | ((with_reducible refine blk_below (by assumption) ?_ ?_); focus (first | omega | (simp; omega)))))
  have k3 : w1.heap[w.heap.size + 2]? = some (.cells (plate a b (fun _ => 0)) 29 (0, 0)) := blk_below hbc (by first | (simp; done) | (simp; omega) | omega) (by repeat (first | (with_reducible assumption) | ((with_reducible refine blk_new _ _ _ ?_); focus (simp; done)) | ((with_reducible refine blk_old _ _ _ ?_ ?_); focus (simp; done)) | ((with_reducible refine blk_old _ _ _ ?_ ?_); focus (first | omega | (simp; omega))) | ((with_reducible apply blk_set); focus (simp; done)) | ((with_reducible refine blk_off _ _ _ _ ?_ ?_); focus (simp; done)) | ((with_reducible refine blk_offc _ _ _ _ ?_ ?_); focus (first | (simp; done) | omega | (simp; omega))) | ((with_reducible refine blk_off _ _ _ _ ?_ ?_); focus (first | omega | (simp; omega))) | (with_reducible refine blk_drew _ _ ?_) | ((with_reducible refine blk_below (by assumption) ?_ ?_); focus (simp; done)) | ((with_reducible refine blk_below (by assumption) ?_ ?_); focus (first | omega | (simp; omega)))))
  have k4 : Below w.heap.size w w1 := bel_next hbc (by first | (simp; done) | (simp; omega) | omega) (by repeat (first | (with_reducible assumption) | (with_reducible exact Below.refl _ _) | ((with_reducible refine bel_alloc _ ?_ ?_); focus (first | omega | (simp; done) | (simp; omega))) | ((with_reducible refine bel_row _ ?_ ?_); focus (first | omega | (simp; done) | (simp; omega))) | ((with_reducible refine bel_cell _ ?_ ?_); focus (first | omega | (simp; done) | (simp; omega))) | (with_reducible refine Below.drew ?_) | (with_reducible refine below_wideW _ ?_) | ((with_reducible refine bel_next (by assumption) ?_ ?_); focus (first | omega | (simp; done) | (simp; omega)))))
  have HA := Lib.hid hat
  have K1 := Lib.hid k1
  have K2 := Lib.hid k2
  have K3 := Lib.hid k3
  have K4 := Lib.hid k4
  have KC := Lib.hid hcur
  clear hown hbc hcur hat k1 k2 k3 k4 hz1
  go_wp2
  go_loopw [15] (fun i wr => ∃ k : Nat, k ≤ n ∧ i = .int .i64 k ∧ wr.heap[w.heap.size]? = some (.cells (plate a b F) 29 (0, 0)) ∧ wr.heap[w.heap.size + 1]? = some (.cells (plate 0 0 (fun _ => 0)) 29 (0, 0)) ∧ wr.heap[w.heap.size + 2]? = some (.cells (plate a b (mapC a b g (fun _ => 0) k)) 29 (0, 0)) ∧ wr.heap[g0]? = some (.cells cur 2 (0, 0)) ∧ Below w.heap.size w wr) (fun i _ => 65 - (intOf i).toNat)
  case atStart => exact ⟨0, by omega, rfl, K1.out, K2.out, by rw [mapC_0]; exact K3.out, KC.out, K4.out⟩
  case round =>
    obtain ⟨k, hk, rfl, h1, h2, h3, h4, h5⟩ := hrel
    clear K1 K2 K3 K4 KC
    by_cases hlt : k < n
    · have hlt' : k < a * b := by have := HNN.out; omega
      obtain ⟨q1, q2, q3⟩ := cells_of a ha b hb k (by omega) hlt'
      have cl : wr.cell? ⟨g0, k, none⟩ = some (.int .i64 (cellAt a k : Nat)) := (cell_of_row wr g0 k cur 2 (0, 0) h4).trans (HA.out k hlt)
      have cf : wr.cell? ⟨w.heap.size, 2 + cellAt a k, none⟩ = some (.float .f32 (F (cellAt a k))) := (cell_of_row wr _ (2 + cellAt a k) _ _ _ h1).trans (row_k2 _ _ _ _ q1)
      have co : wr.cell? ⟨w.heap.size + 2, 2 + cellAt a k, none⟩ = some (.float .f32 (mapC a b g (fun _ => 0) k (cellAt a k))) := (cell_of_row wr _ (2 + cellAt a k) _ _ _ h3).trans (row_k2 _ _ _ _ q1)
      have ff : wr.frozen? ⟨w.heap.size + 2, 2 + cellAt a k, none⟩ = false := frozen_of_row wr _ _ _ _ h3
      have H1 := Lib.hid h1
      have H2 := Lib.hid h2
      have H3 := Lib.hid h3
      have H4 := Lib.hid h4
      have H5 := Lib.hid h5
      have HL := Lib.hid hlt'
      obtain ⟨q, hq⟩ : ∃ q, q = cellAt a k := ⟨_, rfl⟩
      rw [← hq] at cl cf ff q1 co
      have HQ := Lib.hid hq
      have hgv : Calls Tryz.prog fk (#[.int .i64 q, .float .f32 (F q)] ++ cap) wr fun e w' => e = .returned (.float .f32 (g q)) ∧ ∃ m, w' = wr.drewN m := by
        have := HG.out k wr hlt' h5
        rwa [← hq] at this
      have HV := Lib.hid hgv
      clear h1 h2 h3 h4 h5 q2 q3 hlt' hq hgv
      have z0 : (0 : Int) ≤ q := by omega
      have z1 : (q : Int) < 64 := by omega
      have i0 : (0 : Int) ≤ k := by omega
      have i1 : (k : Int) < n := by omega
      have i2 : (n : Int) ≤ 64 := by omega
      go_wp2_with ((with_reducible refine HV.out.mono ?_); rintro e w' ⟨rfl, m, rfl⟩)
      go_roundw
      case rel => exact ⟨k + 1, by omega, by go_num, put_off (by omega) (blk_drewN _ _ _ H1.out), put_off (by omega) (blk_drewN _ _ _ H2.out), by rw [HQ.out]; exact put_map ha hb HL.out rfl (blk_drewN _ _ _ H3.out), put_off (by omega) (blk_drewN _ _ _ H4.out), bel_cell _ (by simp; omega) (bel_drewN _ H5.out)⟩
      case measure => simp [intOf]; omega
    · have hkn : k = n := by omega
      have h3' : wr.heap[w.heap.size + 2]? = some (.cells (plate a b (mapA a b g (fun _ => 0))) 29 (0, 0)) := by
        rw [h3, hkn, ← HNN.out, show plate a b (mapC a b g (fun _ => 0) (a * b)) = plate a b (mapA a b g (fun _ => 0)) from mapC_end ha hb _ _ _]
      have hz5 := h5.size
      have H5 := Lib.hid h5
      clear h3 hkn h5 h4
      have hz6 : w.heap.size + 2 < wr.heap.size := by
        cases hlt : decide (w.heap.size + 2 < wr.heap.size)
        · simp only [decide_eq_false_iff_not] at hlt
          rw [Array.getElem?_eq_none (by omega)] at h3'
          cases h3'
        · simpa using hlt
      go_wp2_with (first | ((with_reducible refine at_load 29 ?_); refine wpList_load_part rfl 29 _ rfl _ 0 66 rfl _ _ _ _ (by repeat (first | (with_reducible assumption) | ((with_reducible refine blk_new _ _ _ ?_); focus (simp; done)) | ((with_reducible refine blk_old _ _ _ ?_ ?_); focus (simp; done)) | ((with_reducible refine blk_old _ _ _ ?_ ?_); focus (first | omega | (simp; omega))) | ((with_reducible apply blk_set); focus (simp; done)) | ((with_reducible refine blk_off _ _ _ _ ?_ ?_); focus (simp; done)) | ((with_reducible refine blk_offc _ _ _ _ ?_ ?_); focus (first | (simp; done) | omega | (simp; omega))) | ((with_reducible refine blk_off _ _ _ _ ?_ ?_); focus (first | omega | (simp; omega))) | (with_reducible refine blk_drew _ _ ?_) | ((with_reducible refine blk_below (by assumption) ?_ ?_); focus (simp; done)) | ((with_reducible refine blk_below (by assumption) ?_ ?_); focus (first | omega | (simp; omega))))) Tryz.underlying29 rfl (by kernel_rfl) (by simp [row_size]) _ (row_all [_, _] 64 _) ?_) | ((with_reducible refine at_store 29 ?_); refine wpList_store_part rfl 29 _ _ rfl _ 0 _ rfl rfl _ _ (by repeat (first | (with_reducible assumption) | ((with_reducible refine blk_new _ _ _ ?_); focus (simp; done)) | ((with_reducible refine blk_old _ _ _ ?_ ?_); focus (simp; done)) | ((with_reducible refine blk_old _ _ _ ?_ ?_); focus (first | omega | (simp; omega))) | ((with_reducible apply blk_set); focus (simp; done)) | ((with_reducible refine blk_off _ _ _ _ ?_ ?_); focus (simp; done)) | ((with_reducible refine blk_offc _ _ _ _ ?_ ?_); focus (first | (simp; done) | omega | (simp; omega))) | ((with_reducible refine blk_off _ _ _ _ ?_ ?_); focus (first | omega | (simp; omega))) | (with_reducible refine blk_drew _ _ ?_) | ((with_reducible refine blk_below (by assumption) ?_ ?_); focus (simp; done)) | ((with_reducible refine blk_below (by assumption) ?_ ?_); focus (first | omega | (simp; omega))))) (by rw [row_size]; kernel_rfl) (by simp [row_size]) (row_cells _ _ _ rfl) _ (row_over _ _ 64 _ _ (by simp)) ?_))
      have h5 := H5.out
      refine bodyPost_ret (v := .agg (plate a b (mapA a b g (fun _ => 0)))) ?_ ?_ ?_
      · refine results_cell_row Tryz.results43 _ _ _ 29 (plate a b (mapA a b g (fun _ => 0))) (0, 0) _ rfl ?_ Tryz.underlying29 rfl (by simp only [row_size]; kernel_rfl)
        exact (by repeat (first | (with_reducible assumption) | ((with_reducible refine blk_new _ _ _ ?_); focus (simp; done)) | ((with_reducible refine blk_old _ _ _ ?_ ?_); focus (simp; done)) | ((with_reducible refine blk_old _ _ _ ?_ ?_); focus (first | omega | (simp; omega))) | ((with_reducible apply blk_set); focus (simp; done)) | ((with_reducible refine blk_off _ _ _ _ ?_ ?_); focus (simp; done)) | ((with_reducible refine blk_offc _ _ _ _ ?_ ?_); focus (first | (simp; done) | omega | (simp; omega))) | ((with_reducible refine blk_off _ _ _ _ ?_ ?_); focus (first | omega | (simp; omega))) | (with_reducible refine blk_drew _ _ ?_) | ((with_reducible refine blk_below (by assumption) ?_ ?_); focus (simp; done)) | ((with_reducible refine blk_below (by assumption) ?_ ?_); focus (first | omega | (simp; omega)))))
      · rfl
      · exact ⟨rfl, (by repeat (first | (with_reducible assumption) | (with_reducible exact Below.refl _ _) | ((with_reducible refine bel_alloc _ ?_ ?_); focus (first | omega | (simp; done) | (simp; omega))) | ((with_reducible refine bel_row _ ?_ ?_); focus (first | omega | (simp; done) | (simp; omega))) | ((with_reducible refine bel_cell _ ?_ ?_); focus (first | omega | (simp; done) | (simp; omega))) | (with_reducible refine Below.drew ?_) | (with_reducible refine below_wideW _ ?_) | ((with_reducible refine bel_next (by assumption) ?_ ?_); focus (first | omega | (simp; done) | (simp; omega)))))⟩
end Go.Proofs.YtekfmjddlemboaaGreatDoor

/-! Contracts of InvertPlate, the reference's and the program's, and the law on it. -/
set_option linter.unusedVariables false
set_option linter.unusedSimpArgs false
namespace Go.Proofs.YtekfmjddlemboaaGreatDoor
open Go.RowKit Ieee

theorem put_cnt {w : World} {g a b : Nat} {f G : Nat → Nat} {pre : List Value} {t : TypeId} {i o v : Nat} (ha : a < 9) (hb : b < 9) (hi : i < 64) (hc : isC a b i = true) (hl : pre.length = o) (hv : v = f i) (h : w.heap[g]? = some (.cells (row pre 64 (mapC a b f G (cntC a b i))) t (0, 0))) :
    (w.setCell ⟨g, o + i, none⟩ (.float .f32 v)).heap[g]? = some (.cells (row pre 64 (mapC a b f G (cntC a b (i + 1)))) t (0, 0)) := by
  subst hl; subst hv
  rw [put_row hi h, mapC_step' ha hb f G hi hc]

set_option maxRecDepth 100000 in
set_option maxHeartbeats 3200000 in
theorem specInvert_any (x y : Int) (F : Nat → Nat) (w : World) (lx : -128 ≤ x) (ux : x ≤ 127) (ly : -128 ≤ y) (uy : y ≤ 127) : Calls Tryz.prog 25 #[.agg (plate x y F)] w fun e w' => e = .returned (.tuple #[.agg (if plateB x y F then plate x y (mapA x.toNat y.toNat (fun i => fsub 1065353216 (F i)) (fun _ => 0)) else plate 0 0 (fun _ => 0)), .int .i64 (if plateB x y F then 0 else 1)]) ∧ Below w.heap.size w w' := by
  have hz : Tryz.zeroCells29 = row [.int .i8 0, .int .i8 0] 64 (fun _ => 0) := rfl
  cases ho : plateB x y F
  · go_enter Tryz.func25, Tryz.ntmps25
    go_wp2_with (first | (go_at_call 45; (with_reducible refine (specPOk_any x y F _ lx ux ly uy _ ?_).mono ?_); (focus (repeat (first | (with_reducible assumption) | ((with_reducible refine blk_new _ _ _ ?_); focus (simp; done)) | ((with_reducible refine blk_old _ _ _ ?_ ?_); focus (simp; done)) | ((with_reducible refine blk_old _ _ _ ?_ ?_); focus (first | omega | (simp; omega))) | ((with_reducible apply blk_set); focus (simp; done)) | ((with_reducible refine blk_off _ _ _ _ ?_ ?_); focus (simp; done)) | ((with_reducible refine blk_offc _ _ _ _ ?_ ?_); focus (first | (simp; done) | omega | (simp; omega))) | ((with_reducible refine blk_off _ _ _ _ ?_ ?_); focus (first | omega | (simp; omega))) | (with_reducible refine blk_drew _ _ ?_) | ((with_reducible refine blk_below (by assumption) ?_ ?_); focus (simp; done)) | ((with_reducible refine blk_below (by assumption) ?_ ?_); focus (first | omega | (simp; omega)))))); rintro e w' ⟨rfl, rfl⟩) | ((with_reducible refine at_store 29 ?_); refine wpList_store_part rfl 29 _ _ rfl _ 0 _ rfl rfl _ _ (by repeat (first | (with_reducible assumption) | ((with_reducible refine blk_new _ _ _ ?_); focus (simp; done)) | ((with_reducible refine blk_old _ _ _ ?_ ?_); focus (simp; done)) | ((with_reducible refine blk_old _ _ _ ?_ ?_); focus (first | omega | (simp; omega))) | ((with_reducible apply blk_set); focus (simp; done)) | ((with_reducible refine blk_off _ _ _ _ ?_ ?_); focus (simp; done)) | ((with_reducible refine blk_offc _ _ _ _ ?_ ?_); focus (first | (simp; done) | omega | (simp; omega))) | ((with_reducible refine blk_off _ _ _ _ ?_ ?_); focus (first | omega | (simp; omega))) | (with_reducible refine blk_drew _ _ ?_) | ((with_reducible refine blk_below (by assumption) ?_ ?_); focus (simp; done)) | ((with_reducible refine blk_below (by assumption) ?_ ?_); focus (first | omega | (simp; omega))))) (by rw [row_size]; kernel_rfl) (by simp [row_size]) (row_cells _ _ _ rfl) _ (row_over _ _ 64 _ _ (by simp)) ?_) | ((with_reducible refine at_load 29 ?_); refine wpList_load_part rfl 29 _ rfl _ 0 66 rfl _ _ _ _ (by repeat (first | (with_reducible assumption) | ((with_reducible refine blk_new _ _ _ ?_); focus (simp; done)) | ((with_reducible refine blk_old _ _ _ ?_ ?_); focus (simp; done)) | ((with_reducible refine blk_old _ _ _ ?_ ?_); focus (first | omega | (simp; omega))) | ((with_reducible apply blk_set); focus (simp; done)) | ((with_reducible refine blk_off _ _ _ _ ?_ ?_); focus (simp; done)) | ((with_reducible refine blk_offc _ _ _ _ ?_ ?_); focus (first | (simp; done) | omega | (simp; omega))) | ((with_reducible refine blk_off _ _ _ _ ?_ ?_); focus (first | omega | (simp; omega))) | (with_reducible refine blk_drew _ _ ?_) | ((with_reducible refine blk_below (by assumption) ?_ ?_); focus (simp; done)) | ((with_reducible refine blk_below (by assumption) ?_ ?_); focus (first | omega | (simp; omega))))) Tryz.underlying29 rfl (by kernel_rfl) (by simp [row_size]) _ (row_all [_, _] 64 _) ?_) | go_in)
    refine bodyPost_ret (v := .tuple #[.agg (plate 0 0 (fun _ => 0)), .int .i64 1]) ?_ ?_ ?_
    · refine results_row_tmp Tryz.results25 _ _ _ 29 (plate 0 0 (fun _ => 0)) (0, 0) _ _ rfl rfl ?_ Tryz.underlying29 rfl (by simp only [row_size]; kernel_rfl)
      exact (by repeat (first | (with_reducible assumption) | ((with_reducible refine blk_new _ _ _ ?_); focus (simp; done)) | ((with_reducible refine blk_old _ _ _ ?_ ?_); focus (simp; done)) | ((with_reducible refine blk_old _ _ _ ?_ ?_); focus (first | omega | (simp; omega))) | ((with_reducible apply blk_set); focus (simp; done)) | ((with_reducible refine blk_off _ _ _ _ ?_ ?_); focus (simp; done)) | ((with_reducible refine blk_offc _ _ _ _ ?_ ?_); focus (first | (simp; done) | omega | (simp; omega))) | ((with_reducible refine blk_off _ _ _ _ ?_ ?_); focus (first | omega | (simp; omega))) | (with_reducible refine blk_drew _ _ ?_) | ((with_reducible refine blk_below (by assumption) ?_ ?_); focus (simp; done)) | ((with_reducible refine blk_below (by assumption) ?_ ?_); focus (first | omega | (simp; omega)))))
    · rfl
    · exact ⟨rfl, (by repeat (first | (with_reducible assumption) | (with_reducible exact Below.refl _ _) | ((with_reducible refine bel_alloc _ ?_ ?_); focus (first | omega | (simp; done) | (simp; omega))) | ((with_reducible refine bel_row _ ?_ ?_); focus (first | omega | (simp; done) | (simp; omega))) | ((with_reducible refine bel_cell _ ?_ ?_); focus (first | omega | (simp; done) | (simp; omega))) | (with_reducible refine Below.drew ?_) | (with_reducible refine below_wideW _ ?_) | ((with_reducible refine bel_next (by assumption) ?_ ?_); focus (first | omega | (simp; done) | (simp; omega)))))⟩
  · obtain ⟨a, b, rfl, rfl, la, ha, lb, hb, hp, hz0⟩ := plateB_size ho
    have HP := Lib.hid hp
    clear hp hz0
    go_enter Tryz.func25, Tryz.ntmps25
    go_wp2_with (first | (go_at_call 45; (with_reducible refine (specPOk_any a b F _ (by omega) (by omega) (by omega) (by omega) _ ?_).mono ?_); (focus (repeat (first | (with_reducible assumption) | ((with_reducible refine blk_new _ _ _ ?_); focus (simp; done)) | ((with_reducible refine blk_old _ _ _ ?_ ?_); focus (simp; done)) | ((with_reducible refine blk_old _ _ _ ?_ ?_); focus (first | omega | (simp; omega))) | ((with_reducible apply blk_set); focus (simp; done)) | ((with_reducible refine blk_off _ _ _ _ ?_ ?_); focus (simp; done)) | ((with_reducible refine blk_offc _ _ _ _ ?_ ?_); focus (first | (simp; done) | omega | (simp; omega))) | ((with_reducible refine blk_off _ _ _ _ ?_ ?_); focus (first | omega | (simp; omega))) | (with_reducible refine blk_drew _ _ ?_) | ((with_reducible refine blk_below (by assumption) ?_ ?_); focus (simp; done)) | ((with_reducible refine blk_below (by assumption) ?_ ?_); focus (first | omega | (simp; omega)))))); rintro e w' ⟨rfl, rfl⟩) | ((with_reducible refine at_store 29 ?_); refine wpList_store_part rfl 29 _ _ rfl _ 0 _ rfl rfl _ _ (by repeat (first | (with_reducible assumption) | ((with_reducible refine blk_new _ _ _ ?_); focus (simp; done)) | ((with_reducible refine blk_old _ _ _ ?_ ?_); focus (simp; done)) | ((with_reducible refine blk_old _ _ _ ?_ ?_); focus (first | omega | (simp; omega))) | ((with_reducible apply blk_set); focus (simp; done)) | ((with_reducible refine blk_off _ _ _ _ ?_ ?_); focus (simp; done)) | ((with_reducible refine blk_offc _ _ _ _ ?_ ?_); focus (first | (simp; done) | omega | (simp; omega))) | ((with_reducible refine blk_off _ _ _ _ ?_ ?_); focus (first | omega | (simp; omega))) | (with_reducible refine blk_drew _ _ ?_) | ((with_reducible refine blk_below (by assumption) ?_ ?_); focus (simp; done)) | ((with_reducible refine blk_below (by assumption) ?_ ?_); focus (first | omega | (simp; omega))))) (by rw [row_size]; kernel_rfl) (by simp [row_size]) (row_cells _ _ _ rfl) _ (row_over _ _ 64 _ _ (by simp)) ?_) | ((with_reducible refine at_load 29 ?_); refine wpList_load_part rfl 29 _ rfl _ 0 66 rfl _ _ _ _ (by repeat (first | (with_reducible assumption) | ((with_reducible refine blk_new _ _ _ ?_); focus (simp; done)) | ((with_reducible refine blk_old _ _ _ ?_ ?_); focus (simp; done)) | ((with_reducible refine blk_old _ _ _ ?_ ?_); focus (first | omega | (simp; omega))) | ((with_reducible apply blk_set); focus (simp; done)) | ((with_reducible refine blk_off _ _ _ _ ?_ ?_); focus (simp; done)) | ((with_reducible refine blk_offc _ _ _ _ ?_ ?_); focus (first | (simp; done) | omega | (simp; omega))) | ((with_reducible refine blk_off _ _ _ _ ?_ ?_); focus (first | omega | (simp; omega))) | (with_reducible refine blk_drew _ _ ?_) | ((with_reducible refine blk_below (by assumption) ?_ ?_); focus (simp; done)) | ((with_reducible refine blk_below (by assumption) ?_ ?_); focus (first | omega | (simp; omega))))) Tryz.underlying29 rfl (by kernel_rfl) (by simp [row_size]) _ (row_all [_, _] 64 _) ?_) | go_in)
    go_loopw [5] (fun i wr => ∃ k : Nat, k ≤ 64 ∧ i = .int .i64 k ∧ wr.heap[w.heap.size]? = some (.cells (plate a b F) 29 (0, 0)) ∧ wr.heap[w.heap.size + 1]? = some (.cells (plate 0 0 (fun _ => 0)) 29 (0, 0)) ∧ wr.heap[w.heap.size + 2]? = some (.cells (plate a b (mapC a b (fun i => fsub 1065353216 (F i)) (fun _ => 0) (cntC a b k))) 29 (0, 0)) ∧ Below w.heap.size w wr) (fun i _ => 64 - (intOf i).toNat)
    case atStart => exact ⟨0, by omega, rfl, (by repeat (first | (with_reducible assumption) | ((with_reducible refine blk_new _ _ _ ?_); focus (simp; done)) | ((with_reducible refine blk_old _ _ _ ?_ ?_); focus (simp; done)) | ((with_reducible refine blk_old _ _ _ ?_ ?_); focus (first | omega | (simp; omega))) | ((with_reducible apply blk_set); focus (simp; done)) | ((with_reducible refine blk_off _ _ _ _ ?_ ?_); focus (simp; done)) | ((with_reducible refine blk_offc _ _ _ _ ?_ ?_); focus (first | (simp; done) | omega | (simp; omega))) | ((with_reducible refine blk_off _ _ _ _ ?_ ?_); focus (first | omega | (simp; omega))) | (with_reducible refine blk_drew _ _ ?_) | ((with_reducible refine blk_below (by assumption) ?_ ?_); focus (simp; done)) | ((with_reducible refine blk_below (by assumption) ?_ ?_); focus (first | omega | (simp; omega))))), (by repeat (first | (with_reducible assumption) | ((with_reducible refine blk_new _ _ _ ?_); focus (simp; done)) | ((with_reducible refine blk_old _ _ _ ?_ ?_); focus (simp; done)) | ((with_reducible refine blk_old _ _ _ ?_ ?_); focus (first | omega | (simp; omega))) | ((with_reducible apply blk_set); focus (simp; done)) | ((with_reducible refine blk_off _ _ _ _ ?_ ?_); focus (simp; done)) | ((with_reducible refine blk_offc _ _ _ _ ?_ ?_); focus (first | (simp; done) | omega | (simp; omega))) | ((with_reducible refine blk_off _ _ _ _ ?_ ?_); focus (first | omega | (simp; omega))) | (with_reducible refine blk_drew _ _ ?_) | ((with_reducible refine blk_below (by assumption) ?_ ?_); focus (simp; done)) | ((with_reducible refine blk_below (by assumption) ?_ ?_); focus (first | omega | (simp; omega))))), by rw [show cntC a b 0 = 0 from rfl, mapC_0]; exact (by repeat (first | (with_reducible assumption) | ((with_reducible refine blk_new _ _ _ ?_); focus (simp; done)) | ((with_reducible refine blk_old _ _ _ ?_ ?_); focus (simp; done)) | ((with_reducible refine blk_old _ _ _ ?_ ?_); focus (first | omega | (simp; omega))) | ((with_reducible apply blk_set); focus (simp; done)) | ((with_reducible refine blk_off _ _ _ _ ?_ ?_); focus (simp; done)) | ((with_reducible refine blk_offc _ _ _ _ ?_ ?_); focus (first | (simp; done) | omega | (simp; omega))) | ((with_reducible refine blk_off _ _ _ _ ?_ ?_); focus (first | omega | (simp; omega))) | (with_reducible refine blk_drew _ _ ?_) | ((with_reducible refine blk_below (by assumption) ?_ ?_); focus (simp; done)) | ((with_reducible refine blk_below (by assumption) ?_ ?_); focus (first | omega | (simp; omega))))), (by repeat (first | (with_reducible assumption) | (with_reducible exact Below.refl _ _) | ((with_reducible refine bel_alloc _ ?_ ?_); focus (first | omega | (simp; done) | (simp; omega))) | ((with_reducible refine bel_row _ ?_ ?_); focus (first | omega | (simp; done) | (simp; omega))) | ((with_reducible refine bel_cell _ ?_ ?_); focus (first | omega | (simp; done) | (simp; omega))) | (with_reducible refine Below.drew ?_) | (with_reducible refine below_wideW _ ?_) | ((with_reducible refine bel_next (by assumption) ?_ ?_); focus (first | omega | (simp; done) | (simp; omega)))))⟩
    case round =>
      obtain ⟨k, hk, rfl, h1, h2, h3, h5⟩ := hrel
      have p0 : wr.cell? ⟨w.heap.size, 0, none⟩ = some (.int .i8 a) := (cell_of_row wr _ 0 _ _ _ h1).trans (row_g0 _ _ _ _)
      have p1 : wr.cell? ⟨w.heap.size, 1, none⟩ = some (.int .i8 b) := (cell_of_row wr _ 1 _ _ _ h1).trans (row_g1 _ _ _ _ _)
      by_cases hlt : k < 64
      · have k0 : (0 : Int) ≤ k := by omega
        have k64 : (k : Int) < 64 := by omega
        have cf : wr.cell? ⟨w.heap.size, 2 + k, none⟩ = some (.float .f32 (F k)) := (cell_of_row wr _ (2 + k) _ _ _ h1).trans (row_k2 _ _ _ _ hlt)
        have co : wr.cell? ⟨w.heap.size + 2, 2 + k, none⟩ = some (.float .f32 (mapC a b (fun i => fsub 1065353216 (F i)) (fun _ => 0) (cntC a b k) k)) := (cell_of_row wr _ (2 + k) _ _ _ h3).trans (row_k2 _ _ _ _ hlt)
        have ff : wr.frozen? ⟨w.heap.size + 2, 2 + k, none⟩ = false := frozen_of_row wr _ _ _ _ h3
        have H1 := Lib.hid h1
        have H2 := Lib.hid h2
        have H3 := Lib.hid h3
        have H5 := Lib.hid h5
        clear h1 h2 h3 h5
        cases hr : isC a b k
        · have HR := Lib.hid hr
          have hIs : ∀ w' : World, w'.cell? ⟨w.heap.size, 0, none⟩ = some (.int .i8 a) → w'.cell? ⟨w.heap.size, 1, none⟩ = some (.int .i8 b) → Calls Tryz.prog 46 #[.pointer (some ⟨w.heap.size, 0, none⟩), .int .i64 k] w' fun e w'' => e = .returned (.bool false) ∧ w' = w'' := fun w' c0 c1 => by have := specIs_any ha hb hlt w' (w.heap.size) c0 c1; rwa [HR.out] at this
          clear hr
          go_wp2_with (first | (go_at_call 46; (with_reducible refine (hIs _ (by assumption) (by assumption)).mono ?_); rintro e w' ⟨rfl, rfl⟩) | go_in)
          go_roundw
          case rel => exact ⟨k + 1, by omega, by go_num, H1.out, H2.out, by rw [cnt_skip a b k HR.out]; exact H3.out, H5.out⟩
          case measure => simp [intOf]; omega
        · have HR := Lib.hid hr
          have hIs : ∀ w' : World, w'.cell? ⟨w.heap.size, 0, none⟩ = some (.int .i8 a) → w'.cell? ⟨w.heap.size, 1, none⟩ = some (.int .i8 b) → Calls Tryz.prog 46 #[.pointer (some ⟨w.heap.size, 0, none⟩), .int .i64 k] w' fun e w'' => e = .returned (.bool true) ∧ w' = w'' := fun w' c0 c1 => by have := specIs_any ha hb hlt w' (w.heap.size) c0 c1; rwa [HR.out] at this
          clear hr
          have e0 := fun w => run_fsub (P := Tryz.prog) w 25 (x := 1065353216) (by decide) (part_fin (HP.out k hlt HR.out))
          go_wp2_with (first | (go_at_call 46; (with_reducible refine (hIs _ (by assumption) (by assumption)).mono ?_); rintro e w' ⟨rfl, rfl⟩) | go_in)
          go_roundw
          case rel => exact ⟨k + 1, by omega, by go_num, put_off (by omega) H1.out, put_off (by omega) H2.out, put_cnt ha hb hlt HR.out rfl rfl H3.out, bel_cell _ (by simp; omega) H5.out⟩
          case measure => simp [intOf]; omega
      · obtain rfl : k = 64 := by omega
        rw [(cells_all a ha b hb).1, show plate a b (mapC a b (fun i => fsub 1065353216 (F i)) (fun _ => 0) (a * b)) = plate a b (mapA a b (fun i => fsub 1065353216 (F i)) (fun _ => 0)) from mapC_end ha hb _ _ _] at h3
        have H5 := Lib.hid h5
        have hz5 := h5.size
        clear h5
        go_wp2_with (first | (go_at_call 45; (with_reducible refine (specPOk_any a b F _ (by omega) (by omega) (by omega) (by omega) _ ?_).mono ?_); (focus (repeat (first | (with_reducible assumption) | ((with_reducible refine blk_new _ _ _ ?_); focus (simp; done)) | ((with_reducible refine blk_old _ _ _ ?_ ?_); focus (simp; done)) | ((with_reducible refine blk_old _ _ _ ?_ ?_); focus (first | omega | (simp; omega))) | ((with_reducible apply blk_set); focus (simp; done)) | ((with_reducible refine blk_off _ _ _ _ ?_ ?_); focus (simp; done)) | ((with_reducible refine blk_offc _ _ _ _ ?_ ?_); focus (first | (simp; done) | omega | (simp; omega))) | ((with_reducible refine blk_off _ _ _ _ ?_ ?_); focus (first | omega | (simp; omega))) | (with_reducible refine blk_drew _ _ ?_) | ((with_reducible refine blk_below (by assumption) ?_ ?_); focus (simp; done)) | ((with_reducible refine blk_below (by assumption) ?_ ?_); focus (first | omega | (simp; omega)))))); rintro e w' ⟨rfl, rfl⟩) | ((with_reducible refine at_store 29 ?_); refine wpList_store_part rfl 29 _ _ rfl _ 0 _ rfl rfl _ _ (by repeat (first | (with_reducible assumption) | ((with_reducible refine blk_new _ _ _ ?_); focus (simp; done)) | ((with_reducible refine blk_old _ _ _ ?_ ?_); focus (simp; done)) | ((with_reducible refine blk_old _ _ _ ?_ ?_); focus (first | omega | (simp; omega))) | ((with_reducible apply blk_set); focus (simp; done)) | ((with_reducible refine blk_off _ _ _ _ ?_ ?_); focus (simp; done)) | ((with_reducible refine blk_offc _ _ _ _ ?_ ?_); focus (first | (simp; done) | omega | (simp; omega))) | ((with_reducible refine blk_off _ _ _ _ ?_ ?_); focus (first | omega | (simp; omega))) | (with_reducible refine blk_drew _ _ ?_) | ((with_reducible refine blk_below (by assumption) ?_ ?_); focus (simp; done)) | ((with_reducible refine blk_below (by assumption) ?_ ?_); focus (first | omega | (simp; omega))))) (by rw [row_size]; kernel_rfl) (by simp [row_size]) (row_cells _ _ _ rfl) _ (row_over _ _ 64 _ _ (by simp)) ?_) | ((with_reducible refine at_load 29 ?_); refine wpList_load_part rfl 29 _ rfl _ 0 66 rfl _ _ _ _ (by repeat (first | (with_reducible assumption) | ((with_reducible refine blk_new _ _ _ ?_); focus (simp; done)) | ((with_reducible refine blk_old _ _ _ ?_ ?_); focus (simp; done)) | ((with_reducible refine blk_old _ _ _ ?_ ?_); focus (first | omega | (simp; omega))) | ((with_reducible apply blk_set); focus (simp; done)) | ((with_reducible refine blk_off _ _ _ _ ?_ ?_); focus (simp; done)) | ((with_reducible refine blk_offc _ _ _ _ ?_ ?_); focus (first | (simp; done) | omega | (simp; omega))) | ((with_reducible refine blk_off _ _ _ _ ?_ ?_); focus (first | omega | (simp; omega))) | (with_reducible refine blk_drew _ _ ?_) | ((with_reducible refine blk_below (by assumption) ?_ ?_); focus (simp; done)) | ((with_reducible refine blk_below (by assumption) ?_ ?_); focus (first | omega | (simp; omega))))) Tryz.underlying29 rfl (by kernel_rfl) (by simp [row_size]) _ (row_all [_, _] 64 _) ?_) | go_in)
        have h5 := H5.out
        refine bodyPost_ret (v := .tuple #[.agg (plate a b (mapA a b (fun i => fsub 1065353216 (F i)) (fun _ => 0))), .int .i64 0]) ?_ ?_ ?_
        · refine results_row_tmp Tryz.results25 _ _ _ 29 (plate a b (mapA a b (fun i => fsub 1065353216 (F i)) (fun _ => 0))) (0, 0) _ _ rfl rfl ?_ Tryz.underlying29 rfl (by simp only [row_size]; kernel_rfl)
          exact (by repeat (first | (with_reducible assumption) | ((with_reducible refine blk_new _ _ _ ?_); focus (simp; done)) | ((with_reducible refine blk_old _ _ _ ?_ ?_); focus (simp; done)) | ((with_reducible refine blk_old _ _ _ ?_ ?_); focus (first | omega | (simp; omega))) | ((with_reducible apply blk_set); focus (simp; done)) | ((with_reducible refine blk_off _ _ _ _ ?_ ?_); focus (simp; done)) | ((with_reducible refine blk_offc _ _ _ _ ?_ ?_); focus (first | (simp; done) | omega | (simp; omega))) | ((with_reducible refine blk_off _ _ _ _ ?_ ?_); focus (first | omega | (simp; omega))) | (with_reducible refine blk_drew _ _ ?_) | ((with_reducible refine blk_below (by assumption) ?_ ?_); focus (simp; done)) | ((with_reducible refine blk_below (by assumption) ?_ ?_); focus (first | omega | (simp; omega)))))
        · rfl
        · exact ⟨rfl, (by repeat (first | (with_reducible assumption) | (with_reducible exact Below.refl _ _) | ((with_reducible refine bel_alloc _ ?_ ?_); focus (first | omega | (simp; done) | (simp; omega))) | ((with_reducible refine bel_row _ ?_ ?_); focus (first | omega | (simp; done) | (simp; omega))) | ((with_reducible refine bel_cell _ ?_ ?_); focus (first | omega | (simp; done) | (simp; omega))) | (with_reducible refine Below.drew ?_) | (with_reducible refine below_wideW _ ?_) | ((with_reducible refine bel_next (by assumption) ?_ ?_); focus (first | omega | (simp; done) | (simp; omega)))))⟩

theorem giveInvert {a b : Nat} {F : Nat → Nat} (ha : a < 9) (hb : b < 9) (hp : ∀ i, i < 64 → isC a b i = true → partB (F i) = true) (w : World) : GivesDots Tryz.prog 62 #[] a b F (fun i => fsub 1065353216 (F i)) w := by
  intro n W hn _
  have h64 := (cells_all a ha b hb).2
  obtain ⟨q1, q2, q3⟩ := cells_of a ha b hb n (by omega) hn
  have e0 := fun w => run_fsub (P := Tryz.prog) w 25 (x := 1065353216) (by decide) (part_fin (hp _ q1 q2))
  clear q1 q2 q3 hp hn h64
  show Calls Tryz.prog 62 #[.int .i64 (cellAt a n : Nat), .float .f32 (F (cellAt a n))] W _
  go_enter Tryz.func62, Tryz.ntmps62
  go_wp2
  go_ret
  exact ⟨rfl, 0, rfl⟩

set_option maxRecDepth 100000 in
set_option maxHeartbeats 3200000 in
theorem implInvert_any (x y : Int) (F : Nat → Nat) (w : World) (lx : -128 ≤ x) (ux : x ≤ 127) (ly : -128 ≤ y) (uy : y ≤ 127) : Calls Tryz.prog 24 #[.agg (plate x y F)] w fun e w' => e = .returned (.tuple #[.agg (if plateB x y F then plate x y (mapA x.toNat y.toNat (fun i => fsub 1065353216 (F i)) (fun _ => 0)) else plate 0 0 (fun _ => 0)), .int .i64 (if plateB x y F then 0 else 1)]) ∧ Below w.heap.size w w' := by
  have hz : Tryz.zeroCells29 = row [.int .i8 0, .int .i8 0] 64 (fun _ => 0) := rfl
  cases ho : plateB x y F
  · go_enter Tryz.func24, Tryz.ntmps24
    go_wp2_with (first | (go_at_call 16; (with_reducible refine (implPOk_any x y F _ lx ux ly uy).mono ?_); rintro e w1 ⟨rfl, hb1⟩; have hz1 := hb1.size; (try simp at hz1); obtain ⟨hc1, hf1⟩ := bcell hb1) | ((with_reducible refine at_store 29 ?_); refine wpList_store_part rfl 29 _ _ rfl _ 0 _ rfl rfl _ _ (by repeat (first | (with_reducible assumption) | ((with_reducible refine blk_new _ _ _ ?_); focus (simp; done)) | ((with_reducible refine blk_old _ _ _ ?_ ?_); focus (simp; done)) | ((with_reducible refine blk_old _ _ _ ?_ ?_); focus (first | omega | (simp; omega))) | ((with_reducible apply blk_set); focus (simp; done)) | ((with_reducible refine blk_off _ _ _ _ ?_ ?_); focus (simp; done)) | ((with_reducible refine blk_offc _ _ _ _ ?_ ?_); focus (first | (simp; done) | omega | (simp; omega))) | ((with_reducible refine blk_off _ _ _ _ ?_ ?_); focus (first | omega | (simp; omega))) | (with_reducible refine blk_drew _ _ ?_) | ((with_reducible refine blk_below (by assumption) ?_ ?_); focus (simp; done)) | ((with_reducible refine blk_below (by assumption) ?_ ?_); focus (first | omega | (simp; omega))))) (by rw [row_size]; kernel_rfl) (by simp [row_size]) (row_cells _ _ _ rfl) _ (row_over _ _ 64 _ _ (by simp)) ?_) | ((with_reducible refine at_load 29 ?_); refine wpList_load_part rfl 29 _ rfl _ 0 66 rfl _ _ _ _ (by repeat (first | (with_reducible assumption) | ((with_reducible refine blk_new _ _ _ ?_); focus (simp; done)) | ((with_reducible refine blk_old _ _ _ ?_ ?_); focus (simp; done)) | ((with_reducible refine blk_old _ _ _ ?_ ?_); focus (first | omega | (simp; omega))) | ((with_reducible apply blk_set); focus (simp; done)) | ((with_reducible refine blk_off _ _ _ _ ?_ ?_); focus (simp; done)) | ((with_reducible refine blk_offc _ _ _ _ ?_ ?_); focus (first | (simp; done) | omega | (simp; omega))) | ((with_reducible refine blk_off _ _ _ _ ?_ ?_); focus (first | omega | (simp; omega))) | (with_reducible refine blk_drew _ _ ?_) | ((with_reducible refine blk_below (by assumption) ?_ ?_); focus (simp; done)) | ((with_reducible refine blk_below (by assumption) ?_ ?_); focus (first | omega | (simp; omega))))) Tryz.underlying29 rfl (by kernel_rfl) (by simp [row_size]) _ (row_all [_, _] 64 _) ?_) | go_in)
    refine bodyPost_ret (v := .tuple #[.agg (plate 0 0 (fun _ => 0)), .int .i64 1]) ?_ ?_ ?_
    · refine results_row_tmp Tryz.results24 _ _ _ 29 (plate 0 0 (fun _ => 0)) (0, 0) _ _ rfl rfl ?_ Tryz.underlying29 rfl (by simp only [row_size]; kernel_rfl)
      exact (by repeat (first | (with_reducible assumption) | ((with_reducible refine blk_new _ _ _ ?_); focus (simp; done)) | ((with_reducible refine blk_old _ _ _ ?_ ?_); focus (simp; done)) | ((with_reducible refine blk_old _ _ _ ?_ ?_); focus (first | omega | (simp; omega))) | ((with_reducible apply blk_set); focus (simp; done)) | ((with_reducible refine blk_off _ _ _ _ ?_ ?_); focus (simp; done)) | ((with_reducible refine blk_offc _ _ _ _ ?_ ?_); focus (first | (simp; done) | omega | (simp; omega))) | ((with_reducible refine blk_off _ _ _ _ ?_ ?_); focus (first | omega | (simp; omega))) | (with_reducible refine blk_drew _ _ ?_) | ((with_reducible refine blk_below (by assumption) ?_ ?_); focus (simp; done)) | ((with_reducible refine blk_below (by assumption) ?_ ?_); focus (first | omega | (simp; omega)))))
    · rfl
    · exact ⟨rfl, (by repeat (first | (with_reducible assumption) | (with_reducible exact Below.refl _ _) | ((with_reducible refine bel_alloc _ ?_ ?_); focus (first | omega | (simp; done) | (simp; omega))) | ((with_reducible refine bel_row _ ?_ ?_); focus (first | omega | (simp; done) | (simp; omega))) | ((with_reducible refine bel_cell _ ?_ ?_); focus (first | omega | (simp; done) | (simp; omega))) | (with_reducible refine Below.drew ?_) | (with_reducible refine below_wideW _ ?_) | ((with_reducible refine bel_next (by assumption) ?_ ?_); focus (first | omega | (simp; done) | (simp; omega)))))⟩
  · obtain ⟨a, b, rfl, rfl, la, ha, lb, hb, hp, hz0⟩ := plateB_size ho
    have HP := Lib.hid hp
    clear hp hz0
    go_enter Tryz.func24, Tryz.ntmps24
    go_wp2_with (first | (go_at_call 16; (with_reducible refine (implPOk_any a b F _ (by omega) (by omega) (by omega) (by omega)).mono ?_); rintro e w1 ⟨rfl, hb1⟩; have hz1 := hb1.size; (try simp at hz1); obtain ⟨hc1, hf1⟩ := bcell hb1) | ((with_reducible refine at_store 29 ?_); refine wpList_store_part rfl 29 _ _ rfl _ 0 _ rfl rfl _ _ (by repeat (first | (with_reducible assumption) | ((with_reducible refine blk_new _ _ _ ?_); focus (simp; done)) | ((with_reducible refine blk_old _ _ _ ?_ ?_); focus (simp; done)) | ((with_reducible refine blk_old _ _ _ ?_ ?_); focus (first | omega | (simp; omega))) | ((with_reducible apply blk_set); focus (simp; done)) | ((with_reducible refine blk_off _ _ _ _ ?_ ?_); focus (simp; done)) | ((with_reducible refine blk_offc _ _ _ _ ?_ ?_); focus (first | (simp; done) | omega | (simp; omega))) | ((with_reducible refine blk_off _ _ _ _ ?_ ?_); focus (first | omega | (simp; omega))) | (with_reducible refine blk_drew _ _ ?_) | ((with_reducible refine blk_below (by assumption) ?_ ?_); focus (simp; done)) | ((with_reducible refine blk_below (by assumption) ?_ ?_); focus (first | omega | (simp; omega))))) (by rw [row_size]; kernel_rfl) (by simp [row_size]) (row_cells _ _ _ rfl) _ (row_over _ _ 64 _ _ (by simp)) ?_) | ((with_reducible refine at_load 29 ?_); refine wpList_load_part rfl 29 _ rfl _ 0 66 rfl _ _ _ _ (by repeat (first | (with_reducible assumption) | ((with_reducible refine blk_new _ _ _ ?_); focus (simp; done)) | ((with_reducible refine blk_old _ _ _ ?_ ?_); focus (simp; done)) | ((with_reducible refine blk_old _ _ _ ?_ ?_); focus (first | omega | (simp; omega))) | ((with_reducible apply blk_set); focus (simp; done)) | ((with_reducible refine blk_off _ _ _ _ ?_ ?_); focus (simp; done)) | ((with_reducible refine blk_offc _ _ _ _ ?_ ?_); focus (first | (simp; done) | omega | (simp; omega))) | ((with_reducible refine blk_off _ _ _ _ ?_ ?_); focus (first | omega | (simp; omega))) | (with_reducible refine blk_drew _ _ ?_) | ((with_reducible refine blk_below (by assumption) ?_ ?_); focus (simp; done)) | ((with_reducible refine blk_below (by assumption) ?_ ?_); focus (first | omega | (simp; omega))))) Tryz.underlying29 rfl (by kernel_rfl) (by simp [row_size]) _ (row_all [_, _] 64 _) ?_) | (go_at_call 43; (with_reducible refine (freshDots_any 62 #[] (fun args w => by kernel_rfl) a b la ha lb hb F (fun i => fsub 1065353216 (F i)) _ (giveInvert ha hb HP.out _)).mono ?_); rintro e w2 ⟨rfl, hb2⟩; have hz2 := hb2.size; (try simp at hz2)) | go_in)
    refine bodyPost_ret (v := .tuple #[.agg (plate a b (mapA a b (fun i => fsub 1065353216 (F i)) (fun _ => 0))), .int .i64 0]) ?_ ?_ ?_
    · refine results_row_tmp Tryz.results24 _ _ _ 29 (plate a b (mapA a b (fun i => fsub 1065353216 (F i)) (fun _ => 0))) (0, 0) _ _ rfl rfl ?_ Tryz.underlying29 rfl (by simp only [row_size]; kernel_rfl)
      exact (by repeat (first | (with_reducible assumption) | ((with_reducible refine blk_new _ _ _ ?_); focus (simp; done)) | ((with_reducible refine blk_old _ _ _ ?_ ?_); focus (simp; done)) | ((with_reducible refine blk_old _ _ _ ?_ ?_); focus (first | omega | (simp; omega))) | ((with_reducible apply blk_set); focus (simp; done)) | ((with_reducible refine blk_off _ _ _ _ ?_ ?_); focus (simp; done)) | ((with_reducible refine blk_offc _ _ _ _ ?_ ?_); focus (first | (simp; done) | omega | (simp; omega))) | ((with_reducible refine blk_off _ _ _ _ ?_ ?_); focus (first | omega | (simp; omega))) | (with_reducible refine blk_drew _ _ ?_) | ((with_reducible refine blk_below (by assumption) ?_ ?_); focus (simp; done)) | ((with_reducible refine blk_below (by assumption) ?_ ?_); focus (first | omega | (simp; omega)))))
    · rfl
    · exact ⟨rfl, (by repeat (first | (with_reducible assumption) | (with_reducible exact Below.refl _ _) | ((with_reducible refine bel_alloc _ ?_ ?_); focus (first | omega | (simp; done) | (simp; omega))) | ((with_reducible refine bel_row _ ?_ ?_); focus (first | omega | (simp; done) | (simp; omega))) | ((with_reducible refine bel_cell _ ?_ ?_); focus (first | omega | (simp; done) | (simp; omega))) | (with_reducible refine Below.drew ?_) | (with_reducible refine below_wideW _ ?_) | ((with_reducible refine bel_next (by assumption) ?_ ?_); focus (first | omega | (simp; done) | (simp; omega)))))⟩

end Go.Proofs.YtekfmjddlemboaaGreatDoor

/-! Contracts of SamePlate, the reference's and the program's; the laws on ValidPlate and SamePlate. -/
set_option linter.unusedVariables false
set_option linter.unusedSimpArgs false
namespace Go.Proofs.YtekfmjddlemboaaGreatDoor
open Go.RowKit Ieee

def sameP (x y : Int) (F : Nat → Nat) (x' y' : Int) (F' : Nat → Nat) : Bool := (x == x') && ((y == y') && sameTo F F' 64)
set_option maxHeartbeats 1600000 in
theorem specSamePl_any (x y : Int) (F : Nat → Nat) (x' y' : Int) (F' : Nat → Nat) (w : World) (hF : ∀ i, i < 64 → F i < 2 ^ 32) (hF' : ∀ i, i < 64 → F' i < 2 ^ 32) (B B' : Nat) (hB : w.heap[B]? = some (.cells (plate x y F) 29 (0, 0))) (hB' : w.heap[B']? = some (.cells (plate x' y' F') 29 (0, 0))) :
    Calls Tryz.prog 51 #[.pointer (some ⟨B, 0, none⟩), .pointer (some ⟨B', 0, none⟩)] w fun e w' => e = .returned (.bool (sameP x y F x' y' F')) ∧ ∃ m, w' = w.drewN m := by
  have HB := Lib.hid hB
  have HB' := Lib.hid hB'
  clear hB hB'
  go_enter Tryz.func51, Tryz.ntmps51
  go_wp2
  go_loopw [5] (fun i wr => ∃ k m : Nat, k ≤ 64 ∧ i = .int .i64 k ∧ sameTo F F' k = true ∧ wr = w.drewN m) (fun i _ => 64 - (intOf i).toNat)
  case atStart => exact ⟨0, 0, by omega, rfl, rfl, rfl⟩
  case round =>
    obtain ⟨k, m, hk, rfl, hsm, hwr⟩ := hrel
    have HW := Lib.hid hwr
    have HS := Lib.hid hsm
    clear hsm
    by_cases hlt : k < 64
    · have ca : wr.cell? ⟨B, 2 + k, none⟩ = some (.float .f32 (F k)) := by rw [hwr]; exact (cell_of_row w _ (2 + k) _ _ _ HB.out).trans (row_k2 _ _ _ _ hlt)
      have cb : wr.cell? ⟨B', 2 + k, none⟩ = some (.float .f32 (F' k)) := by rw [hwr]; exact (cell_of_row w _ (2 + k) _ _ _ HB'.out).trans (row_k2 _ _ _ _ hlt)
      clear hwr
      cases hk2 : sameN (F k) (F' k)
      · go_wp2
        go_quiet ((go_at_call 55; with_reducible exact specSame_q hk2 _ _))
        go_wp2
        go_ret
        exact ⟨by unfold sameP; rw [sameTo_no hlt hk2]; simp, _, by rw [HW.out, World.drewN_drewN]⟩
      · go_wp2
        go_quiet ((go_at_call 55; with_reducible exact specSame_q hk2 _ _))
        go_wp2
        go_roundw
        case rel => exact ⟨k + 1, _, by omega, by go_num, by simp [sameTo, HS.out, hk2], by rw [HW.out, World.drewN_drewN]⟩
        case measure => simp [intOf]; omega
    · obtain rfl : k = 64 := by omega
      have d0 : wr.cell? ⟨B, 0, none⟩ = some (.int .i8 x) := by rw [hwr]; exact (cell_of_row w _ 0 _ _ _ HB.out).trans (row_g0 _ _ _ _)
      have d1 : wr.cell? ⟨B, 1, none⟩ = some (.int .i8 y) := by rw [hwr]; exact (cell_of_row w _ 1 _ _ _ HB.out).trans (row_g1 _ _ _ _ _)
      have e0 : wr.cell? ⟨B', 0, none⟩ = some (.int .i8 x') := by rw [hwr]; exact (cell_of_row w _ 0 _ _ _ HB'.out).trans (row_g0 _ _ _ _)
      have e1 : wr.cell? ⟨B', 1, none⟩ = some (.int .i8 y') := by rw [hwr]; exact (cell_of_row w _ 1 _ _ _ HB'.out).trans (row_g1 _ _ _ _ _)
      clear hwr
      by_cases hr : x = x'
      · by_cases hy : y = y'
        · have hrb : (y == y') = true := by simp [hy]
          go_wp2
          go_quiet (fail)
          go_wp2
          go_ret
          exact ⟨by unfold sameP; rw [HS.out]; simp [hr, hy], _, by rw [HW.out, World.drewN_drewN]⟩
        · have hrb : (y == y') = false := by simp [hy]
          go_wp2
          go_quiet (fail)
          go_wp2
          go_ret
          exact ⟨by unfold sameP; rw [HS.out]; simp [hr, hy], _, by rw [HW.out, World.drewN_drewN]⟩
      · have hrb : (x == x') = false := by simp [hr]
        go_wp2
        go_quiet (fail)
        go_wp2
        go_ret
        exact ⟨by unfold sameP; simp [hr], _, by rw [HW.out, World.drewN_drewN]⟩
theorem sameNumsP_q {x y : Int} {F : Nat → Nat} {x' y' : Int} {F' : Nat → Nat} {v : Bool} {W : World} {B B' : Nat} (h : sameTo F F' 64 = v) (hF : ∀ i, i < 64 → F i < 2 ^ 32) (hF' : ∀ i, i < 64 → F' i < 2 ^ 32)
    (hB : W.heap[B]? = some (.cells (plate x y F) 29 (0, 0))) (hB' : W.heap[B']? = some (.cells (plate x' y' F') 29 (0, 0))) (c c' n : Nat) :
    Calls Tryz.prog 50 #[.slice (some ⟨B, 2, none⟩) 64 c, .slice (some ⟨B', 2, none⟩) 64 c'] (W.drewN n) fun e w'' => e = .returned (.bool v) ∧ ∃ m, w'' = W.drewN m := by
  subst h
  refine (sameNumbers_any F F' 64 B 2 B' 2 c c' (W.drewN n) (by omega) hF hF' (fun i hi => (cell_of_row (W.drewN n) _ (2 + i) _ _ _ hB).trans (row_k2 _ _ _ _ hi)) (fun i hi => (cell_of_row (W.drewN n) _ (2 + i) _ _ _ hB').trans (row_k2 _ _ _ _ hi))).mono ?_
  rintro e w' ⟨rfl, m, rfl⟩
  exact ⟨rfl, _, by rw [World.drewN_drewN]⟩

set_option maxHeartbeats 1600000 in
theorem implSamePl_any (x y : Int) (F : Nat → Nat) (x' y' : Int) (F' : Nat → Nat) (w : World) (hF : ∀ i, i < 64 → F i < 2 ^ 32) (hF' : ∀ i, i < 64 → F' i < 2 ^ 32) : Calls Tryz.prog 14 #[.agg (plate x y F), .agg (plate x' y' F')] w fun e w' => e = .returned (.bool (sameP x y F x' y' F')) ∧ Below w.heap.size w w' := by
  have hB : ((w.alloc (.cells (plate x y F) 29)).alloc (.cells (plate x' y' F') 29)).heap[w.heap.size]? = some (.cells (plate x y F) 29 (0, 0)) := (by repeat (first | (with_reducible assumption) | ((with_reducible refine blk_new _ _ _ ?_); focus (simp; done)) | ((with_reducible refine blk_old _ _ _ ?_ ?_); focus (simp; done)) | ((with_reducible refine blk_old _ _ _ ?_ ?_); focus (first | omega | (simp; omega))) | ((with_reducible apply blk_set); focus (simp; done)) | ((with_reducible refine blk_off _ _ _ _ ?_ ?_); focus (simp; done)) | ((with_reducible refine blk_offc _ _ _ _ ?_ ?_); focus (first | (simp; done) | omega | (simp; omega))) | ((with_reducible refine blk_off _ _ _ _ ?_ ?_); focus (first | omega | (simp; omega))) | (with_reducible refine blk_drew _ _ ?_) | ((with_reducible refine blk_below (by assumption) ?_ ?_); focus (simp; done)) | ((with_reducible refine blk_below (by assumption) ?_ ?_); focus (first | omega | (simp; omega)))))
  have hB' : ((w.alloc (.cells (plate x y F) 29)).alloc (.cells (plate x' y' F') 29)).heap[w.heap.size + 1]? = some (.cells (plate x' y' F') 29 (0, 0)) := (by repeat (first | (with_reducible assumption) | ((with_reducible refine blk_new _ _ _ ?_); focus (simp; done)) | ((with_reducible refine blk_old _ _ _ ?_ ?_); focus (simp; done)) | ((with_reducible refine blk_old _ _ _ ?_ ?_); focus (first | omega | (simp; omega))) | ((with_reducible apply blk_set); focus (simp; done)) | ((with_reducible refine blk_off _ _ _ _ ?_ ?_); focus (simp; done)) | ((with_reducible refine blk_offc _ _ _ _ ?_ ?_); focus (first | (simp; done) | omega | (simp; omega))) | ((with_reducible refine blk_off _ _ _ _ ?_ ?_); focus (first | omega | (simp; omega))) | (with_reducible refine blk_drew _ _ ?_) | ((with_reducible refine blk_below (by assumption) ?_ ?_); focus (simp; done)) | ((with_reducible refine blk_below (by assumption) ?_ ?_); focus (first | omega | (simp; omega)))))
  have hsl := fun b w => run_sliceAt_all (P := Tryz.prog) w 27 25 64 b 2 Tryz.underlying27 (by kernel_rfl)
  by_cases hr : x = x'
  · by_cases hy : y = y'
    · subst hr
      subst hy
      cases h3 : sameTo F F' 64
      · go_enter Tryz.func14, Tryz.ntmps14
        go_wp2
        go_quiet ((go_at_call 50; with_reducible exact sameNumsP_q h3 hF hF' hB hB' _ _ _))
        go_wp2
        go_ret
        exact ⟨by unfold sameP; simp [h3], bel_drewN _ (by repeat (first | (with_reducible assumption) | (with_reducible exact Below.refl _ _) | ((with_reducible refine bel_alloc _ ?_ ?_); focus (first | omega | (simp; done) | (simp; omega))) | ((with_reducible refine bel_row _ ?_ ?_); focus (first | omega | (simp; done) | (simp; omega))) | ((with_reducible refine bel_cell _ ?_ ?_); focus (first | omega | (simp; done) | (simp; omega))) | (with_reducible refine Below.drew ?_) | (with_reducible refine below_wideW _ ?_) | ((with_reducible refine bel_next (by assumption) ?_ ?_); focus (first | omega | (simp; done) | (simp; omega)))))⟩
      · go_enter Tryz.func14, Tryz.ntmps14
        go_wp2
        go_quiet ((go_at_call 50; with_reducible exact sameNumsP_q h3 hF hF' hB hB' _ _ _))
        go_wp2
        go_ret
        exact ⟨by unfold sameP; simp [h3], bel_drewN _ (by repeat (first | (with_reducible assumption) | (with_reducible exact Below.refl _ _) | ((with_reducible refine bel_alloc _ ?_ ?_); focus (first | omega | (simp; done) | (simp; omega))) | ((with_reducible refine bel_row _ ?_ ?_); focus (first | omega | (simp; done) | (simp; omega))) | ((with_reducible refine bel_cell _ ?_ ?_); focus (first | omega | (simp; done) | (simp; omega))) | (with_reducible refine Below.drew ?_) | (with_reducible refine below_wideW _ ?_) | ((with_reducible refine bel_next (by assumption) ?_ ?_); focus (first | omega | (simp; done) | (simp; omega)))))⟩
    · have hrb : (y == y') = false := by simp [hy]
      go_enter Tryz.func14, Tryz.ntmps14
      go_wp2
      go_quiet (fail)
      go_wp2
      go_ret
      exact ⟨by unfold sameP; simp [hr, hy], bel_drewN _ (by repeat (first | (with_reducible assumption) | (with_reducible exact Below.refl _ _) | ((with_reducible refine bel_alloc _ ?_ ?_); focus (first | omega | (simp; done) | (simp; omega))) | ((with_reducible refine bel_row _ ?_ ?_); focus (first | omega | (simp; done) | (simp; omega))) | ((with_reducible refine bel_cell _ ?_ ?_); focus (first | omega | (simp; done) | (simp; omega))) | (with_reducible refine Below.drew ?_) | (with_reducible refine below_wideW _ ?_) | ((with_reducible refine bel_next (by assumption) ?_ ?_); focus (first | omega | (simp; done) | (simp; omega)))))⟩
  · have hrb : (x == x') = false := by simp [hr]
    go_enter Tryz.func14, Tryz.ntmps14
    go_wp2
    go_quiet (fail)
    go_wp2
    go_ret
    exact ⟨by unfold sameP; simp [hr], bel_drewN _ (by repeat (first | (with_reducible assumption) | (with_reducible exact Below.refl _ _) | ((with_reducible refine bel_alloc _ ?_ ?_); focus (first | omega | (simp; done) | (simp; omega))) | ((with_reducible refine bel_row _ ?_ ?_); focus (first | omega | (simp; done) | (simp; omega))) | ((with_reducible refine bel_cell _ ?_ ?_); focus (first | omega | (simp; done) | (simp; omega))) | (with_reducible refine Below.drew ?_) | (with_reducible refine below_wideW _ ?_) | ((with_reducible refine bel_next (by assumption) ?_ ?_); focus (first | omega | (simp; done) | (simp; omega)))))⟩

theorem specSameP_any (x y : Int) (F : Nat → Nat) (x' y' : Int) (F' : Nat → Nat) (w : World) (hF : ∀ i, i < 64 → F i < 2 ^ 32) (hF' : ∀ i, i < 64 → F' i < 2 ^ 32) : Calls Tryz.prog 15 #[.agg (plate x y F), .agg (plate x' y' F')] w fun e w' => e = .returned (.bool (sameP x y F x' y' F')) ∧ Below w.heap.size w w' := by
  have hB : ((w.alloc (.cells (plate x y F) 29)).alloc (.cells (plate x' y' F') 29)).heap[w.heap.size]? = some (.cells (plate x y F) 29 (0, 0)) := (by repeat (first | (with_reducible assumption) | ((with_reducible refine blk_new _ _ _ ?_); focus (simp; done)) | ((with_reducible refine blk_old _ _ _ ?_ ?_); focus (simp; done)) | ((with_reducible refine blk_old _ _ _ ?_ ?_); focus (first | omega | (simp; omega))) | ((with_reducible apply blk_set); focus (simp; done)) | ((with_reducible refine blk_off _ _ _ _ ?_ ?_); focus (simp; done)) | ((with_reducible refine blk_offc _ _ _ _ ?_ ?_); focus (first | (simp; done) | omega | (simp; omega))) | ((with_reducible refine blk_off _ _ _ _ ?_ ?_); focus (first | omega | (simp; omega))) | (with_reducible refine blk_drew _ _ ?_) | ((with_reducible refine blk_below (by assumption) ?_ ?_); focus (simp; done)) | ((with_reducible refine blk_below (by assumption) ?_ ?_); focus (first | omega | (simp; omega)))))
  have hB' : ((w.alloc (.cells (plate x y F) 29)).alloc (.cells (plate x' y' F') 29)).heap[w.heap.size + 1]? = some (.cells (plate x' y' F') 29 (0, 0)) := (by repeat (first | (with_reducible assumption) | ((with_reducible refine blk_new _ _ _ ?_); focus (simp; done)) | ((with_reducible refine blk_old _ _ _ ?_ ?_); focus (simp; done)) | ((with_reducible refine blk_old _ _ _ ?_ ?_); focus (first | omega | (simp; omega))) | ((with_reducible apply blk_set); focus (simp; done)) | ((with_reducible refine blk_off _ _ _ _ ?_ ?_); focus (simp; done)) | ((with_reducible refine blk_offc _ _ _ _ ?_ ?_); focus (first | (simp; done) | omega | (simp; omega))) | ((with_reducible refine blk_off _ _ _ _ ?_ ?_); focus (first | omega | (simp; omega))) | (with_reducible refine blk_drew _ _ ?_) | ((with_reducible refine blk_below (by assumption) ?_ ?_); focus (simp; done)) | ((with_reducible refine blk_below (by assumption) ?_ ?_); focus (first | omega | (simp; omega)))))
  go_enter Tryz.func15, Tryz.ntmps15
  go_wp2_with (go_at_call 51; (with_reducible refine (specSamePl_any x y F x' y' F' _ hF hF' _ _ hB hB').mono ?_); rintro e w' ⟨rfl, m, rfl⟩)
  go_ret
  exact ⟨rfl, bel_drewN _ (by repeat (first | (with_reducible assumption) | (with_reducible exact Below.refl _ _) | ((with_reducible refine bel_alloc _ ?_ ?_); focus (first | omega | (simp; done) | (simp; omega))) | ((with_reducible refine bel_row _ ?_ ?_); focus (first | omega | (simp; done) | (simp; omega))) | ((with_reducible refine bel_cell _ ?_ ?_); focus (first | omega | (simp; done) | (simp; omega))) | (with_reducible refine Below.drew ?_) | (with_reducible refine below_wideW _ ?_) | ((with_reducible refine bel_next (by assumption) ?_ ?_); focus (first | omega | (simp; done) | (simp; omega)))))⟩

end Go.Proofs.YtekfmjddlemboaaGreatDoor
