/- A plate of which all cells turn: eachDot, freshDots, whatever the function is that is handed to them. -/
import Derived.Test.YtlohgpbhebmefaaPCells
import Derived.Test.YtlohgpbhebmefaaTMap
set_option linter.unusedVariables false
set_option linter.unusedSimpArgs false
namespace Go.Proofs.Ytlohgpbhebmefaa
open Go.RowKit Ieee

theorem own_block {w : World} {base g c a n : Nat} {e : TypeId} (h : w.ownsRow base e 1 (.slice (some ⟨g, 0, none⟩) n c) n (cellsV a n)) : ∃ cur, w.heap[g]? = some (.cells cur e (0, 0)) ∧ ∀ j, j < n → cur[j]? = some (.int .i64 (cellAt a j : Nat)) := by
  obtain ⟨_, h2⟩ := h
  rcases h2 with ⟨h3, _⟩ | ⟨g', cap, cur, hv, _, hh, _, _, _, ht⟩
  · simp at h3
  · simp only [Value.slice.injEq, Option.some.injEq, Addr.mk.injEq, and_true, true_and] at hv
    obtain ⟨rfl, rfl⟩ := hv
    refine ⟨cur, hh, fun j hj => ?_⟩
    have h1 : (cur.toList.take (n * 1))[j]? = (cellsV a n)[j]? := by rw [ht]
    rw [cellsV_at hj, List.getElem?_take, if_pos (by omega)] at h1
    simpa using h1
/-- What a function value gives at each cell; it may draw, and turns nothing. -/
def GivesDots (P : Program) (k : FuncId) (cap : Array Value) (a b : Nat) (F g : Nat → Nat) (w : World) : Prop :=
  ∀ (n : Nat) (W : World), n < a * b → Below w.heap.size w W → Calls P k (#[.int .i64 (cellAt a n : Nat), .float .f32 (F (cellAt a n))] ++ cap) W fun e w' => e = .returned (.float .f32 (g (cellAt a n))) ∧ ∃ m, w' = W.drewN m
theorem blk_drewN {r : Option Obj} (w : World) (i m : Nat) (hr : w.heap[i]? = r) : (w.drewN m).heap[i]? = r := hr
theorem put_map {w : World} {g a b : Nat} {f G : Nat → Nat} {pre : List Value} {t : TypeId} {k o : Nat} (ha : a < 9) (hb : b < 9) (hk : k < a * b) (hl : pre.length = o) (h : w.heap[g]? = some (.cells (row pre 64 (mapC a b f G k)) t (0, 0))) :
    (w.setCell ⟨g, o + cellAt a k, none⟩ (.float .f32 (f (cellAt a k)))).heap[g]? = some (.cells (row pre 64 (mapC a b f G (k + 1))) t (0, 0)) := by
  subst hl
  have h64 := (cells_all a ha b hb).2
  rw [put_row (cells_of a ha b hb k (by omega) hk).1 h, mapC_step ha hb f G hk]

set_option maxRecDepth 100000 in
set_option maxHeartbeats 1600000 in
theorem eachDot_any (fk : FuncId) (cap : Array Value) (eg : ∀ args w, (callFunc fk args).run Try.prog w = .ok (.enter fk args) w) (a b : Nat) (ha1 : 1 ≤ a) (ha : a < 9) (hb1 : 1 ≤ b) (hb : b < 9) (F g : Nat → Nat) (w : World) (hg : GivesDots Try.prog fk cap a b F g w) :
    Calls Try.prog 67 #[.agg (plate a b F), .func (.func fk) #[] cap] w fun e w' => e = .returned (.agg (plate a b (mapA a b g F))) ∧ Below w.heap.size w w' := by
  have hz : Try.zeroCells42 = row [.int .i8 0, .int .i8 0] 64 (fun _ => 0) := rfl
  have HG := Lib.hid hg
  clear hg
  obtain ⟨n, hnn, hn⟩ : ∃ n, a * b = n ∧ n ≤ 64 := ⟨_, rfl, (cells_all a ha b hb).2⟩
  have HNN := Lib.hid hnn
  clear hnn
  go_enter Try.func67, Try.ntmps67
  go_wp2_with (first | ((with_reducible refine at_load 42 ?_); refine wpList_load_part rfl 42 _ rfl _ 0 66 rfl _ _ _ _ (by repeat (first | (with_reducible assumption) | ((with_reducible refine blk_new _ _ _ ?_); focus (simp; done)) | ((with_reducible refine blk_old _ _ _ ?_ ?_); focus (simp; done)) | ((with_reducible refine blk_old _ _ _ ?_ ?_); focus (first | omega | (simp; omega))) | ((with_reducible apply blk_set); focus (simp; done)) | ((with_reducible refine blk_off _ _ _ _ ?_ ?_); focus (simp; done)) | ((with_reducible refine blk_offc _ _ _ _ ?_ ?_); focus (first | (simp; done) | omega | (simp; omega))) | ((with_reducible refine blk_off _ _ _ _ ?_ ?_); focus (first | omega | (simp; omega))) | (with_reducible refine blk_drew _ _ ?_) | ((with_reducible refine blk_below (by assumption) ?_ ?_); focus (simp; done)) | ((with_reducible refine blk_below (by assumption) ?_ ?_); focus (first | omega | (simp; omega))))) Try.underlying42 rfl (by kernel_rfl) (by simp [row_size]) _ (row_all [_, _] 64 _) ?_) | ((with_reducible refine at_store 42 ?_); refine wpList_store_part rfl 42 _ _ rfl _ 0 _ rfl rfl _ _ (by repeat (first | (with_reducible assumption) | ((with_reducible refine blk_new _ _ _ ?_); focus (simp; done)) | ((with_reducible refine blk_old _ _ _ ?_ ?_); focus (simp; done)) | ((with_reducible refine blk_old _ _ _ ?_ ?_); focus (first | omega | (simp; omega))) | ((with_reducible apply blk_set); focus (simp; done)) | ((with_reducible refine blk_off _ _ _ _ ?_ ?_); focus (simp; done)) | ((with_reducible refine blk_offc _ _ _ _ ?_ ?_); focus (first | (simp; done) | omega | (simp; omega))) | ((with_reducible refine blk_off _ _ _ _ ?_ ?_); focus (first | omega | (simp; omega))) | (with_reducible refine blk_drew _ _ ?_) | ((with_reducible refine blk_below (by assumption) ?_ ?_); focus (simp; done)) | ((with_reducible refine blk_below (by assumption) ?_ ?_); focus (first | omega | (simp; omega))))) (by rw [row_size]; kernel_rfl) (by simp [row_size]) (row_cells _ _ _ rfl) _ (row_over _ _ 64 _ _ (by simp)) ?_))
  go_at_call 85
  refine (cells_n a b n HNN.out ha1 ha hb1 hb _ w.heap.size (by first | (simp; done) | (simp; omega) | omega) ((cell_of_row _ _ 0 (plate a b F) 42 (0, 0) (by repeat (first | (with_reducible assumption) | ((with_reducible refine blk_new _ _ _ ?_); focus (simp; done)) | ((with_reducible refine blk_old _ _ _ ?_ ?_); focus (simp; done)) | ((with_reducible refine blk_old _ _ _ ?_ ?_); focus (first | omega | (simp; omega))) | ((with_reducible apply blk_set); focus (simp; done)) | ((with_reducible refine blk_off _ _ _ _ ?_ ?_); focus (simp; done)) | ((with_reducible refine blk_offc _ _ _ _ ?_ ?_); focus (first | (simp; done) | omega | (simp; omega))) | ((with_reducible refine blk_off _ _ _ _ ?_ ?_); focus (first | omega | (simp; omega))) | (with_reducible refine blk_drew _ _ ?_) | ((with_reducible refine blk_below (by assumption) ?_ ?_); focus (simp; done)) | ((with_reducible refine blk_below (by assumption) ?_ ?_); focus (first | omega | (simp; omega)))))).trans (row_g0 _ _ _ _)) ((cell_of_row _ _ 1 (plate a b F) 42 (0, 0) (by repeat (first | (with_reducible assumption) | ((with_reducible refine blk_new _ _ _ ?_); focus (simp; done)) | ((with_reducible refine blk_old _ _ _ ?_ ?_); focus (simp; done)) | ((with_reducible refine blk_old _ _ _ ?_ ?_); focus (first | omega | (simp; omega))) | ((with_reducible apply blk_set); focus (simp; done)) | ((with_reducible refine blk_off _ _ _ _ ?_ ?_); focus (simp; done)) | ((with_reducible refine blk_offc _ _ _ _ ?_ ?_); focus (first | (simp; done) | omega | (simp; omega))) | ((with_reducible refine blk_off _ _ _ _ ?_ ?_); focus (first | omega | (simp; omega))) | (with_reducible refine blk_drew _ _ ?_) | ((with_reducible refine blk_below (by assumption) ?_ ?_); focus (simp; done)) | ((with_reducible refine blk_below (by assumption) ?_ ?_); focus (first | omega | (simp; omega)))))).trans (row_g1 _ _ _ _ _))).mono ?_
  rintro e w1 ⟨g0, c, rfl, hown, hbc⟩
  obtain ⟨hg0, hg1⟩ : w.heap.size + 3 ≤ g0 ∧ g0 < w1.heap.size := by
    have := hown.lt g0 rfl
    simp at this
    omega
  have hz1 := hbc.size
  simp at hz1
  obtain ⟨cur, hcur, hat⟩ := own_block hown
  have k1 : w1.heap[w.heap.size]? = some (.cells (plate a b F) 42 (0, 0)) := blk_below hbc (by first | (simp; done) | (simp; omega) | omega) (by repeat (first | (with_reducible assumption) | ((with_reducible refine blk_new _ _ _ ?_); focus (simp; done)) | ((with_reducible refine blk_old _ _ _ ?_ ?_); focus (simp; done)) | ((with_reducible refine blk_old _ _ _ ?_ ?_); focus (first | omega | (simp; omega))) | ((with_reducible apply blk_set); focus (simp; done)) | ((with_reducible refine blk_off _ _ _ _ ?_ ?_); focus (simp; done)) | ((with_reducible refine blk_offc _ _ _ _ ?_ ?_); focus (first | (simp; done) | omega | (simp; omega))) | ((with_reducible refine blk_off _ _ _ _ ?_ ?_); focus (first | omega | (simp; omega))) | (with_reducible refine blk_drew _ _ ?_) | ((with_reducible refine blk_below (by assumption) ?_ ?_); focus (simp; done)) | ((with_reducible refine blk_below (by assumption) ?_ ?_); focus (first | omega | (simp; omega)))))
  have k2 : w1.heap[w.heap.size + 1]? = some (.cells (plate 0 0 (fun _ => 0)) 42 (0, 0)) := blk_below hbc (by first | (simp; done) | (simp; omega) | omega) (by repeat (first | (with_reducible assumption) | ((with_reducible refine blk_new _ _ _ ?_); focus (simp; done)) | ((with_reducible refine blk_old _ _ _ ?_ ?_); focus (simp; done)) | ((with_reducible refine blk_old _ _ _ ?_ ?_); focus (first | omega | (simp; omega))) | ((with_reducible apply blk_set); focus (simp; done)) | ((with_reducible refine blk_off _ _ _ _ ?_ ?_); focus (simp; done)) | ((with_reducible refine blk_offc _ _ _ _ ?_ ?_); focus (first | (simp; done) | omega | (simp; omega))) | ((with_reducible refine blk_off _ _ _ _ ?_ ?_); focus (first | omega | (simp; omega))) | (with_reducible refine blk_drew _ _ ?_) | ((with_reducible refine blk_below (by assumption) ?_ ?_); focus (simp; done)) | ((with_reducible refine blk_below (by assumption) ?_ ?_); focus (first | omega | (simp; omega)))))
  have k3 : w1.heap[w.heap.size + 2]? = some (.cells (plate a b F) 42 (0, 0)) := blk_below hbc (by first | (simp; done) | (simp; omega) | omega) (by repeat (first | (with_reducible assumption) | ((with_reducible refine blk_new _ _ _ ?_); focus (simp; done)) | ((with_reducible refine blk_old _ _ _ ?_ ?_); focus (simp; done)) | ((with_reducible refine blk_old _ _ _ ?_ ?_); focus (first | omega | (simp; omega))) | ((with_reducible apply blk_set); focus (simp; done)) | ((with_reducible refine blk_off _ _ _ _ ?_ ?_); focus (simp; done)) | ((with_reducible refine blk_offc _ _ _ _ ?_ ?_); focus (first | (simp; done) | omega | (simp; omega))) | ((with_reducible refine blk_off _ _ _ _ ?_ ?_); focus (first | omega | (simp; omega))) | (with_reducible refine blk_drew _ _ ?_) | ((with_reducible refine blk_below (by assumption) ?_ ?_); focus (simp; done)) | ((with_reducible refine blk_below (by assumption) ?_ ?_); focus (first | omega | (simp; omega)))))
  have k4 : Below w.heap.size w w1 := bel_next hbc (by first | (simp; done) | (simp; omega) | omega) (by repeat (first | (with_reducible assumption) | (with_reducible exact Below.refl _ _) | ((with_reducible refine bel_alloc _ ?_ ?_); focus (first | omega | (simp; done) | (simp; omega))) | ((with_reducible refine bel_row _ ?_ ?_); focus (first | omega | (simp; done) | (simp; omega))) | ((with_reducible refine bel_cell _ ?_ ?_); focus (first | omega | (simp; done) | (simp; omega))) | (with_reducible refine Below.drew ?_) | (with_reducible refine below_wideW _ ?_) | ((with_reducible refine bel_next (by assumption) ?_ ?_); focus (first | omega | (simp; done) | (simp; omega)))))
  have HA := Lib.hid hat
  have K1 := Lib.hid k1
  have K2 := Lib.hid k2
  have K3 := Lib.hid k3
  have K4 := Lib.hid k4
  have KC := Lib.hid hcur
  clear hown hbc hcur hat k1 k2 k3 k4 hz1
  go_wp2
  go_loopw [11] (fun i wr => ∃ k : Nat, k ≤ n ∧ i = .int .i64 k ∧ wr.heap[w.heap.size]? = some (.cells (plate a b F) 42 (0, 0)) ∧ wr.heap[w.heap.size + 1]? = some (.cells (plate 0 0 (fun _ => 0)) 42 (0, 0)) ∧ wr.heap[w.heap.size + 2]? = some (.cells (plate a b (mapC a b g F k)) 42 (0, 0)) ∧ wr.heap[g0]? = some (.cells cur 2 (0, 0)) ∧ Below w.heap.size w wr) (fun i _ => 65 - (intOf i).toNat)
  case atStart => exact ⟨0, by omega, rfl, K1.out, K2.out, by rw [mapC_0]; exact K3.out, KC.out, K4.out⟩
  case round =>
    obtain ⟨k, hk, rfl, h1, h2, h3, h4, h5⟩ := hrel
    clear K1 K2 K3 K4 KC
    by_cases hlt : k < n
    · have hlt' : k < a * b := by have := HNN.out; omega
      obtain ⟨q1, q2, q3⟩ := cells_of a ha b hb k (by omega) hlt'
      have cl : wr.cell? ⟨g0, k, none⟩ = some (.int .i64 (cellAt a k : Nat)) := (cell_of_row wr g0 k cur 2 (0, 0) h4).trans (HA.out k hlt)
      have cf : wr.cell? ⟨w.heap.size, 2 + cellAt a k, none⟩ = some (.float .f32 (F (cellAt a k))) := (cell_of_row wr _ (2 + cellAt a k) _ _ _ h1).trans (row_k2 _ _ _ _ q1)
      have co : wr.cell? ⟨w.heap.size + 2, 2 + cellAt a k, none⟩ = some (.float .f32 (mapC a b g F k (cellAt a k))) := (cell_of_row wr _ (2 + cellAt a k) _ _ _ h3).trans (row_k2 _ _ _ _ q1)
      have ff : wr.frozen? ⟨w.heap.size + 2, 2 + cellAt a k, none⟩ = false := frozen_of_row wr _ _ _ _ h3
      have H1 := Lib.hid h1
      have H2 := Lib.hid h2
      have H3 := Lib.hid h3
      have H4 := Lib.hid h4
      have H5 := Lib.hid h5
      have HL := Lib.hid hlt'
      obtain ⟨q, hq⟩ : ∃ q, q = cellAt a k := ⟨_, rfl⟩
      rw [← hq] at cl cf ff q1 co
      have HQ := Lib.hid hq
      have hgv : Calls Try.prog fk (#[.int .i64 q, .float .f32 (F q)] ++ cap) wr fun e w' => e = .returned (.float .f32 (g q)) ∧ ∃ m, w' = wr.drewN m := by
        have := HG.out k wr hlt' h5
        rwa [← hq] at this
      have HV := Lib.hid hgv
      clear h1 h2 h3 h4 h5 q2 q3 hlt' hq hgv
      have z0 : (0 : Int) ≤ q := by omega
      have z1 : (q : Int) < 64 := by omega
      have i0 : (0 : Int) ≤ k := by omega
      have i1 : (k : Int) < n := by omega
      have i2 : (n : Int) ≤ 64 := by omega
      go_wp2_with ((with_reducible refine HV.out.mono ?_); rintro e w' ⟨rfl, m, rfl⟩)
      go_roundw
      case rel => exact ⟨k + 1, by omega, by go_num, put_off (by omega) (blk_drewN _ _ _ H1.out), put_off (by omega) (blk_drewN _ _ _ H2.out), by rw [HQ.out]; exact put_map ha hb HL.out rfl (blk_drewN _ _ _ H3.out), put_off (by omega) (blk_drewN _ _ _ H4.out), bel_cell _ (by simp; omega) (bel_drewN _ H5.out)⟩
      case measure => simp [intOf]; omega
    · have hkn : k = n := by omega
      have h3' : wr.heap[w.heap.size + 2]? = some (.cells (plate a b (mapA a b g F)) 42 (0, 0)) := by
        rw [h3, hkn, ← HNN.out, show plate a b (mapC a b g F (a * b)) = plate a b (mapA a b g F) from mapC_end ha hb _ _ _]
      have hz5 := h5.size
      have H5 := Lib.hid h5
      clear h3 hkn h5 h4
      have hz6 : w.heap.size + 2 < wr.heap.size := by
        cases hlt : decide (w.heap.size + 2 < wr.heap.size)
        · simp only [decide_eq_false_iff_not] at hlt
          rw [Array.getElem?_eq_none (by omega)] at h3'
          cases h3'
        · simpa using hlt
      go_wp2_with (first | ((with_reducible refine at_load 42 ?_); refine wpList_load_part rfl 42 _ rfl _ 0 66 rfl _ _ _ _ (by repeat (first | (with_reducible assumption) | ((with_reducible refine blk_new _ _ _ ?_); focus (simp; done)) | ((with_reducible refine blk_old _ _ _ ?_ ?_); focus (simp; done)) | ((with_reducible refine blk_old _ _ _ ?_ ?_); focus (first | omega | (simp; omega))) | ((with_reducible apply blk_set); focus (simp; done)) | ((with_reducible refine blk_off _ _ _ _ ?_ ?_); focus (simp; done)) | ((with_reducible refine blk_offc _ _ _ _ ?_ ?_); focus (first | (simp; done) | omega | (simp; omega))) | ((with_reducible refine blk_off _ _ _ _ ?_ ?_); focus (first | omega | (simp; omega))) | (with_reducible refine blk_drew _ _ ?_) | ((with_reducible refine blk_below (by assumption) ?_ ?_); focus (simp; done)) | ((with_reducible refine blk_below (by assumption) ?_ ?_); focus (first | omega | (simp; omega))))) Try.underlying42 rfl (by kernel_rfl) (by simp [row_size]) _ (row_all [_, _] 64 _) ?_) | ((with_reducible refine at_store 42 ?_); refine wpList_store_part rfl 42 _ _ rfl _ 0 _ rfl rfl _ _ (by repeat (first | (with_reducible assumption) | ((with_reducible refine blk_new _ _ _ ?_); focus (simp; done)) | ((with_reducible refine blk_old _ _ _ ?_ ?_); focus (simp; done)) | ((with_reducible refine blk_old _ _ _ ?_ ?_); focus (first | omega | (simp; omega))) | ((with_reducible apply blk_set); focus (simp; done)) | ((with_reducible refine blk_off _ _ _ _ ?_ ?_); focus (simp; done)) | ((with_reducible refine blk_offc _ _ _ _ ?_ ?_); focus (first | (simp; done) | omega | (simp; omega))) | ((with_reducible refine blk_off _ _ _ _ ?_ ?_); focus (first | omega | (simp; omega))) | (with_reducible refine blk_drew _ _ ?_) | ((with_reducible refine blk_below (by assumption) ?_ ?_); focus (simp; done)) | ((with_reducible refine blk_below (by assumption) ?_ ?_); focus (first | omega | (simp; omega))))) (by rw [row_size]; kernel_rfl) (by simp [row_size]) (row_cells _ _ _ rfl) _ (row_over _ _ 64 _ _ (by simp)) ?_))
      have h5 := H5.out
      refine bodyPost_ret (v := .agg (plate a b (mapA a b g F))) ?_ ?_ ?_
      · refine results_cell_row Try.results67 _ _ _ 42 (plate a b (mapA a b g F)) (0, 0) _ rfl ?_ Try.underlying42 rfl (by simp only [row_size]; kernel_rfl)
        exact (by repeat (first | (with_reducible assumption) | ((with_reducible refine blk_new _ _ _ ?_); focus (simp; done)) | ((with_reducible refine blk_old _ _ _ ?_ ?_); focus (simp; done)) | ((with_reducible refine blk_old _ _ _ ?_ ?_); focus (first | omega | (simp; omega))) | ((with_reducible apply blk_set); focus (simp; done)) | ((with_reducible refine blk_off _ _ _ _ ?_ ?_); focus (simp; done)) | ((with_reducible refine blk_offc _ _ _ _ ?_ ?_); focus (first | (simp; done) | omega | (simp; omega))) | ((with_reducible refine blk_off _ _ _ _ ?_ ?_); focus (first | omega | (simp; omega))) | (with_reducible refine blk_drew _ _ ?_) | ((with_reducible refine blk_below (by assumption) ?_ ?_); focus (simp; done)) | ((with_reducible refine blk_below (by assumption) ?_ ?_); focus (first | omega | (simp; omega)))))
      · rfl
      · exact ⟨rfl, (by repeat (first | (with_reducible assumption) | (with_reducible exact Below.refl _ _) | ((with_reducible refine bel_alloc _ ?_ ?_); focus (first | omega | (simp; done) | (simp; omega))) | ((with_reducible refine bel_row _ ?_ ?_); focus (first | omega | (simp; done) | (simp; omega))) | ((with_reducible refine bel_cell _ ?_ ?_); focus (first | omega | (simp; done) | (simp; omega))) | (with_reducible refine Below.drew ?_) | (with_reducible refine below_wideW _ ?_) | ((with_reducible refine bel_next (by assumption) ?_ ?_); focus (first | omega | (simp; done) | (simp; omega)))))⟩

set_option maxRecDepth 100000 in
set_option maxHeartbeats 1600000 in
theorem freshDots_any (fk : FuncId) (cap : Array Value) (eg : ∀ args w, (callFunc fk args).run Try.prog w = .ok (.enter fk args) w) (a b : Nat) (ha1 : 1 ≤ a) (ha : a < 9) (hb1 : 1 ≤ b) (hb : b < 9) (F g : Nat → Nat) (w : World) (hg : GivesDots Try.prog fk cap a b F g w) :
    Calls Try.prog 58 #[.agg (plate a b F), .func (.func fk) #[] cap] w fun e w' => e = .returned (.agg (plate a b (mapA a b g (fun _ => 0)))) ∧ Below w.heap.size w w' := by
  have hz : Try.zeroCells42 = row [.int .i8 0, .int .i8 0] 64 (fun _ => 0) := rfl
  have HG := Lib.hid hg
  clear hg
  obtain ⟨n, hnn, hn⟩ : ∃ n, a * b = n ∧ n ≤ 64 := ⟨_, rfl, (cells_all a ha b hb).2⟩
  have HNN := Lib.hid hnn
  clear hnn
  go_enter Try.func58, Try.ntmps58
  go_wp2_with (first | ((with_reducible refine at_load 42 ?_); refine wpList_load_part rfl 42 _ rfl _ 0 66 rfl _ _ _ _ (by repeat (first | (with_reducible assumption) | ((with_reducible refine blk_new _ _ _ ?_); focus (simp; done)) | ((with_reducible refine blk_old _ _ _ ?_ ?_); focus (simp; done)) | ((with_reducible refine blk_old _ _ _ ?_ ?_); focus (first | omega | (simp; omega))) | ((with_reducible apply blk_set); focus (simp; done)) | ((with_reducible refine blk_off _ _ _ _ ?_ ?_); focus (simp; done)) | ((with_reducible refine blk_offc _ _ _ _ ?_ ?_); focus (first | (simp; done) | omega | (simp; omega))) | ((with_reducible refine blk_off _ _ _ _ ?_ ?_); focus (first | omega | (simp; omega))) | (with_reducible refine blk_drew _ _ ?_) | ((with_reducible refine blk_below (by assumption) ?_ ?_); focus (simp; done)) | ((with_reducible refine blk_below (by assumption) ?_ ?_); focus (first | omega | (simp; omega))))) Try.underlying42 rfl (by kernel_rfl) (by simp [row_size]) _ (row_all [_, _] 64 _) ?_) | ((with_reducible refine at_store 42 ?_); refine wpList_store_part rfl 42 _ _ rfl _ 0 _ rfl rfl _ _ (by repeat (first | (with_reducible assumption) | ((with_reducible refine blk_new _ _ _ ?_); focus (simp; done)) | ((with_reducible refine blk_old _ _ _ ?_ ?_); focus (simp; done)) | ((with_reducible refine blk_old _ _ _ ?_ ?_); focus (first | omega | (simp; omega))) | ((with_reducible apply blk_set); focus (simp; done)) | ((with_reducible refine blk_off _ _ _ _ ?_ ?_); focus (simp; done)) | ((with_reducible refine blk_offc _ _ _ _ ?_ ?_); focus (first | (simp; done) | omega | (simp; omega))) | ((with_reducible refine blk_off _ _ _ _ ?_ ?_); focus (first | omega | (simp; omega))) | (with_reducible refine blk_drew _ _ ?_) | ((with_reducible refine blk_below (by assumption) ?_ ?_); focus (simp; done)) | ((with_reducible refine blk_below (by assumption) ?_ ?_); focus (first | omega | (simp; omega))))) (by rw [row_size]; kernel_rfl) (by simp [row_size]) (row_cells _ _ _ rfl) _ (row_over _ _ 64 _ _ (by simp)) ?_))
  go_at_call 85
  refine (cells_n a b n HNN.out ha1 ha hb1 hb _ w.heap.size (by first | (simp; done) | (simp; omega) | omega) ((cell_of_row _ _ 0 (plate a b F) 42 (0, 0) (by repeat (first | (with_reducible assumption) | ((with_reducible refine blk_new _ _ _ ?_); focus (simp; done)) | ((with_reducible refine blk_old _ _ _ ?_ ?_); focus (simp; done)) | ((with_reducible refine blk_old _ _ _ ?_ ?_); focus (first | omega | (simp; omega))) | ((with_reducible apply blk_set); focus (simp; done)) | ((with_reducible refine blk_off _ _ _ _ ?_ ?_); focus (simp; done)) | ((with_reducible refine blk_offc _ _ _ _ ?_ ?_); focus (first | (simp; done) | omega | (simp; omega))) | ((with_reducible refine blk_off _ _ _ _ ?_ ?_); focus (first | omega | (simp; omega))) | (with_reducible refine blk_drew _ _ ?_) | ((with_reducible refine blk_below (by assumption) ?_ ?_); focus (simp; done)) | ((with_reducible refine blk_below (by assumption) ?_ ?_); focus (first | omega | (simp; omega)))))).trans (row_g0 _ _ _ _)) ((cell_of_row _ _ 1 (plate a b F) 42 (0, 0) (by repeat (first | (with_reducible assumption) | ((with_reducible refine blk_new _ _ _ ?_); focus (simp; done)) | ((with_reducible refine blk_old _ _ _ ?_ ?_); focus (simp; done)) | ((with_reducible refine blk_old _ _ _ ?_ ?_); focus (first | omega | (simp; omega))) | ((with_reducible apply blk_set); focus (simp; done)) | ((with_reducible refine blk_off _ _ _ _ ?_ ?_); focus (simp; done)) | ((with_reducible refine blk_offc _ _ _ _ ?_ ?_); focus (first | (simp; done) | omega | (simp; omega))) | ((with_reducible refine blk_off _ _ _ _ ?_ ?_); focus (first | omega | (simp; omega))) | (with_reducible refine blk_drew _ _ ?_) | ((with_reducible refine blk_below (by assumption) ?_ ?_); focus (simp; done)) | ((with_reducible refine blk_below (by assumption) ?_ ?_); focus (first | omega | (simp; omega)))))).trans (row_g1 _ _ _ _ _))).mono ?_
  rintro e w1 ⟨g0, c, rfl, hown, hbc⟩
  obtain ⟨hg0, hg1⟩ : w.heap.size + 3 ≤ g0 ∧ g0 < w1.heap.size := by
    have := hown.lt g0 rfl
    simp at this
    omega
  have hz1 := hbc.size
  simp at hz1
  obtain ⟨cur, hcur, hat⟩ := own_block hown
  have k1 : w1.heap[w.heap.size]? = some (.cells (plate a b F) 42 (0, 0)) := blk_below hbc (by first | (simp; done) | (simp; omega) | omega) (by repeat (first | (with_reducible assumption) | ((with_reducible refine blk_new _ _ _ ?_); focus (simp; done)) | ((with_reducible refine blk_old _ _ _ ?_ ?_); focus (simp; done)) | ((with_reducible refine blk_old _ _ _ ?_ ?_); focus (first | omega | (simp; omega))) | ((with_reducible apply blk_set); focus (simp; done)) | ((with_reducible refine blk_off _ _ _ _ ?_ ?_); focus (simp; done)) | ((with_reducible refine blk_offc _ _ _ _ ?_ ?_); focus (first | (simp; done) | omega | (simp; omega))) | ((with_reducible refine blk_off _ _ _ _ ?_ ?_); focus (first | omega | (simp; omega))) | (with_reducible refine blk_drew _ _ ?_) | ((with_reducible refine blk_below (by assumption) ?_ ?_); focus (simp; done)) | ((with_reducible refine blk_below (by assumption) ?_ ?_); focus (first | omega | (simp; omega)))))
  have k2 : w1.heap[w.heap.size + 1]? = some (.cells (plate 0 0 (fun _ => 0)) 42 (0, 0)) := blk_below hbc (by first | (simp; done) | (simp; omega) | omega) (by repeat (first | (with_reducible assumption) | ((with_reducible refine blk_new _ _ _ ?_); focus (simp; done)) | ((with_reducible refine blk_old _ _ _ ?_ ?_); focus (simp; done)) | ((with_reducible refine blk_old _ _ _ ?_ ?_); focus (first | omega | (simp; omega))) | ((with_reducible apply blk_set); focus (simp; done)) | ((with_reducible refine blk_off _ _ _ _ ?_ ?_); focus (simp; done)) | ((with_reducible refine blk_offc _ _ _ _ ?_ ?_); focus (first | (simp; done) | omega | (simp; omega))) | ((with_reducible refine blk_off _ _ _ _ ?_ ?_); focus (first | omega | (simp; omega))) | (with_reducible refine blk_drew _ _ ?_) | ((with_reducible refine blk_below (by assumption) ?_ ?_); focus (simp; done)) | ((with_reducible refine blk_below (by assumption) ?_ ?_); focus (first | omega | (simp; omega)))))
  have k3 : w1.heap[w.heap.size + 2]? = some (.cells (plate a b (fun _ => 0)) 42 (0, 0)) := blk_below hbc (by first | (simp; done) | (simp; omega) | omega) (by repeat (first | (with_reducible assumption) | ((with_reducible refine blk_new _ _ _ ?_); focus (simp; done)) | ((with_reducible refine blk_old _ _ _ ?_ ?_); focus (simp; done)) | ((with_reducible refine blk_old _ _ _ ?_ ?_); focus (first | omega | (simp; omega))) | ((with_reducible apply blk_set); focus (simp; done)) | ((with_reducible refine blk_off _ _ _ _ ?_ ?_); focus (simp; done)) | ((with_reducible refine blk_offc _ _ _ _ ?_ ?_); focus (first | (simp; done) | omega | (simp; omega))) | ((with_reducible refine blk_off _ _ _ _ ?_ ?_); focus (first | omega | (simp; omega))) | (with_reducible refine blk_drew _ _ ?_) | ((with_reducible refine blk_below (by assumption) ?_ ?_); focus (simp; done)) | ((with_reducible refine blk_below (by assumption) ?_ ?_); focus (first | omega | (simp; omega)))))
  have k4 : Below w.heap.size w w1 := bel_next hbc (by first | (simp; done) | (simp; omega) | omega) (by repeat (first | (with_reducible assumption) | (with_reducible exact Below.refl _ _) | ((with_reducible refine bel_alloc _ ?_ ?_); focus (first | omega | (simp; done) | (simp; omega))) | ((with_reducible refine bel_row _ ?_ ?_); focus (first | omega | (simp; done) | (simp; omega))) | ((with_reducible refine bel_cell _ ?_ ?_); focus (first | omega | (simp; done) | (simp; omega))) | (with_reducible refine Below.drew ?_) | (with_reducible refine below_wideW _ ?_) | ((with_reducible refine bel_next (by assumption) ?_ ?_); focus (first | omega | (simp; done) | (simp; omega)))))
  have HA := Lib.hid hat
  have K1 := Lib.hid k1
  have K2 := Lib.hid k2
  have K3 := Lib.hid k3
  have K4 := Lib.hid k4
  have KC := Lib.hid hcur
  clear hown hbc hcur hat k1 k2 k3 k4 hz1
  go_wp2
  go_loopw [15] (fun i wr => ∃ k : Nat, k ≤ n ∧ i = .int .i64 k ∧ wr.heap[w.heap.size]? = some (.cells (plate a b F) 42 (0, 0)) ∧ wr.heap[w.heap.size + 1]? = some (.cells (plate 0 0 (fun _ => 0)) 42 (0, 0)) ∧ wr.heap[w.heap.size + 2]? = some (.cells (plate a b (mapC a b g (fun _ => 0) k)) 42 (0, 0)) ∧ wr.heap[g0]? = some (.cells cur 2 (0, 0)) ∧ Below w.heap.size w wr) (fun i _ => 65 - (intOf i).toNat)
  case atStart => exact ⟨0, by omega, rfl, K1.out, K2.out, by rw [mapC_0]; exact K3.out, KC.out, K4.out⟩
  case round =>
    obtain ⟨k, hk, rfl, h1, h2, h3, h4, h5⟩ := hrel
    clear K1 K2 K3 K4 KC
    by_cases hlt : k < n
    · have hlt' : k < a * b := by have := HNN.out; omega
      obtain ⟨q1, q2, q3⟩ := cells_of a ha b hb k (by omega) hlt'
      have cl : wr.cell? ⟨g0, k, none⟩ = some (.int .i64 (cellAt a k : Nat)) := (cell_of_row wr g0 k cur 2 (0, 0) h4).trans (HA.out k hlt)
      have cf : wr.cell? ⟨w.heap.size, 2 + cellAt a k, none⟩ = some (.float .f32 (F (cellAt a k))) := (cell_of_row wr _ (2 + cellAt a k) _ _ _ h1).trans (row_k2 _ _ _ _ q1)
      have co : wr.cell? ⟨w.heap.size + 2, 2 + cellAt a k, none⟩ = some (.float .f32 (mapC a b g (fun _ => 0) k (cellAt a k))) := (cell_of_row wr _ (2 + cellAt a k) _ _ _ h3).trans (row_k2 _ _ _ _ q1)
      have ff : wr.frozen? ⟨w.heap.size + 2, 2 + cellAt a k, none⟩ = false := frozen_of_row wr _ _ _ _ h3
      have H1 := Lib.hid h1
      have H2 := Lib.hid h2
      have H3 := Lib.hid h3
      have H4 := Lib.hid h4
      have H5 := Lib.hid h5
      have HL := Lib.hid hlt'
      obtain ⟨q, hq⟩ : ∃ q, q = cellAt a k := ⟨_, rfl⟩
      rw [← hq] at cl cf ff q1 co
      have HQ := Lib.hid hq
      have hgv : Calls Try.prog fk (#[.int .i64 q, .float .f32 (F q)] ++ cap) wr fun e w' => e = .returned (.float .f32 (g q)) ∧ ∃ m, w' = wr.drewN m := by
        have := HG.out k wr hlt' h5
        rwa [← hq] at this
      have HV := Lib.hid hgv
      clear h1 h2 h3 h4 h5 q2 q3 hlt' hq hgv
      have z0 : (0 : Int) ≤ q := by omega
      have z1 : (q : Int) < 64 := by omega
      have i0 : (0 : Int) ≤ k := by omega
      have i1 : (k : Int) < n := by omega
      have i2 : (n : Int) ≤ 64 := by omega
      go_wp2_with ((with_reducible refine HV.out.mono ?_); rintro e w' ⟨rfl, m, rfl⟩)
      go_roundw
      case rel => exact ⟨k + 1, by omega, by go_num, put_off (by omega) (blk_drewN _ _ _ H1.out), put_off (by omega) (blk_drewN _ _ _ H2.out), by rw [HQ.out]; exact put_map ha hb HL.out rfl (blk_drewN _ _ _ H3.out), put_off (by omega) (blk_drewN _ _ _ H4.out), bel_cell _ (by simp; omega) (bel_drewN _ H5.out)⟩
      case measure => simp [intOf]; omega
    · have hkn : k = n := by omega
      have h3' : wr.heap[w.heap.size + 2]? = some (.cells (plate a b (mapA a b g (fun _ => 0))) 42 (0, 0)) := by
        rw [h3, hkn, ← HNN.out, show plate a b (mapC a b g (fun _ => 0) (a * b)) = plate a b (mapA a b g (fun _ => 0)) from mapC_end ha hb _ _ _]
      have hz5 := h5.size
      have H5 := Lib.hid h5
      clear h3 hkn h5 h4
      have hz6 : w.heap.size + 2 < wr.heap.size := by
        cases hlt : decide (w.heap.size + 2 < wr.heap.size)
        · simp only [decide_eq_false_iff_not] at hlt
          rw [Array.getElem?_eq_none (by omega)] at h3'
          cases h3'
        · simpa using hlt
      go_wp2_with (first | ((with_reducible refine at_load 42 ?_); refine wpList_load_part rfl 42 _ rfl _ 0 66 rfl _ _ _ _ (by repeat (first | (with_reducible assumption) | ((with_reducible refine blk_new _ _ _ ?_); focus (simp; done)) | ((with_reducible refine blk_old _ _ _ ?_ ?_); focus (simp; done)) | ((with_reducible refine blk_old _ _ _ ?_ ?_); focus (first | omega | (simp; omega))) | ((with_reducible apply blk_set); focus (simp; done)) | ((with_reducible refine blk_off _ _ _ _ ?_ ?_); focus (simp; done)) | ((with_reducible refine blk_offc _ _ _ _ ?_ ?_); focus (first | (simp; done) | omega | (simp; omega))) | ((with_reducible refine blk_off _ _ _ _ ?_ ?_); focus (first | omega | (simp; omega))) | (with_reducible refine blk_drew _ _ ?_) | ((with_reducible refine blk_below (by assumption) ?_ ?_); focus (simp; done)) | ((with_reducible refine blk_below (by assumption) ?_ ?_); focus (first | omega | (simp; omega))))) Try.underlying42 rfl (by kernel_rfl) (by simp [row_size]) _ (row_all [_, _] 64 _) ?_) | ((with_reducible refine at_store 42 ?_); refine wpList_store_part rfl 42 _ _ rfl _ 0 _ rfl rfl _ _ (by repeat (first | (with_reducible assumption) | ((with_reducible refine blk_new _ _ _ ?_); focus (simp; done)) | ((with_reducible refine blk_old _ _ _ ?_ ?_); focus (simp; done)) | ((with_reducible refine blk_old _ _ _ ?_ ?_); focus (first | omega | (simp; omega))) | ((with_reducible apply blk_set); focus (simp; done)) | ((with_reducible refine blk_off _ _ _ _ ?_ ?_); focus (simp; done)) | ((with_reducible refine blk_offc _ _ _ _ ?_ ?_); focus (first | (simp; done) | omega | (simp; omega))) | ((with_reducible refine blk_off _ _ _ _ ?_ ?_); focus (first | omega | (simp; omega))) | (with_reducible refine blk_drew _ _ ?_) | ((with_reducible refine blk_below (by assumption) ?_ ?_); focus (simp; done)) | ((with_reducible refine blk_below (by assumption) ?_ ?_); focus (first | omega | (simp; omega))))) (by rw [row_size]; kernel_rfl) (by simp [row_size]) (row_cells _ _ _ rfl) _ (row_over _ _ 64 _ _ (by simp)) ?_))
      have h5 := H5.out
      refine bodyPost_ret (v := .agg (plate a b (mapA a b g (fun _ => 0)))) ?_ ?_ ?_
      · refine results_cell_row Try.results58 _ _ _ 42 (plate a b (mapA a b g (fun _ => 0))) (0, 0) _ rfl ?_ Try.underlying42 rfl (by simp only [row_size]; kernel_rfl)
        exact (by repeat (first | (with_reducible assumption) | ((with_reducible refine blk_new _ _ _ ?_); focus (simp; done)) | ((with_reducible refine blk_old _ _ _ ?_ ?_); focus (simp; done)) | ((with_reducible refine blk_old _ _ _ ?_ ?_); focus (first | omega | (simp; omega))) | ((with_reducible apply blk_set); focus (simp; done)) | ((with_reducible refine blk_off _ _ _ _ ?_ ?_); focus (simp; done)) | ((with_reducible refine blk_offc _ _ _ _ ?_ ?_); focus (first | (simp; done) | omega | (simp; omega))) | ((with_reducible refine blk_off _ _ _ _ ?_ ?_); focus (first | omega | (simp; omega))) | (with_reducible refine blk_drew _ _ ?_) | ((with_reducible refine blk_below (by assumption) ?_ ?_); focus (simp; done)) | ((with_reducible refine blk_below (by assumption) ?_ ?_); focus (first | omega | (simp; omega)))))
      · rfl
      · exact ⟨rfl, (by repeat (first | (with_reducible assumption) | (with_reducible exact Below.refl _ _) | ((with_reducible refine bel_alloc _ ?_ ?_); focus (first | omega | (simp; done) | (simp; omega))) | ((with_reducible refine bel_row _ ?_ ?_); focus (first | omega | (simp; done) | (simp; omega))) | ((with_reducible refine bel_cell _ ?_ ?_); focus (first | omega | (simp; done) | (simp; omega))) | (with_reducible refine Below.drew ?_) | (with_reducible refine below_wideW _ ?_) | ((with_reducible refine bel_next (by assumption) ?_ ?_); focus (first | omega | (simp; done) | (simp; omega)))))⟩
end Go.Proofs.Ytlohgpbhebmefaa
