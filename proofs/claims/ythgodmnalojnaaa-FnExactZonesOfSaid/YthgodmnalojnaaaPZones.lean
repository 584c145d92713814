/- Contracts of ZonesOf, the reference's and the program's, and the law on it. -/
import Derived.Test.YthgodmnalojnaaaPCover
set_option linter.unusedVariables false
set_option linter.unusedSimpArgs false
namespace Go.Proofs.Ythgodmnalojnaaa
open Go.RowKit Ieee

set_option maxHeartbeats 800000 in
theorem eqZones_self (F : Nat → Nat) (w : World) (hn : ∀ i, i < 8 → ¬ Flt.NaN single (F i)) : Calls Try.prog 34 #[.agg (row [] 8 F), .agg (row [] 8 F)] w fun e w' => e = .returned (.bool true) ∧ Below w.heap.size w w' := by
  have HN := Lib.hid hn
  clear hn
  go_enter Try.func34, Try.ntmps34
  go_wp2
  go_loopw [5] (fun i wr => ∃ k : Nat, k ≤ 8 ∧ i = .int .i64 k ∧ wr.heap[w.heap.size]? = some (.cells (row [] 8 F) 49 (0, 0)) ∧ wr.heap[w.heap.size + 1]? = some (.cells (row [] 8 F) 49 (0, 0)) ∧ Below w.heap.size w wr) (fun i _ => 8 - (intOf i).toNat)
  case atStart => exact ⟨0, by omega, rfl, (by repeat (first | (with_reducible assumption) | ((with_reducible refine blk_new _ _ _ ?_); focus (simp; done)) | ((with_reducible refine blk_old _ _ _ ?_ ?_); focus (simp; done)) | ((with_reducible refine blk_old _ _ _ ?_ ?_); focus (first | omega | (simp; omega))) | ((with_reducible apply blk_set); focus (simp; done)) | ((with_reducible refine blk_off _ _ _ _ ?_ ?_); focus (simp; done)) | ((with_reducible refine blk_offc _ _ _ _ ?_ ?_); focus (first | (simp; done) | omega | (simp; omega))) | ((with_reducible refine blk_off _ _ _ _ ?_ ?_); focus (first | omega | (simp; omega))) | (with_reducible refine blk_drew _ _ ?_) | ((with_reducible refine blk_below (by assumption) ?_ ?_); focus (simp; done)) | ((with_reducible refine blk_below (by assumption) ?_ ?_); focus (first | omega | (simp; omega))))), (by repeat (first | (with_reducible assumption) | ((with_reducible refine blk_new _ _ _ ?_); focus (simp; done)) | ((with_reducible refine blk_old _ _ _ ?_ ?_); focus (simp; done)) | ((with_reducible refine blk_old _ _ _ ?_ ?_); focus (first | omega | (simp; omega))) | ((with_reducible apply blk_set); focus (simp; done)) | ((with_reducible refine blk_off _ _ _ _ ?_ ?_); focus (simp; done)) | ((with_reducible refine blk_offc _ _ _ _ ?_ ?_); focus (first | (simp; done) | omega | (simp; omega))) | ((with_reducible refine blk_off _ _ _ _ ?_ ?_); focus (first | omega | (simp; omega))) | (with_reducible refine blk_drew _ _ ?_) | ((with_reducible refine blk_below (by assumption) ?_ ?_); focus (simp; done)) | ((with_reducible refine blk_below (by assumption) ?_ ?_); focus (first | omega | (simp; omega))))), (by repeat (first | (with_reducible assumption) | (with_reducible exact Below.refl _ _) | ((with_reducible refine bel_alloc _ ?_ ?_); focus (first | omega | (simp; done) | (simp; omega))) | ((with_reducible refine bel_row _ ?_ ?_); focus (first | omega | (simp; done) | (simp; omega))) | ((with_reducible refine bel_cell _ ?_ ?_); focus (first | omega | (simp; done) | (simp; omega))) | (with_reducible refine Below.drew ?_) | (with_reducible refine below_wideW _ ?_) | ((with_reducible refine bel_next (by assumption) ?_ ?_); focus (first | omega | (simp; done) | (simp; omega)))))⟩
  case round =>
    obtain ⟨k, hk, rfl, h1, h2, hb⟩ := hrel
    by_cases hlt : k < 8
    · have hnk := HN.out k hlt
      have hc := fun w => run_wide (P := Try.prog) 23 41 (F k) w (by kernel_rfl) (by kernel_rfl) hnk
      have hw := Flt.widen_nan hnk
      have c1 : wr.cell? ⟨w.heap.size, k, none⟩ = some (.float .f32 (F k)) := (cell_of_row wr _ k _ _ _ h1).trans (row_k0 _ _ hlt)
      have c2 : wr.cell? ⟨w.heap.size + 1, k, none⟩ = some (.float .f32 (F k)) := (cell_of_row wr _ k _ _ _ h2).trans (row_k0 _ _ hlt)
      have H1 := Lib.hid h1
      have H2 := Lib.hid h2
      clear hnk h1 h2
      go_wp2
      go_quiet ((go_at_call 25; exact quiet_same (sameFloat_self _ _ hw)))
      go_wp2
      go_roundw
      case rel => exact ⟨k + 1, by omega, by go_num, H1.out, H2.out, bel_drewN _ hb⟩
      case measure => simp [intOf]; omega
    · obtain rfl : k = 8 := by omega
      clear h1 h2
      go_wp2
      go_ret
      exact ⟨rfl, hb⟩

/-- The mean of a column. -/
def zoneAt (b : Nat) (F : Nat → Nat) (c : Nat) : Nat := fdiv (sumTo (fun k => F (c + 8 * k)) b) (cvtN b)
def zonesF (a b : Nat) (F : Nat → Nat) : Nat → Nat := mix (zoneAt b F) (fun _ => 0) a
theorem put_mix0 {w : World} {g : Nat} {n : Nat} {F G : Nat → Nat} {t : TypeId} {k v : Nat} (hk : k < n) (hv : v = G k) (h : w.heap[g]? = some (.cells (row [] n (mix G F k)) t (0, 0))) :
    (w.setCell ⟨g, k, none⟩ (.float .f32 v)).heap[g]? = some (.cells (row [] n (mix G F (k + 1))) t (0, 0)) := by
  subst hv
  have := put_mix (pre := []) hk h
  simpa using this
structure ZoneFacts (a b : Nat) (F : Nat → Nat) (c : Nat) : Prop where
  film : ∀ k, k < b → filmB (F (c + 8 * k)) = true
  fs : ∀ k, k ≤ b → Fin32 (sumTo (fun k => F (c + 8 * k)) k)
  fc : Fin32 (cvtN b)
  nc : Z32 (cvtN b) ≠ 0
theorem zone_facts {a b : Nat} {F : Nat → Nat} (ha : a < 9) (lb : 1 ≤ b) (hb : b < 9) (hp : ∀ i, i < 64 → isC a b i = true → partB (F i) = true) {c : Nat} (hc : c < a) : ZoneFacts a b F c := by
  have hf : ∀ k, k < b → filmB (F (c + 8 * k)) = true := fun k hk => part_film (hp _ (by omega) (cell_xy (by omega) hc hk))
  exact ⟨hf, fun k hk => (sumTo_facts (by omega) hf k hk).1, cvtN_fin b (by omega), cvtN_ne (by omega) (by omega)⟩
theorem zones_num {a b : Nat} {F : Nat → Nat} (ha : a < 9) (lb : 1 ≤ b) (hb : b < 9) (hp : ∀ i, i < 64 → isC a b i = true → partB (F i) = true) : ∀ i, i < 8 → ¬ Flt.NaN single (zonesF a b F i) := by
  intro i hi
  unfold zonesF mix
  split
  · rename_i h
    obtain ⟨_, h2, h3, h4⟩ := zone_facts ha lb hb hp h
    exact num_fdiv (h2 b (Nat.le_refl _)) h3 h4
  · exact (by decide : ¬ Flt.NaN single 0)

set_option maxRecDepth 100000 in
set_option maxHeartbeats 1600000 in
theorem specZones_any (a b : Nat) (F : Nat → Nat) (w : World) (ha : a < 9) (lb : 1 ≤ b) (hb : b < 9) (hp : ∀ i, i < 64 → isC a b i = true → partB (F i) = true) (B : Nat) (hBw : B < w.heap.size) (hB : w.heap[B]? = some (.cells (plate a b F) 30 (0, 0))) :
    Calls Try.prog 59 #[.pointer (some ⟨B, 0, none⟩)] w fun e w' => e = .returned (.agg (row [] 8 (zonesF a b F))) ∧ Below w.heap.size w w' := by
  have hz : (#[Value.float FloatKind.f32 0, Value.float FloatKind.f32 0, Value.float FloatKind.f32 0, Value.float FloatKind.f32 0, Value.float FloatKind.f32 0, Value.float FloatKind.f32 0, Value.float FloatKind.f32 0, Value.float FloatKind.f32 0] : Array Value) = row [] 8 (fun _ => 0) := rfl
  have HP := Lib.hid hp
  have HB := Lib.hid hB
  have HBW := Lib.hid hBw
  have b0 : (0 : Int) ≤ b := by omega
  have b9 : (b : Int) < 9 := by omega
  have a0 : (0 : Int) ≤ a := by omega
  have a9 : (a : Int) < 9 := by omega
  clear hp hB hBw
  go_enter Try.func59, Try.ntmps59
  go_wp2_with (first | ((with_reducible refine at_load 49 ?_); refine wpList_load_part rfl 49 _ rfl _ 0 8 rfl _ _ _ _ (by repeat (first | (with_reducible assumption) | ((with_reducible refine blk_new _ _ _ ?_); focus (simp; done)) | ((with_reducible refine blk_old _ _ _ ?_ ?_); focus (simp; done)) | ((with_reducible refine blk_old _ _ _ ?_ ?_); focus (first | omega | (simp; omega))) | ((with_reducible apply blk_set); focus (simp; done)) | ((with_reducible refine blk_off _ _ _ _ ?_ ?_); focus (simp; done)) | ((with_reducible refine blk_offc _ _ _ _ ?_ ?_); focus (first | (simp; done) | omega | (simp; omega))) | ((with_reducible refine blk_off _ _ _ _ ?_ ?_); focus (first | omega | (simp; omega))) | (with_reducible refine blk_drew _ _ ?_) | ((with_reducible refine blk_below (by assumption) ?_ ?_); focus (simp; done)) | ((with_reducible refine blk_below (by assumption) ?_ ?_); focus (first | omega | (simp; omega))))) Try.underlying49 rfl (by kernel_rfl) (by simp [row_size]) _ (row_all [] 8 _) ?_) | ((with_reducible refine at_store 49 ?_); refine wpList_store_part rfl 49 _ _ rfl _ 0 _ rfl rfl _ _ (by repeat (first | (with_reducible assumption) | ((with_reducible refine blk_new _ _ _ ?_); focus (simp; done)) | ((with_reducible refine blk_old _ _ _ ?_ ?_); focus (simp; done)) | ((with_reducible refine blk_old _ _ _ ?_ ?_); focus (first | omega | (simp; omega))) | ((with_reducible apply blk_set); focus (simp; done)) | ((with_reducible refine blk_off _ _ _ _ ?_ ?_); focus (simp; done)) | ((with_reducible refine blk_offc _ _ _ _ ?_ ?_); focus (first | (simp; done) | omega | (simp; omega))) | ((with_reducible refine blk_off _ _ _ _ ?_ ?_); focus (first | omega | (simp; omega))) | (with_reducible refine blk_drew _ _ ?_) | ((with_reducible refine blk_below (by assumption) ?_ ?_); focus (simp; done)) | ((with_reducible refine blk_below (by assumption) ?_ ?_); focus (first | omega | (simp; omega))))) (by rw [row_size]; kernel_rfl) (by simp [row_size]) (row_cells _ _ _ rfl) _ (row_over _ _ 8 _ _ (by simp)) ?_))
  go_loopw [4] (fun i wr => ∃ k : Nat, k ≤ a ∧ i = .int .i64 k ∧ wr.heap[w.heap.size]? = some (.cells (row [] 8 (fun _ => 0)) 49 (0, 0)) ∧ wr.heap[w.heap.size + 1]? = some (.cells (row [] 8 (mix (zoneAt b F) (fun _ => 0) k)) 49 (0, 0)) ∧ Below w.heap.size w wr) (fun i _ => 9 - (intOf i).toNat)
  case atStart => exact ⟨0, by omega, rfl, (by repeat (first | (with_reducible assumption) | ((with_reducible refine blk_new _ _ _ ?_); focus (simp; done)) | ((with_reducible refine blk_old _ _ _ ?_ ?_); focus (simp; done)) | ((with_reducible refine blk_old _ _ _ ?_ ?_); focus (first | omega | (simp; omega))) | ((with_reducible apply blk_set); focus (simp; done)) | ((with_reducible refine blk_off _ _ _ _ ?_ ?_); focus (simp; done)) | ((with_reducible refine blk_offc _ _ _ _ ?_ ?_); focus (first | (simp; done) | omega | (simp; omega))) | ((with_reducible refine blk_off _ _ _ _ ?_ ?_); focus (first | omega | (simp; omega))) | (with_reducible refine blk_drew _ _ ?_) | ((with_reducible refine blk_below (by assumption) ?_ ?_); focus (simp; done)) | ((with_reducible refine blk_below (by assumption) ?_ ?_); focus (first | omega | (simp; omega))))), by rw [mix_0]; exact (by repeat (first | (with_reducible assumption) | ((with_reducible refine blk_new _ _ _ ?_); focus (simp; done)) | ((with_reducible refine blk_old _ _ _ ?_ ?_); focus (simp; done)) | ((with_reducible refine blk_old _ _ _ ?_ ?_); focus (first | omega | (simp; omega))) | ((with_reducible apply blk_set); focus (simp; done)) | ((with_reducible refine blk_off _ _ _ _ ?_ ?_); focus (simp; done)) | ((with_reducible refine blk_offc _ _ _ _ ?_ ?_); focus (first | (simp; done) | omega | (simp; omega))) | ((with_reducible refine blk_off _ _ _ _ ?_ ?_); focus (first | omega | (simp; omega))) | (with_reducible refine blk_drew _ _ ?_) | ((with_reducible refine blk_below (by assumption) ?_ ?_); focus (simp; done)) | ((with_reducible refine blk_below (by assumption) ?_ ?_); focus (first | omega | (simp; omega))))), (by repeat (first | (with_reducible assumption) | (with_reducible exact Below.refl _ _) | ((with_reducible refine bel_alloc _ ?_ ?_); focus (first | omega | (simp; done) | (simp; omega))) | ((with_reducible refine bel_row _ ?_ ?_); focus (first | omega | (simp; done) | (simp; omega))) | ((with_reducible refine bel_cell _ ?_ ?_); focus (first | omega | (simp; done) | (simp; omega))) | (with_reducible refine Below.drew ?_) | (with_reducible refine below_wideW _ ?_) | ((with_reducible refine bel_next (by assumption) ?_ ?_); focus (first | omega | (simp; done) | (simp; omega)))))⟩
  case round =>
    obtain ⟨k, hk, rfl, h1, h2, h5⟩ := hrel
    obtain ⟨wo, rfl⟩ : ∃ wo : World, wo = wr := ⟨_, rfl⟩
    have hP : wo.heap[B]? = some (.cells (plate a b F) 30 (0, 0)) := (h5.block B HBW.out).trans HB.out
    have p0 : wo.cell? ⟨B, 0, none⟩ = some (.int .i8 a) := (cell_of_row wo _ 0 _ _ _ hP).trans (row_g0 _ _ _ _)
    have p1 : wo.cell? ⟨B, 1, none⟩ = some (.int .i8 b) := (cell_of_row wo _ 1 _ _ _ hP).trans (row_g1 _ _ _ _ _)
    have k0 : (0 : Int) ≤ k := by omega
    by_cases hlt : k < a
    · have co : wo.cell? ⟨w.heap.size + 1, k, none⟩ = some (.float .f32 (mix (zoneAt b F) (fun _ => 0) k k)) := (cell_of_row wo _ k _ _ _ h2).trans (row_k0 _ _ (by omega))
      have ff : wo.frozen? ⟨w.heap.size + 1, k, none⟩ = false := frozen_of_row wo _ _ _ _ h2
      have hcs : ∀ j, j < b → wo.cell? ⟨B, 2 + (k + 8 * j), none⟩ = some (.float .f32 (F (k + 8 * j))) := fun j hj => (cell_of_row wo _ (2 + (k + 8 * j)) _ _ _ hP).trans (row_k2 _ _ _ _ (by omega))
      have cf0 : wo.cell? ⟨B, 2 + k, none⟩ = some (.float .f32 (F k)) := by have := hcs 0 (by omega); simpa using this
      have zf := zone_facts ha lb hb HP.out hlt
      obtain ⟨G, hG⟩ : ∃ G : Nat → Nat, G = fun j => F (k + 8 * j) := ⟨_, rfl⟩
      have hG0 : G 0 = F k := by rw [hG]; simp
      have hzv : zoneAt b F k = fdiv (sumTo G b) (cvtN b) := by rw [hG]; rfl
      have hcs' : ∀ j, j < b → wo.cell? ⟨B, 2 + (k + 8 * j), none⟩ = some (.float .f32 (G j)) := fun j hj => by rw [hG]; exact hcs j hj
      have hff : ∀ j, j ≤ b → Fin32 (sumTo G j) := fun j hj => by rw [hG]; exact zf.fs j hj
      have hgf : ∀ j, j < b → filmB (G j) = true := fun j hj => by rw [hG]; exact zf.film j hj
      have e9 := fun w => run_fdiv (P := Try.prog) w 23 (hff b (Nat.le_refl _)) zf.fc zf.nc
      rw [← hG0] at cf0
      have H1 := Lib.hid h1
      have H2 := Lib.hid h2
      have H5 := Lib.hid h5
      have HC := Lib.hid hcs'
      have HF := Lib.hid hff
      have HG := Lib.hid hgf
      have HZ := Lib.hid hzv
      have k8 : (k : Int) < 8 := by omega
      clear h1 h2 h5 hP hcs hcs' zf hG hG0 hzv hff hgf
      go_wp2
      go_loop [5, 6] (fun v i => ∃ j : Nat, 1 ≤ j ∧ j ≤ b ∧ i = .int .i64 j ∧ v = .float .f32 (sumTo G j)) (fun _ i => 9 - (intOf i).toNat)
      case atStart => exact ⟨1, by omega, lb, rfl, rfl⟩
      case round =>
        obtain ⟨j, j1, hj, rfl, rfl⟩ := hrel
        by_cases hlj : j < b
        · have cj := HC.out j hlj
          have e1 := fun w => run_fadd (P := Try.prog) w 23 (HF.out j hj) (film_fin (HG.out j hlj))
          have j0 : (0 : Int) ≤ j := by omega
          have j8 : (j : Int) < 8 := by omega
          have t1 : ((k : Int) + 8 * (j : Int)).toNat = k + 8 * j := by omega
          go_wp2
          go_round
          case rel => exact ⟨j + 1, by omega, by omega, by go_num, by rw [sumTo_step G j1]⟩
          case measure => simp [intOf]; omega
        · obtain rfl : j = b := by omega
          go_wp2
          go_roundw
          case rel => exact ⟨k + 1, by omega, by go_num, put_off (by omega) H1.out, put_mix0 (by omega) HZ.out.symm H2.out, bel_cell _ (by simp) H5.out⟩
          case measure => simp [intOf]; omega
    · obtain rfl : k = a := by omega
      have H5 := Lib.hid h5
      have hz5 := h5.size
      clear h5 hP
      go_wp2_with (first | ((with_reducible refine at_load 49 ?_); refine wpList_load_part rfl 49 _ rfl _ 0 8 rfl _ _ _ _ (by repeat (first | (with_reducible assumption) | ((with_reducible refine blk_new _ _ _ ?_); focus (simp; done)) | ((with_reducible refine blk_old _ _ _ ?_ ?_); focus (simp; done)) | ((with_reducible refine blk_old _ _ _ ?_ ?_); focus (first | omega | (simp; omega))) | ((with_reducible apply blk_set); focus (simp; done)) | ((with_reducible refine blk_off _ _ _ _ ?_ ?_); focus (simp; done)) | ((with_reducible refine blk_offc _ _ _ _ ?_ ?_); focus (first | (simp; done) | omega | (simp; omega))) | ((with_reducible refine blk_off _ _ _ _ ?_ ?_); focus (first | omega | (simp; omega))) | (with_reducible refine blk_drew _ _ ?_) | ((with_reducible refine blk_below (by assumption) ?_ ?_); focus (simp; done)) | ((with_reducible refine blk_below (by assumption) ?_ ?_); focus (first | omega | (simp; omega))))) Try.underlying49 rfl (by kernel_rfl) (by simp [row_size]) _ (row_all [] 8 _) ?_) | ((with_reducible refine at_store 49 ?_); refine wpList_store_part rfl 49 _ _ rfl _ 0 _ rfl rfl _ _ (by repeat (first | (with_reducible assumption) | ((with_reducible refine blk_new _ _ _ ?_); focus (simp; done)) | ((with_reducible refine blk_old _ _ _ ?_ ?_); focus (simp; done)) | ((with_reducible refine blk_old _ _ _ ?_ ?_); focus (first | omega | (simp; omega))) | ((with_reducible apply blk_set); focus (simp; done)) | ((with_reducible refine blk_off _ _ _ _ ?_ ?_); focus (simp; done)) | ((with_reducible refine blk_offc _ _ _ _ ?_ ?_); focus (first | (simp; done) | omega | (simp; omega))) | ((with_reducible refine blk_off _ _ _ _ ?_ ?_); focus (first | omega | (simp; omega))) | (with_reducible refine blk_drew _ _ ?_) | ((with_reducible refine blk_below (by assumption) ?_ ?_); focus (simp; done)) | ((with_reducible refine blk_below (by assumption) ?_ ?_); focus (first | omega | (simp; omega))))) (by rw [row_size]; kernel_rfl) (by simp [row_size]) (row_cells _ _ _ rfl) _ (row_over _ _ 8 _ _ (by simp)) ?_))
      have h5 := H5.out
      refine bodyPost_ret (v := .agg (row [] 8 (zonesF k b F))) ?_ ?_ ?_
      · refine results_cell_row Try.results59 _ _ _ 49 (row [] 8 (zonesF k b F)) (0, 0) _ rfl ?_ Try.underlying49 rfl (by simp only [row_size]; kernel_rfl)
        unfold zonesF
        exact (by repeat (first | (with_reducible assumption) | ((with_reducible refine blk_new _ _ _ ?_); focus (simp; done)) | ((with_reducible refine blk_old _ _ _ ?_ ?_); focus (simp; done)) | ((with_reducible refine blk_old _ _ _ ?_ ?_); focus (first | omega | (simp; omega))) | ((with_reducible apply blk_set); focus (simp; done)) | ((with_reducible refine blk_off _ _ _ _ ?_ ?_); focus (simp; done)) | ((with_reducible refine blk_offc _ _ _ _ ?_ ?_); focus (first | (simp; done) | omega | (simp; omega))) | ((with_reducible refine blk_off _ _ _ _ ?_ ?_); focus (first | omega | (simp; omega))) | (with_reducible refine blk_drew _ _ ?_) | ((with_reducible refine blk_below (by assumption) ?_ ?_); focus (simp; done)) | ((with_reducible refine blk_below (by assumption) ?_ ?_); focus (first | omega | (simp; omega)))))
      · rfl
      · exact ⟨rfl, (by repeat (first | (with_reducible assumption) | (with_reducible exact Below.refl _ _) | ((with_reducible refine bel_alloc _ ?_ ?_); focus (first | omega | (simp; done) | (simp; omega))) | ((with_reducible refine bel_row _ ?_ ?_); focus (first | omega | (simp; done) | (simp; omega))) | ((with_reducible refine bel_cell _ ?_ ?_); focus (first | omega | (simp; done) | (simp; omega))) | (with_reducible refine Below.drew ?_) | (with_reducible refine below_wideW _ ?_) | ((with_reducible refine bel_next (by assumption) ?_ ?_); focus (first | omega | (simp; done) | (simp; omega)))))⟩

set_option maxRecDepth 100000 in
set_option maxHeartbeats 1600000 in
theorem specZonesOf_any (x y : Int) (F : Nat → Nat) (w : World) (lx : -128 ≤ x) (ux : x ≤ 127) (ly : -128 ≤ y) (uy : y ≤ 127) : Calls Try.prog 32 #[.agg (plate x y F)] w fun e w' => e = .returned (.tuple #[.agg (if plateB x y F then row [] 8 (zonesF x.toNat y.toNat F) else row [] 8 (fun _ => 0)), .int .i64 (if plateB x y F then 0 else 1)]) ∧ Below w.heap.size w w' := by
  have hz : (#[Value.float FloatKind.f32 0, Value.float FloatKind.f32 0, Value.float FloatKind.f32 0, Value.float FloatKind.f32 0, Value.float FloatKind.f32 0, Value.float FloatKind.f32 0, Value.float FloatKind.f32 0, Value.float FloatKind.f32 0] : Array Value) = row [] 8 (fun _ => 0) := rfl
  cases ho : plateB x y F
  · go_enter Try.func32, Try.ntmps32
    go_wp2_with (first | (go_at_call 46; (with_reducible refine (specPOk_any x y F _ lx ux ly uy _ ?_).mono ?_); (focus (repeat (first | (with_reducible assumption) | ((with_reducible refine blk_new _ _ _ ?_); focus (simp; done)) | ((with_reducible refine blk_old _ _ _ ?_ ?_); focus (simp; done)) | ((with_reducible refine blk_old _ _ _ ?_ ?_); focus (first | omega | (simp; omega))) | ((with_reducible apply blk_set); focus (simp; done)) | ((with_reducible refine blk_off _ _ _ _ ?_ ?_); focus (simp; done)) | ((with_reducible refine blk_offc _ _ _ _ ?_ ?_); focus (first | (simp; done) | omega | (simp; omega))) | ((with_reducible refine blk_off _ _ _ _ ?_ ?_); focus (first | omega | (simp; omega))) | (with_reducible refine blk_drew _ _ ?_) | ((with_reducible refine blk_below (by assumption) ?_ ?_); focus (simp; done)) | ((with_reducible refine blk_below (by assumption) ?_ ?_); focus (first | omega | (simp; omega)))))); rintro e w' ⟨rfl, rfl⟩) | ((with_reducible refine at_load 49 ?_); refine wpList_load_part rfl 49 _ rfl _ 0 8 rfl _ _ _ _ (by repeat (first | (with_reducible assumption) | ((with_reducible refine blk_new _ _ _ ?_); focus (simp; done)) | ((with_reducible refine blk_old _ _ _ ?_ ?_); focus (simp; done)) | ((with_reducible refine blk_old _ _ _ ?_ ?_); focus (first | omega | (simp; omega))) | ((with_reducible apply blk_set); focus (simp; done)) | ((with_reducible refine blk_off _ _ _ _ ?_ ?_); focus (simp; done)) | ((with_reducible refine blk_offc _ _ _ _ ?_ ?_); focus (first | (simp; done) | omega | (simp; omega))) | ((with_reducible refine blk_off _ _ _ _ ?_ ?_); focus (first | omega | (simp; omega))) | (with_reducible refine blk_drew _ _ ?_) | ((with_reducible refine blk_below (by assumption) ?_ ?_); focus (simp; done)) | ((with_reducible refine blk_below (by assumption) ?_ ?_); focus (first | omega | (simp; omega))))) Try.underlying49 rfl (by kernel_rfl) (by simp [row_size]) _ (row_all [] 8 _) ?_) | ((with_reducible refine at_store 49 ?_); refine wpList_store_part rfl 49 _ _ rfl _ 0 _ rfl rfl _ _ (by repeat (first | (with_reducible assumption) | ((with_reducible refine blk_new _ _ _ ?_); focus (simp; done)) | ((with_reducible refine blk_old _ _ _ ?_ ?_); focus (simp; done)) | ((with_reducible refine blk_old _ _ _ ?_ ?_); focus (first | omega | (simp; omega))) | ((with_reducible apply blk_set); focus (simp; done)) | ((with_reducible refine blk_off _ _ _ _ ?_ ?_); focus (simp; done)) | ((with_reducible refine blk_offc _ _ _ _ ?_ ?_); focus (first | (simp; done) | omega | (simp; omega))) | ((with_reducible refine blk_off _ _ _ _ ?_ ?_); focus (first | omega | (simp; omega))) | (with_reducible refine blk_drew _ _ ?_) | ((with_reducible refine blk_below (by assumption) ?_ ?_); focus (simp; done)) | ((with_reducible refine blk_below (by assumption) ?_ ?_); focus (first | omega | (simp; omega))))) (by rw [row_size]; kernel_rfl) (by simp [row_size]) (row_cells _ _ _ rfl) _ (row_over _ _ 8 _ _ (by simp)) ?_) | go_in)
    refine bodyPost_ret (v := .tuple #[.agg (row [] 8 (fun _ => 0)), .int .i64 1]) ?_ ?_ ?_
    · refine results_row_tmp Try.results32 _ _ _ 49 (row [] 8 (fun _ => 0)) (0, 0) _ _ rfl rfl ?_ Try.underlying49 rfl (by simp only [row_size]; kernel_rfl)
      exact (by repeat (first | (with_reducible assumption) | ((with_reducible refine blk_new _ _ _ ?_); focus (simp; done)) | ((with_reducible refine blk_old _ _ _ ?_ ?_); focus (simp; done)) | ((with_reducible refine blk_old _ _ _ ?_ ?_); focus (first | omega | (simp; omega))) | ((with_reducible apply blk_set); focus (simp; done)) | ((with_reducible refine blk_off _ _ _ _ ?_ ?_); focus (simp; done)) | ((with_reducible refine blk_offc _ _ _ _ ?_ ?_); focus (first | (simp; done) | omega | (simp; omega))) | ((with_reducible refine blk_off _ _ _ _ ?_ ?_); focus (first | omega | (simp; omega))) | (with_reducible refine blk_drew _ _ ?_) | ((with_reducible refine blk_below (by assumption) ?_ ?_); focus (simp; done)) | ((with_reducible refine blk_below (by assumption) ?_ ?_); focus (first | omega | (simp; omega)))))
    · rfl
    · exact ⟨rfl, (by repeat (first | (with_reducible assumption) | (with_reducible exact Below.refl _ _) | ((with_reducible refine bel_alloc _ ?_ ?_); focus (first | omega | (simp; done) | (simp; omega))) | ((with_reducible refine bel_row _ ?_ ?_); focus (first | omega | (simp; done) | (simp; omega))) | ((with_reducible refine bel_cell _ ?_ ?_); focus (first | omega | (simp; done) | (simp; omega))) | (with_reducible refine Below.drew ?_) | (with_reducible refine below_wideW _ ?_) | ((with_reducible refine bel_next (by assumption) ?_ ?_); focus (first | omega | (simp; done) | (simp; omega)))))⟩
  · obtain ⟨a, b, rfl, rfl, la, ha, lb, hb, hp, hz0⟩ := plateB_size ho
    have HP := Lib.hid hp
    clear hp hz0
    go_enter Try.func32, Try.ntmps32
    go_wp2_with (first | (go_at_call 46; (with_reducible refine (specPOk_any a b F _ (by omega) (by omega) (by omega) (by omega) _ ?_).mono ?_); (focus (repeat (first | (with_reducible assumption) | ((with_reducible refine blk_new _ _ _ ?_); focus (simp; done)) | ((with_reducible refine blk_old _ _ _ ?_ ?_); focus (simp; done)) | ((with_reducible refine blk_old _ _ _ ?_ ?_); focus (first | omega | (simp; omega))) | ((with_reducible apply blk_set); focus (simp; done)) | ((with_reducible refine blk_off _ _ _ _ ?_ ?_); focus (simp; done)) | ((with_reducible refine blk_offc _ _ _ _ ?_ ?_); focus (first | (simp; done) | omega | (simp; omega))) | ((with_reducible refine blk_off _ _ _ _ ?_ ?_); focus (first | omega | (simp; omega))) | (with_reducible refine blk_drew _ _ ?_) | ((with_reducible refine blk_below (by assumption) ?_ ?_); focus (simp; done)) | ((with_reducible refine blk_below (by assumption) ?_ ?_); focus (first | omega | (simp; omega)))))); rintro e w' ⟨rfl, rfl⟩) | (go_at_call 59; (with_reducible refine (specZones_any a b F _ ha lb hb HP.out w.heap.size ?_ ?_).mono ?_); (focus (first | (simp; done) | (simp; omega))); (focus (repeat (first | (with_reducible assumption) | ((with_reducible refine blk_new _ _ _ ?_); focus (simp; done)) | ((with_reducible refine blk_old _ _ _ ?_ ?_); focus (simp; done)) | ((with_reducible refine blk_old _ _ _ ?_ ?_); focus (first | omega | (simp; omega))) | ((with_reducible apply blk_set); focus (simp; done)) | ((with_reducible refine blk_off _ _ _ _ ?_ ?_); focus (simp; done)) | ((with_reducible refine blk_offc _ _ _ _ ?_ ?_); focus (first | (simp; done) | omega | (simp; omega))) | ((with_reducible refine blk_off _ _ _ _ ?_ ?_); focus (first | omega | (simp; omega))) | (with_reducible refine blk_drew _ _ ?_) | ((with_reducible refine blk_below (by assumption) ?_ ?_); focus (simp; done)) | ((with_reducible refine blk_below (by assumption) ?_ ?_); focus (first | omega | (simp; omega)))))); rintro e w2 ⟨rfl, hb2⟩; have hz2 := hb2.size; (try simp at hz2)) | ((with_reducible refine at_load 49 ?_); refine wpList_load_part rfl 49 _ rfl _ 0 8 rfl _ _ _ _ (by repeat (first | (with_reducible assumption) | ((with_reducible refine blk_new _ _ _ ?_); focus (simp; done)) | ((with_reducible refine blk_old _ _ _ ?_ ?_); focus (simp; done)) | ((with_reducible refine blk_old _ _ _ ?_ ?_); focus (first | omega | (simp; omega))) | ((with_reducible apply blk_set); focus (simp; done)) | ((with_reducible refine blk_off _ _ _ _ ?_ ?_); focus (simp; done)) | ((with_reducible refine blk_offc _ _ _ _ ?_ ?_); focus (first | (simp; done) | omega | (simp; omega))) | ((with_reducible refine blk_off _ _ _ _ ?_ ?_); focus (first | omega | (simp; omega))) | (with_reducible refine blk_drew _ _ ?_) | ((with_reducible refine blk_below (by assumption) ?_ ?_); focus (simp; done)) | ((with_reducible refine blk_below (by assumption) ?_ ?_); focus (first | omega | (simp; omega))))) Try.underlying49 rfl (by kernel_rfl) (by simp [row_size]) _ (row_all [] 8 _) ?_) | ((with_reducible refine at_store 49 ?_); refine wpList_store_part rfl 49 _ _ rfl _ 0 _ rfl rfl _ _ (by repeat (first | (with_reducible assumption) | ((with_reducible refine blk_new _ _ _ ?_); focus (simp; done)) | ((with_reducible refine blk_old _ _ _ ?_ ?_); focus (simp; done)) | ((with_reducible refine blk_old _ _ _ ?_ ?_); focus (first | omega | (simp; omega))) | ((with_reducible apply blk_set); focus (simp; done)) | ((with_reducible refine blk_off _ _ _ _ ?_ ?_); focus (simp; done)) | ((with_reducible refine blk_offc _ _ _ _ ?_ ?_); focus (first | (simp; done) | omega | (simp; omega))) | ((with_reducible refine blk_off _ _ _ _ ?_ ?_); focus (first | omega | (simp; omega))) | (with_reducible refine blk_drew _ _ ?_) | ((with_reducible refine blk_below (by assumption) ?_ ?_); focus (simp; done)) | ((with_reducible refine blk_below (by assumption) ?_ ?_); focus (first | omega | (simp; omega))))) (by rw [row_size]; kernel_rfl) (by simp [row_size]) (row_cells _ _ _ rfl) _ (row_over _ _ 8 _ _ (by simp)) ?_) | go_in)
    refine bodyPost_ret (v := .tuple #[.agg (row [] 8 (zonesF a b F)), .int .i64 0]) ?_ ?_ ?_
    · refine results_row_tmp Try.results32 _ _ _ 49 (row [] 8 (zonesF a b F)) (0, 0) _ _ rfl rfl ?_ Try.underlying49 rfl (by simp only [row_size]; kernel_rfl)
      exact (by repeat (first | (with_reducible assumption) | ((with_reducible refine blk_new _ _ _ ?_); focus (simp; done)) | ((with_reducible refine blk_old _ _ _ ?_ ?_); focus (simp; done)) | ((with_reducible refine blk_old _ _ _ ?_ ?_); focus (first | omega | (simp; omega))) | ((with_reducible apply blk_set); focus (simp; done)) | ((with_reducible refine blk_off _ _ _ _ ?_ ?_); focus (simp; done)) | ((with_reducible refine blk_offc _ _ _ _ ?_ ?_); focus (first | (simp; done) | omega | (simp; omega))) | ((with_reducible refine blk_off _ _ _ _ ?_ ?_); focus (first | omega | (simp; omega))) | (with_reducible refine blk_drew _ _ ?_) | ((with_reducible refine blk_below (by assumption) ?_ ?_); focus (simp; done)) | ((with_reducible refine blk_below (by assumption) ?_ ?_); focus (first | omega | (simp; omega)))))
    · rfl
    · exact ⟨rfl, (by repeat (first | (with_reducible assumption) | (with_reducible exact Below.refl _ _) | ((with_reducible refine bel_alloc _ ?_ ?_); focus (first | omega | (simp; done) | (simp; omega))) | ((with_reducible refine bel_row _ ?_ ?_); focus (first | omega | (simp; done) | (simp; omega))) | ((with_reducible refine bel_cell _ ?_ ?_); focus (first | omega | (simp; done) | (simp; omega))) | (with_reducible refine Below.drew ?_) | (with_reducible refine below_wideW _ ?_) | ((with_reducible refine bel_next (by assumption) ?_ ?_); focus (first | omega | (simp; done) | (simp; omega)))))⟩

set_option maxRecDepth 100000 in
set_option maxHeartbeats 3200000 in
theorem implZonesOf_any (x y : Int) (F : Nat → Nat) (w : World) (lx : -128 ≤ x) (ux : x ≤ 127) (ly : -128 ≤ y) (uy : y ≤ 127) : Calls Try.prog 33 #[.agg (plate x y F)] w fun e w' => e = .returned (.tuple #[.agg (if plateB x y F then row [] 8 (zonesF x.toNat y.toNat F) else row [] 8 (fun _ => 0)), .int .i64 (if plateB x y F then 0 else 1)]) ∧ Below w.heap.size w w' := by
  have hz : (#[Value.float FloatKind.f32 0, Value.float FloatKind.f32 0, Value.float FloatKind.f32 0, Value.float FloatKind.f32 0, Value.float FloatKind.f32 0, Value.float FloatKind.f32 0, Value.float FloatKind.f32 0, Value.float FloatKind.f32 0] : Array Value) = row [] 8 (fun _ => 0) := rfl
  cases ho : plateB x y F
  · go_enter Try.func33, Try.ntmps33
    go_wp2_with (first | (go_at_call 19; (with_reducible refine (implPOk_any x y F _ lx ux ly uy).mono ?_); rintro e w1 ⟨rfl, hb1⟩; have hz1 := hb1.size; (try simp at hz1); obtain ⟨hc1, hf1⟩ := bcell hb1) | ((with_reducible refine at_load 30 ?_); refine wpList_load_part rfl 30 _ rfl _ 0 66 rfl _ _ _ _ (by repeat (first | (with_reducible assumption) | ((with_reducible refine blk_new _ _ _ ?_); focus (simp; done)) | ((with_reducible refine blk_old _ _ _ ?_ ?_); focus (simp; done)) | ((with_reducible refine blk_old _ _ _ ?_ ?_); focus (first | omega | (simp; omega))) | ((with_reducible apply blk_set); focus (simp; done)) | ((with_reducible refine blk_off _ _ _ _ ?_ ?_); focus (simp; done)) | ((with_reducible refine blk_offc _ _ _ _ ?_ ?_); focus (first | (simp; done) | omega | (simp; omega))) | ((with_reducible refine blk_off _ _ _ _ ?_ ?_); focus (first | omega | (simp; omega))) | (with_reducible refine blk_drew _ _ ?_) | ((with_reducible refine blk_below (by assumption) ?_ ?_); focus (simp; done)) | ((with_reducible refine blk_below (by assumption) ?_ ?_); focus (first | omega | (simp; omega))))) Try.underlying30 rfl (by kernel_rfl) (by simp [row_size]) _ (row_all [_, _] 64 _) ?_) | ((with_reducible refine at_load 49 ?_); refine wpList_load_part rfl 49 _ rfl _ 0 8 rfl _ _ _ _ (by repeat (first | (with_reducible assumption) | ((with_reducible refine blk_new _ _ _ ?_); focus (simp; done)) | ((with_reducible refine blk_old _ _ _ ?_ ?_); focus (simp; done)) | ((with_reducible refine blk_old _ _ _ ?_ ?_); focus (first | omega | (simp; omega))) | ((with_reducible apply blk_set); focus (simp; done)) | ((with_reducible refine blk_off _ _ _ _ ?_ ?_); focus (simp; done)) | ((with_reducible refine blk_offc _ _ _ _ ?_ ?_); focus (first | (simp; done) | omega | (simp; omega))) | ((with_reducible refine blk_off _ _ _ _ ?_ ?_); focus (first | omega | (simp; omega))) | (with_reducible refine blk_drew _ _ ?_) | ((with_reducible refine blk_below (by assumption) ?_ ?_); focus (simp; done)) | ((with_reducible refine blk_below (by assumption) ?_ ?_); focus (first | omega | (simp; omega))))) Try.underlying49 rfl (by kernel_rfl) (by simp [row_size]) _ (row_all [] 8 _) ?_) | ((with_reducible refine at_store 49 ?_); refine wpList_store_part rfl 49 _ _ rfl _ 0 _ rfl rfl _ _ (by repeat (first | (with_reducible assumption) | ((with_reducible refine blk_new _ _ _ ?_); focus (simp; done)) | ((with_reducible refine blk_old _ _ _ ?_ ?_); focus (simp; done)) | ((with_reducible refine blk_old _ _ _ ?_ ?_); focus (first | omega | (simp; omega))) | ((with_reducible apply blk_set); focus (simp; done)) | ((with_reducible refine blk_off _ _ _ _ ?_ ?_); focus (simp; done)) | ((with_reducible refine blk_offc _ _ _ _ ?_ ?_); focus (first | (simp; done) | omega | (simp; omega))) | ((with_reducible refine blk_off _ _ _ _ ?_ ?_); focus (first | omega | (simp; omega))) | (with_reducible refine blk_drew _ _ ?_) | ((with_reducible refine blk_below (by assumption) ?_ ?_); focus (simp; done)) | ((with_reducible refine blk_below (by assumption) ?_ ?_); focus (first | omega | (simp; omega))))) (by rw [row_size]; kernel_rfl) (by simp [row_size]) (row_cells _ _ _ rfl) _ (row_over _ _ 8 _ _ (by simp)) ?_) | go_in)
    refine bodyPost_ret (v := .tuple #[.agg (row [] 8 (fun _ => 0)), .int .i64 1]) ?_ ?_ ?_
    · refine results_row_tmp Try.results33 _ _ _ 49 (row [] 8 (fun _ => 0)) (0, 0) _ _ rfl rfl ?_ Try.underlying49 rfl (by simp only [row_size]; kernel_rfl)
      exact (by repeat (first | (with_reducible assumption) | ((with_reducible refine blk_new _ _ _ ?_); focus (simp; done)) | ((with_reducible refine blk_old _ _ _ ?_ ?_); focus (simp; done)) | ((with_reducible refine blk_old _ _ _ ?_ ?_); focus (first | omega | (simp; omega))) | ((with_reducible apply blk_set); focus (simp; done)) | ((with_reducible refine blk_off _ _ _ _ ?_ ?_); focus (simp; done)) | ((with_reducible refine blk_offc _ _ _ _ ?_ ?_); focus (first | (simp; done) | omega | (simp; omega))) | ((with_reducible refine blk_off _ _ _ _ ?_ ?_); focus (first | omega | (simp; omega))) | (with_reducible refine blk_drew _ _ ?_) | ((with_reducible refine blk_below (by assumption) ?_ ?_); focus (simp; done)) | ((with_reducible refine blk_below (by assumption) ?_ ?_); focus (first | omega | (simp; omega)))))
    · rfl
    · exact ⟨rfl, (by repeat (first | (with_reducible assumption) | (with_reducible exact Below.refl _ _) | ((with_reducible refine bel_alloc _ ?_ ?_); focus (first | omega | (simp; done) | (simp; omega))) | ((with_reducible refine bel_row _ ?_ ?_); focus (first | omega | (simp; done) | (simp; omega))) | ((with_reducible refine bel_cell _ ?_ ?_); focus (first | omega | (simp; done) | (simp; omega))) | (with_reducible refine Below.drew ?_) | (with_reducible refine below_wideW _ ?_) | ((with_reducible refine bel_next (by assumption) ?_ ?_); focus (first | omega | (simp; done) | (simp; omega)))))⟩
  · obtain ⟨a, b, rfl, rfl, la, ha, lb, hb, hp, hz0⟩ := plateB_size ho
    have HP := Lib.hid hp
    have b0 : (0 : Int) ≤ b := by omega
    have b9 : (b : Int) < 9 := by omega
    have a0 : (0 : Int) ≤ a := by omega
    have a9 : (a : Int) < 9 := by omega
    obtain ⟨i0, ih, iz0, iz1, iz2⟩ := info_parts Try.info_f32
    have hsr := fun (w : World) (a b : Array Value) (t : TypeId) => setRow_alloc_new w a b t
    clear hp hz0
    go_enter Try.func33, Try.ntmps33
    go_wp2_with (first | (go_at_call 19; (with_reducible refine (implPOk_any a b F _ (by omega) (by omega) (by omega) (by omega)).mono ?_); rintro e w1 ⟨rfl, hb1⟩; have hz1 := hb1.size; (try simp at hz1); obtain ⟨hc1, hf1⟩ := bcell hb1; have hlta : w.heap.size < w1.heap.size := by omega) | ((with_reducible refine at_load 30 ?_); refine wpList_load_part rfl 30 _ rfl _ 0 66 rfl _ _ _ _ (by repeat (first | (with_reducible assumption) | ((with_reducible refine blk_new _ _ _ ?_); focus (simp; done)) | ((with_reducible refine blk_old _ _ _ ?_ ?_); focus (simp; done)) | ((with_reducible refine blk_old _ _ _ ?_ ?_); focus (first | omega | (simp; omega))) | ((with_reducible apply blk_set); focus (simp; done)) | ((with_reducible refine blk_off _ _ _ _ ?_ ?_); focus (simp; done)) | ((with_reducible refine blk_offc _ _ _ _ ?_ ?_); focus (first | (simp; done) | omega | (simp; omega))) | ((with_reducible refine blk_off _ _ _ _ ?_ ?_); focus (first | omega | (simp; omega))) | (with_reducible refine blk_drew _ _ ?_) | ((with_reducible refine blk_below (by assumption) ?_ ?_); focus (simp; done)) | ((with_reducible refine blk_below (by assumption) ?_ ?_); focus (first | omega | (simp; omega))))) Try.underlying30 rfl (by kernel_rfl) (by simp [row_size]) _ (row_all [_, _] 64 _) ?_) | ((with_reducible refine at_load 49 ?_); refine wpList_load_part rfl 49 _ rfl _ 0 8 rfl _ _ _ _ (by repeat (first | (with_reducible assumption) | ((with_reducible refine blk_new _ _ _ ?_); focus (simp; done)) | ((with_reducible refine blk_old _ _ _ ?_ ?_); focus (simp; done)) | ((with_reducible refine blk_old _ _ _ ?_ ?_); focus (first | omega | (simp; omega))) | ((with_reducible apply blk_set); focus (simp; done)) | ((with_reducible refine blk_off _ _ _ _ ?_ ?_); focus (simp; done)) | ((with_reducible refine blk_offc _ _ _ _ ?_ ?_); focus (first | (simp; done) | omega | (simp; omega))) | ((with_reducible refine blk_off _ _ _ _ ?_ ?_); focus (first | omega | (simp; omega))) | (with_reducible refine blk_drew _ _ ?_) | ((with_reducible refine blk_below (by assumption) ?_ ?_); focus (simp; done)) | ((with_reducible refine blk_below (by assumption) ?_ ?_); focus (first | omega | (simp; omega))))) Try.underlying49 rfl (by kernel_rfl) (by simp [row_size]) _ (row_all [] 8 _) ?_) | ((with_reducible refine at_store 49 ?_); refine wpList_store_part rfl 49 _ _ rfl _ 0 _ rfl rfl _ _ (by repeat (first | (with_reducible assumption) | ((with_reducible refine blk_new _ _ _ ?_); focus (simp; done)) | ((with_reducible refine blk_old _ _ _ ?_ ?_); focus (simp; done)) | ((with_reducible refine blk_old _ _ _ ?_ ?_); focus (first | omega | (simp; omega))) | ((with_reducible apply blk_set); focus (simp; done)) | ((with_reducible refine blk_off _ _ _ _ ?_ ?_); focus (simp; done)) | ((with_reducible refine blk_offc _ _ _ _ ?_ ?_); focus (first | (simp; done) | omega | (simp; omega))) | ((with_reducible refine blk_off _ _ _ _ ?_ ?_); focus (first | omega | (simp; omega))) | (with_reducible refine blk_drew _ _ ?_) | ((with_reducible refine blk_below (by assumption) ?_ ?_); focus (simp; done)) | ((with_reducible refine blk_below (by assumption) ?_ ?_); focus (first | omega | (simp; omega))))) (by rw [row_size]; kernel_rfl) (by simp [row_size]) (row_cells _ _ _ rfl) _ (row_over _ _ 8 _ _ (by simp)) ?_) | go_in)
    clear hsr
    generalize hD : w1.heap.size = D at *
    go_loopw [16] (fun i wr => ∃ k : Nat, k ≤ a ∧ i = .int .i64 k ∧ wr.heap[w.heap.size]? = some (.cells (plate a b F) 30 (0, 0)) ∧ wr.heap[w.heap.size + 1]? = some (.cells (row [] 8 (fun _ => 0)) 49 (0, 0)) ∧ wr.heap[D]? = some (.cells (row [] 8 (mix (zoneAt b F) (fun _ => 0) k)) 49 (0, 0)) ∧ Below w.heap.size w wr ∧ D + 1 ≤ wr.heap.size) (fun i _ => 9 - (intOf i).toNat)
    case atStart =>
      subst hD
      exact ⟨0, by omega, rfl, (by repeat (first | (with_reducible assumption) | ((with_reducible refine blk_new _ _ _ ?_); focus (simp; done)) | ((with_reducible refine blk_old _ _ _ ?_ ?_); focus (simp; done)) | ((with_reducible refine blk_old _ _ _ ?_ ?_); focus (first | omega | (simp; omega))) | ((with_reducible apply blk_set); focus (simp; done)) | ((with_reducible refine blk_off _ _ _ _ ?_ ?_); focus (simp; done)) | ((with_reducible refine blk_offc _ _ _ _ ?_ ?_); focus (first | (simp; done) | omega | (simp; omega))) | ((with_reducible refine blk_off _ _ _ _ ?_ ?_); focus (first | omega | (simp; omega))) | (with_reducible refine blk_drew _ _ ?_) | ((with_reducible refine blk_below (by assumption) ?_ ?_); focus (simp; done)) | ((with_reducible refine blk_below (by assumption) ?_ ?_); focus (first | omega | (simp; omega))))), (by repeat (first | (with_reducible assumption) | ((with_reducible refine blk_new _ _ _ ?_); focus (simp; done)) | ((with_reducible refine blk_old _ _ _ ?_ ?_); focus (simp; done)) | ((with_reducible refine blk_old _ _ _ ?_ ?_); focus (first | omega | (simp; omega))) | ((with_reducible apply blk_set); focus (simp; done)) | ((with_reducible refine blk_off _ _ _ _ ?_ ?_); focus (simp; done)) | ((with_reducible refine blk_offc _ _ _ _ ?_ ?_); focus (first | (simp; done) | omega | (simp; omega))) | ((with_reducible refine blk_off _ _ _ _ ?_ ?_); focus (first | omega | (simp; omega))) | (with_reducible refine blk_drew _ _ ?_) | ((with_reducible refine blk_below (by assumption) ?_ ?_); focus (simp; done)) | ((with_reducible refine blk_below (by assumption) ?_ ?_); focus (first | omega | (simp; omega))))), by rw [mix_0]; exact (by repeat (first | (with_reducible assumption) | ((with_reducible refine blk_new _ _ _ ?_); focus (simp; done)) | ((with_reducible refine blk_old _ _ _ ?_ ?_); focus (simp; done)) | ((with_reducible refine blk_old _ _ _ ?_ ?_); focus (first | omega | (simp; omega))) | ((with_reducible apply blk_set); focus (simp; done)) | ((with_reducible refine blk_off _ _ _ _ ?_ ?_); focus (simp; done)) | ((with_reducible refine blk_offc _ _ _ _ ?_ ?_); focus (first | (simp; done) | omega | (simp; omega))) | ((with_reducible refine blk_off _ _ _ _ ?_ ?_); focus (first | omega | (simp; omega))) | (with_reducible refine blk_drew _ _ ?_) | ((with_reducible refine blk_below (by assumption) ?_ ?_); focus (simp; done)) | ((with_reducible refine blk_below (by assumption) ?_ ?_); focus (first | omega | (simp; omega))))), (by repeat (first | (with_reducible assumption) | (with_reducible exact Below.refl _ _) | ((with_reducible refine bel_alloc _ ?_ ?_); focus (first | omega | (simp; done) | (simp; omega))) | ((with_reducible refine bel_row _ ?_ ?_); focus (first | omega | (simp; done) | (simp; omega))) | ((with_reducible refine bel_cell _ ?_ ?_); focus (first | omega | (simp; done) | (simp; omega))) | (with_reducible refine Below.drew ?_) | (with_reducible refine below_wideW _ ?_) | ((with_reducible refine bel_next (by assumption) ?_ ?_); focus (first | omega | (simp; done) | (simp; omega))))), by simp⟩
    case round =>
      obtain ⟨k, hk, rfl, h1, h2, h3, h5, h6⟩ := hrel
      obtain ⟨wo, rfl⟩ : ∃ wo : World, wo = wr := ⟨_, rfl⟩
      clear hb1 hc1 hf1 hD
      have p0 : wo.cell? ⟨w.heap.size, 0, none⟩ = some (.int .i8 a) := (cell_of_row wo _ 0 _ _ _ h1).trans (row_g0 _ _ _ _)
      have p1 : wo.cell? ⟨w.heap.size, 1, none⟩ = some (.int .i8 b) := (cell_of_row wo _ 1 _ _ _ h1).trans (row_g1 _ _ _ _ _)
      have k0 : (0 : Int) ≤ k := by omega
      by_cases hlt : k < a
      · have zf := zone_facts ha lb hb HP.out hlt
        obtain ⟨G, hG⟩ : ∃ G : Nat → Nat, G = fun j => F (k + 8 * j) := ⟨_, rfl⟩
        have hzv : zoneAt b F k = fdiv (sumTo G b) (cvtN b) := by rw [hG]; rfl
        have hGF : ∀ j, G j = F (k + 8 * j) := fun j => by rw [hG]
        have hgf : ∀ j, j < b → filmB (G j) = true := fun j hj => by rw [hG]; exact zf.film j hj
        have hff : Fin32 (sumTo G b) := by rw [hG]; exact zf.fs b (Nat.le_refl _)
        have e9 := fun w => run_fdiv (P := Try.prog) w 23 hff zf.fc zf.nc
        have H1 := Lib.hid h1
        have H2 := Lib.hid h2
        have H3 := Lib.hid h3
        have H5 := Lib.hid h5
        have HGF := Lib.hid hGF
        have HG := Lib.hid hgf
        have HZ := Lib.hid hzv
        have k8 : (k : Int) < 8 := by omega
        have hlto : w.heap.size < wo.heap.size := by omega
        clear h1 h2 h3 h5 zf hG hGF hzv hff hgf
        go_wp2
        go_loopw [6, 23] (fun v i wr => ∃ j : Nat, j ≤ b ∧ i = .int .i64 j ∧ wr.ownsRow (D + 1) 23 1 v j (floatsV G j) ∧ wr.heap[w.heap.size]? = some (.cells (plate a b F) 30 (0, 0)) ∧ wr.heap[w.heap.size + 1]? = some (.cells (row [] 8 (fun _ => 0)) 49 (0, 0)) ∧ wr.heap[D]? = some (.cells (row [] 8 (mix (zoneAt b F) (fun _ => 0) k)) 49 (0, 0)) ∧ Below w.heap.size w wr ∧ D + 1 ≤ wr.heap.size) (fun _ i _ => 9 - (intOf i).toNat)
        case atStart => exact ⟨0, by omega, rfl, World.ownsRow_made _ _ 0 h6 (by simp [maxLen]) (by simp), (Below.heap_alloc _ _ _ (by omega)).trans H1.out, (Below.heap_alloc _ _ _ (by omega)).trans H2.out, (Below.heap_alloc _ _ _ (by omega)).trans H3.out, bel_alloc _ (by omega) H5.out, by simp; omega⟩
        case round =>
          obtain ⟨j, hj, rfl, hown, h1, h2, h3, h5, h7⟩ := hrel
          by_cases hlj : j < b
          · have cf : wr.cell? ⟨w.heap.size, 2 + (k + 8 * j), none⟩ = some (.float .f32 (G j)) := by rw [HGF.out]; exact (cell_of_row wr _ (2 + (k + 8 * j)) _ _ _ h1).trans (row_k2 _ _ _ _ (by omega))
            have N1 := Lib.hid h1
            have N2 := Lib.hid h2
            have N3 := Lib.hid h3
            have N5 := Lib.hid h5
            clear h1 h2 h3 h5
            have hltr : w.heap.size < wr.heap.size := by omega
            have j0 : (0 : Int) ≤ j := by omega
            have j8 : (j : Int) < 8 := by omega
            have t1 : ((k : Int) + 8 * (j : Int)).toNat = k + 8 * j := by omega
            go_wp2_with (first | (at_builtin; refine wpList_append_own _ rfl _ _ 59 rfl (D + 1) 23 i0 (.float .f32 0) 1 4 Try.underlying59 ih iz0 iz1 iz2 rfl (by decide) _ _ _ rfl (hown.alloc _) ⟨wr.heap.size, 0, none⟩ 1 1 [.float .f32 (G j)] rfl rfl ?c1 ?c2 ?c3 ?c4 ?c5 ?_) | go_in)
            case c1 =>
              intro i u hj
              match i, hj with
              | 0, hj => simp at hj; subst hj; simp [Addr.add]
            case c2 => intro u hu; simp at hu; subst hu; rfl
            case c3 => unfold maxLen; omega
            case c4 => omega
            case c5 => simp; omega
            intro v' w3 hown' hgrow _
            have n1 := own_keep hgrow N1.out (own_off hown N1.out (Or.inl (by omega)))
            have n2 := own_keep hgrow N2.out (own_off hown N2.out (Or.inl (by omega)))
            have n3 := own_keep hgrow N3.out (own_off hown N3.out (Or.inl (by omega)))
            have n5 := own_below hown (by omega) (by omega) N5.out hgrow
            have n6 := own_size hgrow
            rw [floatsV_snoc] at hown'
            have M1 := Lib.hid n1
            have M2 := Lib.hid n2
            have M3 := Lib.hid n3
            have M5 := Lib.hid n5
            have NO := Lib.hid hown'
            have n7 : D + 1 ≤ w3.heap.size := by omega
            clear n1 n2 n3 n5 n6 hown' hown hgrow
            go_wp2
            go_roundw
            case rel => exact ⟨j + 1, by omega, by go_num, NO.out, M1.out, M2.out, M3.out, M5.out, n7⟩
            case measure => simp [intOf]; omega
          · have hjn : j = b := by omega
            rw [hjn] at hown
            obtain ⟨g1, c1, hv, hgb, hgl⟩ := own_shape hown (by omega)
            subst hv
            have HO := Lib.hid hown
            have hsum : Calls Try.prog 58 #[.slice (some ⟨g1, 0, none⟩) b c1] wr fun e w' => e = .returned (.float .f32 (sumTo G b)) ∧ wr = w' := sum_any G b g1 0 c1 wr (by omega) HG.out (fun i hi => by rw [Nat.zero_add]; exact (HO.out.cellAt i (by omega)).trans (floatsV_at hi))
            have HS := Lib.hid hsum
            have co : wr.cell? ⟨D, k, none⟩ = some (.float .f32 (mix (zoneAt b F) (fun _ => 0) k k)) := (cell_of_row wr _ k _ _ _ h3).trans (row_k0 _ _ (by omega))
            have ff : wr.frozen? ⟨D, k, none⟩ = false := frozen_of_row wr _ _ _ _ h3
            have N1 := Lib.hid h1
            have N2 := Lib.hid h2
            have N3 := Lib.hid h3
            have N5 := Lib.hid h5
            clear h1 h2 h3 h5 hown hsum hjn
            go_wp2_with (first | (go_at_call 58; (with_reducible refine HS.out.mono ?_); rintro e w' ⟨rfl, rfl⟩) | go_in)
            go_roundw
            case rel => exact ⟨k + 1, by omega, by go_num, put_off (by omega) N1.out, put_off (by omega) N2.out, put_mix0 (by omega) HZ.out.symm N3.out, bel_cell _ (by simp; omega) N5.out, by simp; omega⟩
            case measure => simp [intOf]; omega
      · obtain rfl : k = a := by omega
        have H5 := Lib.hid h5
        have hz5 := h5.size
        have h3' : wo.heap[D]? = some (.cells (row [] 8 (zonesF k b F)) 49 (0, 0)) := h3
        clear h5 h3
        go_wp2_with (first | ((with_reducible refine at_load 49 ?_); refine wpList_load_part rfl 49 _ rfl _ 0 8 rfl _ _ _ _ (by repeat (first | (with_reducible assumption) | ((with_reducible refine blk_new _ _ _ ?_); focus (simp; done)) | ((with_reducible refine blk_old _ _ _ ?_ ?_); focus (simp; done)) | ((with_reducible refine blk_old _ _ _ ?_ ?_); focus (first | omega | (simp; omega))) | ((with_reducible apply blk_set); focus (simp; done)) | ((with_reducible refine blk_off _ _ _ _ ?_ ?_); focus (simp; done)) | ((with_reducible refine blk_offc _ _ _ _ ?_ ?_); focus (first | (simp; done) | omega | (simp; omega))) | ((with_reducible refine blk_off _ _ _ _ ?_ ?_); focus (first | omega | (simp; omega))) | (with_reducible refine blk_drew _ _ ?_) | ((with_reducible refine blk_below (by assumption) ?_ ?_); focus (simp; done)) | ((with_reducible refine blk_below (by assumption) ?_ ?_); focus (first | omega | (simp; omega))))) Try.underlying49 rfl (by kernel_rfl) (by simp [row_size]) _ (row_all [] 8 _) ?_) | ((with_reducible refine at_store 49 ?_); refine wpList_store_part rfl 49 _ _ rfl _ 0 _ rfl rfl _ _ (by repeat (first | (with_reducible assumption) | ((with_reducible refine blk_new _ _ _ ?_); focus (simp; done)) | ((with_reducible refine blk_old _ _ _ ?_ ?_); focus (simp; done)) | ((with_reducible refine blk_old _ _ _ ?_ ?_); focus (first | omega | (simp; omega))) | ((with_reducible apply blk_set); focus (simp; done)) | ((with_reducible refine blk_off _ _ _ _ ?_ ?_); focus (simp; done)) | ((with_reducible refine blk_offc _ _ _ _ ?_ ?_); focus (first | (simp; done) | omega | (simp; omega))) | ((with_reducible refine blk_off _ _ _ _ ?_ ?_); focus (first | omega | (simp; omega))) | (with_reducible refine blk_drew _ _ ?_) | ((with_reducible refine blk_below (by assumption) ?_ ?_); focus (simp; done)) | ((with_reducible refine blk_below (by assumption) ?_ ?_); focus (first | omega | (simp; omega))))) (by rw [row_size]; kernel_rfl) (by simp [row_size]) (row_cells _ _ _ rfl) _ (row_over _ _ 8 _ _ (by simp)) ?_))
        have h5 := H5.out
        refine bodyPost_ret (v := .tuple #[.agg (row [] 8 (zonesF k b F)), .int .i64 0]) ?_ ?_ ?_
        · refine results_row_tmp Try.results33 _ _ _ 49 (row [] 8 (zonesF k b F)) (0, 0) _ _ rfl rfl ?_ Try.underlying49 rfl (by simp only [row_size]; kernel_rfl)
          exact (by repeat (first | (with_reducible assumption) | ((with_reducible refine blk_new _ _ _ ?_); focus (simp; done)) | ((with_reducible refine blk_old _ _ _ ?_ ?_); focus (simp; done)) | ((with_reducible refine blk_old _ _ _ ?_ ?_); focus (first | omega | (simp; omega))) | ((with_reducible apply blk_set); focus (simp; done)) | ((with_reducible refine blk_off _ _ _ _ ?_ ?_); focus (simp; done)) | ((with_reducible refine blk_offc _ _ _ _ ?_ ?_); focus (first | (simp; done) | omega | (simp; omega))) | ((with_reducible refine blk_off _ _ _ _ ?_ ?_); focus (first | omega | (simp; omega))) | (with_reducible refine blk_drew _ _ ?_) | ((with_reducible refine blk_below (by assumption) ?_ ?_); focus (simp; done)) | ((with_reducible refine blk_below (by assumption) ?_ ?_); focus (first | omega | (simp; omega)))))
        · rfl
        · exact ⟨rfl, (by repeat (first | (with_reducible assumption) | (with_reducible exact Below.refl _ _) | ((with_reducible refine bel_alloc _ ?_ ?_); focus (first | omega | (simp; done) | (simp; omega))) | ((with_reducible refine bel_row _ ?_ ?_); focus (first | omega | (simp; done) | (simp; omega))) | ((with_reducible refine bel_cell _ ?_ ?_); focus (first | omega | (simp; done) | (simp; omega))) | (with_reducible refine Below.drew ?_) | (with_reducible refine below_wideW _ ?_) | ((with_reducible refine bel_next (by assumption) ?_ ?_); focus (first | omega | (simp; done) | (simp; omega)))))⟩

set_option maxRecDepth 100000 in
set_option maxHeartbeats 1600000 in
theorem exactZonesOf_any (x y : Int) (F : Nat → Nat) (lx : -128 ≤ x) (ux : x ≤ 127) (ly : -128 ≤ y) (uy : y ≤ 127) (w : World) : Calls Try.prog 10 #[.agg (plate x y F)] w fun e w' => e = .returned (.bool true) ∧ Below w.heap.size w w' := by
  obtain ⟨G, C, hN, hS, hI⟩ : ∃ (G : Nat → Nat) (C : Int), (∀ i, i < 8 → ¬ Flt.NaN single (G i)) ∧ (∀ w : World, Calls Try.prog 32 #[.agg (plate x y F)] w fun e w' => e = .returned (.tuple #[.agg (row [] 8 G), .int .i64 C]) ∧ Below w.heap.size w w') ∧ (∀ w : World, Calls Try.prog 33 #[.agg (plate x y F)] w fun e w' => e = .returned (.tuple #[.agg (row [] 8 G), .int .i64 C]) ∧ Below w.heap.size w w') := by
    have h1 := fun w => specZonesOf_any x y F w lx ux ly uy
    have h2 := fun w => implZonesOf_any x y F w lx ux ly uy
    cases hc : (plateB x y F)
    · rw [hc] at h1 h2
      exact ⟨_, _, fun _ _ => (by decide : ¬ Flt.NaN single 0), h1, h2⟩
    · rw [hc] at h1 h2
      refine ⟨_, _, ?_, h1, h2⟩
      obtain ⟨a, b, rfl, rfl, la, ha, lb, hb, hp, hz0⟩ := plateB_size hc
      exact zones_num ha lb hb hp
  have hz : (#[Value.float FloatKind.f32 0, Value.float FloatKind.f32 0, Value.float FloatKind.f32 0, Value.float FloatKind.f32 0, Value.float FloatKind.f32 0, Value.float FloatKind.f32 0, Value.float FloatKind.f32 0, Value.float FloatKind.f32 0] : Array Value) = row [] 8 (fun _ => 0) := rfl
  go_enter Try.func10, Try.ntmps10
  go_wp2_with (first | ((with_reducible refine at_load 26 ?_); refine wpList_load_part rfl 26 _ rfl _ 0 66 rfl _ _ _ _ (by repeat (first | (with_reducible assumption) | ((with_reducible refine blk_new _ _ _ ?_); focus (simp; done)) | ((with_reducible refine blk_old _ _ _ ?_ ?_); focus (simp; done)) | ((with_reducible refine blk_old _ _ _ ?_ ?_); focus (first | omega | (simp; omega))) | ((with_reducible apply blk_set); focus (simp; done)) | ((with_reducible refine blk_off _ _ _ _ ?_ ?_); focus (simp; done)) | ((with_reducible refine blk_offc _ _ _ _ ?_ ?_); focus (first | (simp; done) | omega | (simp; omega))) | ((with_reducible refine blk_off _ _ _ _ ?_ ?_); focus (first | omega | (simp; omega))) | (with_reducible refine blk_drew _ _ ?_) | ((with_reducible refine blk_below (by assumption) ?_ ?_); focus (simp; done)) | ((with_reducible refine blk_below (by assumption) ?_ ?_); focus (first | omega | (simp; omega))))) Try.underlying26 rfl (by kernel_rfl) (by simp [row_size]) _ (row_all [_, _] 64 _) ?_) | (go_at_call 16; (with_reducible refine (toPlate_any _ _ _ _).mono ?_); rintro e w1 ⟨rfl, hb1⟩; have hz1 := hb1.size; (try simp at hz1); obtain ⟨hc1, hf1⟩ := bcell hb1) | ((with_reducible refine at_load 49 ?_); refine wpList_load_part rfl 49 _ rfl _ 0 8 rfl _ _ _ _ (by repeat (first | (with_reducible assumption) | ((with_reducible refine blk_new _ _ _ ?_); focus (simp; done)) | ((with_reducible refine blk_old _ _ _ ?_ ?_); focus (simp; done)) | ((with_reducible refine blk_old _ _ _ ?_ ?_); focus (first | omega | (simp; omega))) | ((with_reducible apply blk_set); focus (simp; done)) | ((with_reducible refine blk_off _ _ _ _ ?_ ?_); focus (simp; done)) | ((with_reducible refine blk_offc _ _ _ _ ?_ ?_); focus (first | (simp; done) | omega | (simp; omega))) | ((with_reducible refine blk_off _ _ _ _ ?_ ?_); focus (first | omega | (simp; omega))) | (with_reducible refine blk_drew _ _ ?_) | ((with_reducible refine blk_below (by assumption) ?_ ?_); focus (simp; done)) | ((with_reducible refine blk_below (by assumption) ?_ ?_); focus (first | omega | (simp; omega))))) Try.underlying49 rfl (by kernel_rfl) (by simp [row_size]) _ (row_all [] 8 _) ?_) | ((with_reducible refine at_store 49 ?_); refine wpList_store_part rfl 49 _ _ rfl _ 0 _ rfl rfl _ _ (by repeat (first | (with_reducible assumption) | ((with_reducible refine blk_new _ _ _ ?_); focus (simp; done)) | ((with_reducible refine blk_old _ _ _ ?_ ?_); focus (simp; done)) | ((with_reducible refine blk_old _ _ _ ?_ ?_); focus (first | omega | (simp; omega))) | ((with_reducible apply blk_set); focus (simp; done)) | ((with_reducible refine blk_off _ _ _ _ ?_ ?_); focus (simp; done)) | ((with_reducible refine blk_offc _ _ _ _ ?_ ?_); focus (first | (simp; done) | omega | (simp; omega))) | ((with_reducible refine blk_off _ _ _ _ ?_ ?_); focus (first | omega | (simp; omega))) | (with_reducible refine blk_drew _ _ ?_) | ((with_reducible refine blk_below (by assumption) ?_ ?_); focus (simp; done)) | ((with_reducible refine blk_below (by assumption) ?_ ?_); focus (first | omega | (simp; omega))))) (by rw [row_size]; kernel_rfl) (by simp [row_size]) (row_cells _ _ _ rfl) _ (row_over _ _ 8 _ _ (by simp)) ?_) | (go_at_call 32; (with_reducible refine (hS _).mono ?_); rintro e w2 ⟨rfl, hb2⟩; have hz2 := hb2.size; (try simp at hz2); obtain ⟨hc2, hf2⟩ := bcell hb2) | (go_at_call 33; (with_reducible refine (hI _).mono ?_); rintro e w3 ⟨rfl, hb3⟩; have hz3 := hb3.size; (try simp at hz3); obtain ⟨hc3, hf3⟩ := bcell hb3) | (go_at_call 34; (with_reducible refine (eqZones_self G _ hN).mono ?_); rintro e w4 ⟨rfl, hb4⟩; have hz4 := hb4.size; (try simp at hz4); obtain ⟨hc4, hf4⟩ := bcell hb4) | go_in)
  go_ret
  exact ⟨by simp, (by repeat (first | (with_reducible assumption) | (with_reducible exact Below.refl _ _) | ((with_reducible refine bel_alloc _ ?_ ?_); focus (first | omega | (simp; done) | (simp; omega))) | ((with_reducible refine bel_row _ ?_ ?_); focus (first | omega | (simp; done) | (simp; omega))) | ((with_reducible refine bel_cell _ ?_ ?_); focus (first | omega | (simp; done) | (simp; omega))) | (with_reducible refine Below.drew ?_) | (with_reducible refine below_wideW _ ?_) | ((with_reducible refine bel_next (by assumption) ?_ ?_); focus (first | omega | (simp; done) | (simp; omega)))))⟩
end Go.Proofs.Ythgodmnalojnaaa
