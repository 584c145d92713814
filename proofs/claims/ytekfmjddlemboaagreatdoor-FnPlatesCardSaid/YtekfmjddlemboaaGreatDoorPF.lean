/- Parts of a proof, merged; each under its own premises. -/
import Derived.Test.YtekfmjddlemboaaGreatDoorPE
import Derived.Test.YtekfmjddlemboaaGreatDoorPB

/-! Contracts of ZonesOf, the reference's and the program's, and the law on it. -/
set_option linter.unusedVariables false
set_option linter.unusedSimpArgs false
namespace Go.Proofs.YtekfmjddlemboaaGreatDoor
open Go.RowKit Ieee

/-- The mean of a column. -/
def zoneAt (b : Nat) (F : Nat → Nat) (c : Nat) : Nat := fdiv (sumTo (fun k => F (c + 8 * k)) b) (cvtN b)
def zonesF (a b : Nat) (F : Nat → Nat) : Nat → Nat := mix (zoneAt b F) (fun _ => 0) a
theorem put_mix0 {w : World} {g : Nat} {n : Nat} {F G : Nat → Nat} {t : TypeId} {k v : Nat} (hk : k < n) (hv : v = G k) (h : w.heap[g]? = some (.cells (row [] n (mix G F k)) t (0, 0))) :
    (w.setCell ⟨g, k, none⟩ (.float .f32 v)).heap[g]? = some (.cells (row [] n (mix G F (k + 1))) t (0, 0)) := by
  subst hv
  have := put_mix (pre := []) hk h
  simpa using this
structure ZoneFacts (a b : Nat) (F : Nat → Nat) (c : Nat) : Prop where
  film : ∀ k, k < b → filmB (F (c + 8 * k)) = true
  fs : ∀ k, k ≤ b → Fin32 (sumTo (fun k => F (c + 8 * k)) k)
  fc : Fin32 (cvtN b)
  nc : Z32 (cvtN b) ≠ 0
theorem zone_facts {a b : Nat} {F : Nat → Nat} (ha : a < 9) (lb : 1 ≤ b) (hb : b < 9) (hp : ∀ i, i < 64 → isC a b i = true → partB (F i) = true) {c : Nat} (hc : c < a) : ZoneFacts a b F c := by
  have hf : ∀ k, k < b → filmB (F (c + 8 * k)) = true := fun k hk => part_film (hp _ (by omega) (cell_xy (by omega) hc hk))
  exact ⟨hf, fun k hk => (sumTo_facts (by omega) hf k hk).1, cvtN_fin b (by omega), cvtN_ne (by omega) (by omega)⟩
set_option maxRecDepth 100000 in
set_option maxHeartbeats 1600000 in
theorem specZones_any (a b : Nat) (F : Nat → Nat) (w : World) (ha : a < 9) (lb : 1 ≤ b) (hb : b < 9) (hp : ∀ i, i < 64 → isC a b i = true → partB (F i) = true) (B : Nat) (hBw : B < w.heap.size) (hB : w.heap[B]? = some (.cells (plate a b F) 29 (0, 0))) :
    Calls Tryz.prog 48 #[.pointer (some ⟨B, 0, none⟩)] w fun e w' => e = .returned (.agg (row [] 8 (zonesF a b F))) ∧ Below w.heap.size w w' := by
  have hz : (#[Value.float FloatKind.f32 0, Value.float FloatKind.f32 0, Value.float FloatKind.f32 0, Value.float FloatKind.f32 0, Value.float FloatKind.f32 0, Value.float FloatKind.f32 0, Value.float FloatKind.f32 0, Value.float FloatKind.f32 0] : Array Value) = row [] 8 (fun _ => 0) := rfl
  have HP := Lib.hid hp
  have HB := Lib.hid hB
  have HBW := Lib.hid hBw
  have b0 : (0 : Int) ≤ b := by omega
  have b9 : (b : Int) < 9 := by omega
  have a0 : (0 : Int) ≤ a := by omega
  have a9 : (a : Int) < 9 := by omega
  clear hp hB hBw
  go_enter Tryz.func48, Tryz.ntmps48
  go_wp2_with (first | ((with_reducible refine at_load 36 ?_); refine wpList_load_part rfl 36 _ rfl _ 0 8 rfl _ _ _ _ (by repeat (first | (with_reducible assumption) | ((with_reducible refine blk_new _ _ _ ?_); focus (simp; done)) | ((with_reducible refine blk_old _ _ _ ?_ ?_); focus (simp; done)) | ((with_reducible refine blk_old _ _ _ ?_ ?_); focus (first | omega | (simp; omega))) | ((with_reducible apply blk_set); focus (simp; done)) | ((with_reducible refine blk_off _ _ _ _ ?_ ?_); focus (simp; done)) | ((with_reducible refine blk_offc _ _ _ _ ?_ ?_); focus (first | (simp; done) | omega | (simp; omega))) | ((with_reducible refine blk_off _ _ _ _ ?_ ?_); focus (first | omega | (simp; omega))) | (with_reducible refine blk_drew _ _ ?_) | ((with_reducible refine blk_below (by assumption) ?_ ?_); focus (simp; done)) | ((with_reducible refine blk_below (by assumption) ?_ ?_); focus (first | omega | (simp; omega))))) Tryz.underlying36 rfl (by kernel_rfl) (by simp [row_size]) _ (row_all [] 8 _) ?_) | ((with_reducible refine at_store 36 ?_); refine wpList_store_part rfl 36 _ _ rfl _ 0 _ rfl rfl _ _ (by repeat (first | (with_reducible assumption) | ((with_reducible refine blk_new _ _ _ ?_); focus (simp; done)) | ((with_reducible refine blk_old _ _ _ ?_ ?_); focus (simp; done)) | ((with_reducible refine blk_old _ _ _ ?_ ?_); focus (first | omega | (simp; omega))) | ((with_reducible apply blk_set); focus (simp; done)) | ((with_reducible refine blk_off _ _ _ _ ?_ ?_); focus (simp; done)) | ((with_reducible refine blk_offc _ _ _ _ ?_ ?_); focus (first | (simp; done) | omega | (simp; omega))) | ((with_reducible refine blk_off _ _ _ _ ?_ ?_); focus (first | omega | (simp; omega))) | (with_reducible refine blk_drew _ _ ?_) | ((with_reducible refine blk_below (by assumption) ?_ ?_); focus (simp; done)) | ((with_reducible refine blk_below (by assumption) ?_ ?_); focus (first | omega | (simp; omega))))) (by rw [row_size]; kernel_rfl) (by simp [row_size]) (row_cells _ _ _ rfl) _ (row_over _ _ 8 _ _ (by simp)) ?_))
  go_loopw [4] (fun i wr => ∃ k : Nat, k ≤ a ∧ i = .int .i64 k ∧ wr.heap[w.heap.size]? = some (.cells (row [] 8 (fun _ => 0)) 36 (0, 0)) ∧ wr.heap[w.heap.size + 1]? = some (.cells (row [] 8 (mix (zoneAt b F) (fun _ => 0) k)) 36 (0, 0)) ∧ Below w.heap.size w wr) (fun i _ => 9 - (intOf i).toNat)
  case atStart => exact ⟨0, by omega, rfl, (by repeat (first | (with_reducible assumption) | ((with_reducible refine blk_new _ _ _ ?_); focus (simp; done)) | ((with_reducible refine blk_old _ _ _ ?_ ?_); focus (simp; done)) | ((with_reducible refine blk_old _ _ _ ?_ ?_); focus (first | omega | (simp; omega))) | ((with_reducible apply blk_set); focus (simp; done)) | ((with_reducible refine blk_off _ _ _ _ ?_ ?_); focus (simp; done)) | ((with_reducible refine blk_offc _ _ _ _ ?_ ?_); focus (first | (simp; done) | omega | (simp; omega))) | ((with_reducible refine blk_off _ _ _ _ ?_ ?_); focus (first | omega | (simp; omega))) | (with_reducible refine blk_drew _ _ ?_) | ((with_reducible refine blk_below (by assumption) ?_ ?_); focus (simp; done)) | ((with_reducible refine blk_below (by assumption) ?_ ?_); focus (first | omega | (simp; omega))))), by rw [mix_0]; exact (by repeat (first | (with_reducible assumption) | ((with_reducible refine blk_new _ _ _ ?_); focus (simp; done)) | ((with_reducible refine blk_old _ _ _ ?_ ?_); focus (simp; done)) | ((with_reducible refine blk_old _ _ _ ?_ ?_); focus (first | omega | (simp; omega))) | ((with_reducible apply blk_set); focus (simp; done)) | ((with_reducible refine blk_off _ _ _ _ ?_ ?_); focus (simp; done)) | ((with_reducible refine blk_offc _ _ _ _ ?_ ?_); focus (first | (simp; done) | omega | (simp; omega))) | ((with_reducible refine blk_off _ _ _ _ ?_ ?_); focus (first | omega | (simp; omega))) | (with_reducible refine blk_drew _ _ ?_) | ((with_reducible refine blk_below (by assumption) ?_ ?_); focus (simp; done)) | ((with_reducible refine blk_below (by assumption) ?_ ?_); focus (first | omega | (simp; omega))))), (by repeat (first | (with_reducible assumption) | (with_reducible exact Below.refl _ _) | ((with_reducible refine bel_alloc _ ?_ ?_); focus (first | omega | (simp; done) | (simp; omega))) | ((with_reducible refine bel_row _ ?_ ?_); focus (first | omega | (simp; done) | (simp; omega))) | ((with_reducible refine bel_cell _ ?_ ?_); focus (first | omega | (simp; done) | (simp; omega))) | (with_reducible refine Below.drew ?_) | (with_reducible refine below_wideW _ ?_) | ((with_reducible refine bel_next (by assumption) ?_ ?_); focus (first | omega | (simp; done) | (simp; omega)))))⟩
  case round =>
    obtain ⟨k, hk, rfl, h1, h2, h5⟩ := hrel
    obtain ⟨wo, rfl⟩ : ∃ wo : World, wo = wr := ⟨_, rfl⟩
    have hP : wo.heap[B]? = some (.cells (plate a b F) 29 (0, 0)) := (h5.block B HBW.out).trans HB.out
    have p0 : wo.cell? ⟨B, 0, none⟩ = some (.int .i8 a) := (cell_of_row wo _ 0 _ _ _ hP).trans (row_g0 _ _ _ _)
    have p1 : wo.cell? ⟨B, 1, none⟩ = some (.int .i8 b) := (cell_of_row wo _ 1 _ _ _ hP).trans (row_g1 _ _ _ _ _)
    have k0 : (0 : Int) ≤ k := by omega
    by_cases hlt : k < a
    · have co : wo.cell? ⟨w.heap.size + 1, k, none⟩ = some (.float .f32 (mix (zoneAt b F) (fun _ => 0) k k)) := (cell_of_row wo _ k _ _ _ h2).trans (row_k0 _ _ (by omega))
      have ff : wo.frozen? ⟨w.heap.size + 1, k, none⟩ = false := frozen_of_row wo _ _ _ _ h2
      have hcs : ∀ j, j < b → wo.cell? ⟨B, 2 + (k + 8 * j), none⟩ = some (.float .f32 (F (k + 8 * j))) := fun j hj => (cell_of_row wo _ (2 + (k + 8 * j)) _ _ _ hP).trans (row_k2 _ _ _ _ (by omega))
      have cf0 : wo.cell? ⟨B, 2 + k, none⟩ = some (.float .f32 (F k)) := by have := hcs 0 (by omega); simpa using this
      have zf := zone_facts ha lb hb HP.out hlt
      obtain ⟨G, hG⟩ : ∃ G : Nat → Nat, G = fun j => F (k + 8 * j) := ⟨_, rfl⟩
      have hG0 : G 0 = F k := by rw [hG]; simp
      have hzv : zoneAt b F k = fdiv (sumTo G b) (cvtN b) := by rw [hG]; rfl
      have hcs' : ∀ j, j < b → wo.cell? ⟨B, 2 + (k + 8 * j), none⟩ = some (.float .f32 (G j)) := fun j hj => by rw [hG]; exact hcs j hj
      have hff : ∀ j, j ≤ b → Fin32 (sumTo G j) := fun j hj => by rw [hG]; exact zf.fs j hj
      have hgf : ∀ j, j < b → filmB (G j) = true := fun j hj => by rw [hG]; exact zf.film j hj
      have e9 := fun w => run_fdiv (P := Tryz.prog) w 25 (hff b (Nat.le_refl _)) zf.fc zf.nc
      rw [← hG0] at cf0
      have H1 := Lib.hid h1
      have H2 := Lib.hid h2
      have H5 := Lib.hid h5
      have HC := Lib.hid hcs'
      have HF := Lib.hid hff
      have HG := Lib.hid hgf
      have HZ := Lib.hid hzv
      have k8 : (k : Int) < 8 := by omega
      clear h1 h2 h5 hP hcs hcs' zf hG hG0 hzv hff hgf
      go_wp2
      go_loop [5, 6] (fun v i => ∃ j : Nat, 1 ≤ j ∧ j ≤ b ∧ i = .int .i64 j ∧ v = .float .f32 (sumTo G j)) (fun _ i => 9 - (intOf i).toNat)
      case atStart => exact ⟨1, by omega, lb, rfl, rfl⟩
      case round =>
        obtain ⟨j, j1, hj, rfl, rfl⟩ := hrel
        by_cases hlj : j < b
        · have cj := HC.out j hlj
          have e1 := fun w => run_fadd (P := Tryz.prog) w 25 (HF.out j hj) (film_fin (HG.out j hlj))
          have j0 : (0 : Int) ≤ j := by omega
          have j8 : (j : Int) < 8 := by omega
          have t1 : ((k : Int) + 8 * (j : Int)).toNat = k + 8 * j := by omega
          go_wp2
          go_round
          case rel => exact ⟨j + 1, by omega, by omega, by go_num, by rw [sumTo_step G j1]⟩
          case measure => simp [intOf]; omega
        · obtain rfl : j = b := by omega
          go_wp2
          go_roundw
          case rel => exact ⟨k + 1, by omega, by go_num, put_off (by omega) H1.out, put_mix0 (by omega) HZ.out.symm H2.out, bel_cell _ (by simp) H5.out⟩
          case measure => simp [intOf]; omega
    · obtain rfl : k = a := by omega
      have H5 := Lib.hid h5
      have hz5 := h5.size
      clear h5 hP
      go_wp2_with (first | ((with_reducible refine at_load 36 ?_); refine wpList_load_part rfl 36 _ rfl _ 0 8 rfl _ _ _ _ (by repeat (first | (with_reducible assumption) | ((with_reducible refine blk_new _ _ _ ?_); focus (simp; done)) | ((with_reducible refine blk_old _ _ _ ?_ ?_); focus (simp; done)) | ((with_reducible refine blk_old _ _ _ ?_ ?_); focus (first | omega | (simp; omega))) | ((with_reducible apply blk_set); focus (simp; done)) | ((with_reducible refine blk_off _ _ _ _ ?_ ?_); focus (simp; done)) | ((with_reducible refine blk_offc _ _ _ _ ?_ ?_); focus (first | (simp; done) | omega | (simp; omega))) | ((with_reducible refine blk_off _ _ _ _ ?_ ?_); focus (first | omega | (simp; omega))) | (with_reducible refine blk_drew _ _ ?_) | ((with_reducible refine blk_below (by assumption) ?_ ?_); focus (simp; done)) | ((with_reducible refine blk_below (by assumption) ?_ ?_); focus (first | omega | (simp; omega))))) Tryz.underlying36 rfl (by kernel_rfl) (by simp [row_size]) _ (row_all [] 8 _) ?_) | ((with_reducible refine at_store 36 ?_); refine wpList_store_part rfl 36 _ _ rfl _ 0 _ rfl rfl _ _ (by repeat (first | (with_reducible assumption) | ((with_reducible refine blk_new _ _ _ ?_); focus (simp; done)) | ((with_reducible refine blk_old _ _ _ ?_ ?_); focus (simp; done)) | ((with_reducible refine blk_old _ _ _ ?_ ?_); focus (first | omega | (simp; omega))) | ((with_reducible apply blk_set); focus (simp; done)) | ((with_reducible refine blk_off _ _ _ _ ?_ ?_); focus (simp; done)) | ((with_reducible refine blk_offc _ _ _ _ ?_ ?_); focus (first | (simp; done) | omega | (simp; omega))) | ((with_reducible refine blk_off _ _ _ _ ?_ ?_); focus (first | omega | (simp; omega))) | (with_reducible refine blk_drew _ _ ?_) | ((with_reducible refine blk_below (by assumption) ?_ ?_); focus (simp; done)) | ((with_reducible refine blk_below (by assumption) ?_ ?_); focus (first | omega | (simp; omega))))) (by rw [row_size]; kernel_rfl) (by simp [row_size]) (row_cells _ _ _ rfl) _ (row_over _ _ 8 _ _ (by simp)) ?_))
      have h5 := H5.out
      refine bodyPost_ret (v := .agg (row [] 8 (zonesF k b F))) ?_ ?_ ?_
      · refine results_cell_row Tryz.results48 _ _ _ 36 (row [] 8 (zonesF k b F)) (0, 0) _ rfl ?_ Tryz.underlying36 rfl (by simp only [row_size]; kernel_rfl)
        unfold zonesF
        exact (by repeat (first | (with_reducible assumption) | ((with_reducible refine blk_new _ _ _ ?_); focus (simp; done)) | ((with_reducible refine blk_old _ _ _ ?_ ?_); focus (simp; done)) | ((with_reducible refine blk_old _ _ _ ?_ ?_); focus (first | omega | (simp; omega))) | ((with_reducible apply blk_set); focus (simp; done)) | ((with_reducible refine blk_off _ _ _ _ ?_ ?_); focus (simp; done)) | ((with_reducible refine blk_offc _ _ _ _ ?_ ?_); focus (first | (simp; done) | omega | (simp; omega))) | ((with_reducible refine blk_off _ _ _ _ ?_ ?_); focus (first | omega | (simp; omega))) | (with_reducible refine blk_drew _ _ ?_) | ((with_reducible refine blk_below (by assumption) ?_ ?_); focus (simp; done)) | ((with_reducible refine blk_below (by assumption) ?_ ?_); focus (first | omega | (simp; omega)))))
      · rfl
      · exact ⟨rfl, (by repeat (first | (with_reducible assumption) | (with_reducible exact Below.refl _ _) | ((with_reducible refine bel_alloc _ ?_ ?_); focus (first | omega | (simp; done) | (simp; omega))) | ((with_reducible refine bel_row _ ?_ ?_); focus (first | omega | (simp; done) | (simp; omega))) | ((with_reducible refine bel_cell _ ?_ ?_); focus (first | omega | (simp; done) | (simp; omega))) | (with_reducible refine Below.drew ?_) | (with_reducible refine below_wideW _ ?_) | ((with_reducible refine bel_next (by assumption) ?_ ?_); focus (first | omega | (simp; done) | (simp; omega)))))⟩

set_option maxRecDepth 100000 in
set_option maxHeartbeats 1600000 in
theorem specZonesOf_any (x y : Int) (F : Nat → Nat) (w : World) (lx : -128 ≤ x) (ux : x ≤ 127) (ly : -128 ≤ y) (uy : y ≤ 127) : Calls Tryz.prog 11 #[.agg (plate x y F)] w fun e w' => e = .returned (.tuple #[.agg (if plateB x y F then row [] 8 (zonesF x.toNat y.toNat F) else row [] 8 (fun _ => 0)), .int .i64 (if plateB x y F then 0 else 1)]) ∧ Below w.heap.size w w' := by
  have hz : (#[Value.float FloatKind.f32 0, Value.float FloatKind.f32 0, Value.float FloatKind.f32 0, Value.float FloatKind.f32 0, Value.float FloatKind.f32 0, Value.float FloatKind.f32 0, Value.float FloatKind.f32 0, Value.float FloatKind.f32 0] : Array Value) = row [] 8 (fun _ => 0) := rfl
  cases ho : plateB x y F
  · go_enter Tryz.func11, Tryz.ntmps11
    go_wp2_with (first | (go_at_call 45; (with_reducible refine (specPOk_any x y F _ lx ux ly uy _ ?_).mono ?_); (focus (repeat (first | (with_reducible assumption) | ((with_reducible refine blk_new _ _ _ ?_); focus (simp; done)) | ((with_reducible refine blk_old _ _ _ ?_ ?_); focus (simp; done)) | ((with_reducible refine blk_old _ _ _ ?_ ?_); focus (first | omega | (simp; omega))) | ((with_reducible apply blk_set); focus (simp; done)) | ((with_reducible refine blk_off _ _ _ _ ?_ ?_); focus (simp; done)) | ((with_reducible refine blk_offc _ _ _ _ ?_ ?_); focus (first | (simp; done) | omega | (simp; omega))) | ((with_reducible refine blk_off _ _ _ _ ?_ ?_); focus (first | omega | (simp; omega))) | (with_reducible refine blk_drew _ _ ?_) | ((with_reducible refine blk_below (by assumption) ?_ ?_); focus (simp; done)) | ((with_reducible refine blk_below (by assumption) ?_ ?_); focus (first | omega | (simp; omega)))))); rintro e w' ⟨rfl, rfl⟩) | ((with_reducible refine at_load 36 ?_); refine wpList_load_part rfl 36 _ rfl _ 0 8 rfl _ _ _ _ (by repeat (first | (with_reducible assumption) | ((with_reducible refine blk_new _ _ _ ?_); focus (simp; done)) | ((with_reducible refine blk_old _ _ _ ?_ ?_); focus (simp; done)) | ((with_reducible refine blk_old _ _ _ ?_ ?_); focus (first | omega | (simp; omega))) | ((with_reducible apply blk_set); focus (simp; done)) | ((with_reducible refine blk_off _ _ _ _ ?_ ?_); focus (simp; done)) | ((with_reducible refine blk_offc _ _ _ _ ?_ ?_); focus (first | (simp; done) | omega | (simp; omega))) | ((with_reducible refine blk_off _ _ _ _ ?_ ?_); focus (first | omega | (simp; omega))) | (with_reducible refine blk_drew _ _ ?_) | ((with_reducible refine blk_below (by assumption) ?_ ?_); focus (simp; done)) | ((with_reducible refine blk_below (by assumption) ?_ ?_); focus (first | omega | (simp; omega))))) Tryz.underlying36 rfl (by kernel_rfl) (by simp [row_size]) _ (row_all [] 8 _) ?_) | ((with_reducible refine at_store 36 ?_); refine wpList_store_part rfl 36 _ _ rfl _ 0 _ rfl rfl _ _ (by repeat (first | (with_reducible assumption) | ((with_reducible refine blk_new _ _ _ ?_); focus (simp; done)) | ((with_reducible refine blk_old _ _ _ ?_ ?_); focus (simp; done)) | ((with_reducible refine blk_old _ _ _ ?_ ?_); focus (first | omega | (simp; omega))) | ((with_reducible apply blk_set); focus (simp; done)) | ((with_reducible refine blk_off _ _ _ _ ?_ ?_); focus (simp; done)) | ((with_reducible refine blk_offc _ _ _ _ ?_ ?_); focus (first | (simp; done) | omega | (simp; omega))) | ((with_reducible refine blk_off _ _ _ _ ?_ ?_); focus (first | omega | (simp; omega))) | (with_reducible refine blk_drew _ _ ?_) | ((with_reducible refine blk_below (by assumption) ?_ ?_); focus (simp; done)) | ((with_reducible refine blk_below (by assumption) ?_ ?_); focus (first | omega | (simp; omega))))) (by rw [row_size]; kernel_rfl) (by simp [row_size]) (row_cells _ _ _ rfl) _ (row_over _ _ 8 _ _ (by simp)) ?_) | go_in)
    refine bodyPost_ret (v := .tuple #[.agg (row [] 8 (fun _ => 0)), .int .i64 1]) ?_ ?_ ?_
    · refine results_row_tmp Tryz.results11 _ _ _ 36 (row [] 8 (fun _ => 0)) (0, 0) _ _ rfl rfl ?_ Tryz.underlying36 rfl (by simp only [row_size]; kernel_rfl)
      exact (by repeat (first | (with_reducible assumption) | ((with_reducible refine blk_new _ _ _ ?_); focus (simp; done)) | ((with_reducible refine blk_old _ _ _ ?_ ?_); focus (simp; done)) | ((with_reducible refine blk_old _ _ _ ?_ ?_); focus (first | omega | (simp; omega))) | ((with_reducible apply blk_set); focus (simp; done)) | ((with_reducible refine blk_off _ _ _ _ ?_ ?_); focus (simp; done)) | ((with_reducible refine blk_offc _ _ _ _ ?_ ?_); focus (first | (simp; done) | omega | (simp; omega))) | ((with_reducible refine blk_off _ _ _ _ ?_ ?_); focus (first | omega | (simp; omega))) | (with_reducible refine blk_drew _ _ ?_) | ((with_reducible refine blk_below (by assumption) ?_ ?_); focus (simp; done)) | ((with_reducible refine blk_below (by assumption) ?_ ?_); focus (first | omega | (simp; omega)))))
    · rfl
    · exact ⟨rfl, (by repeat (first | (with_reducible assumption) | (with_reducible exact Below.refl _ _) | ((with_reducible refine bel_alloc _ ?_ ?_); focus (first | omega | (simp; done) | (simp; omega))) | ((with_reducible refine bel_row _ ?_ ?_); focus (first | omega | (simp; done) | (simp; omega))) | ((with_reducible refine bel_cell _ ?_ ?_); focus (first | omega | (simp; done) | (simp; omega))) | (with_reducible refine Below.drew ?_) | (with_reducible refine below_wideW _ ?_) | ((with_reducible refine bel_next (by assumption) ?_ ?_); focus (first | omega | (simp; done) | (simp; omega)))))⟩
  · obtain ⟨a, b, rfl, rfl, la, ha, lb, hb, hp, hz0⟩ := plateB_size ho
    have HP := Lib.hid hp
    clear hp hz0
    go_enter Tryz.func11, Tryz.ntmps11
    go_wp2_with (first | (go_at_call 45; (with_reducible refine (specPOk_any a b F _ (by omega) (by omega) (by omega) (by omega) _ ?_).mono ?_); (focus (repeat (first | (with_reducible assumption) | ((with_reducible refine blk_new _ _ _ ?_); focus (simp; done)) | ((with_reducible refine blk_old _ _ _ ?_ ?_); focus (simp; done)) | ((with_reducible refine blk_old _ _ _ ?_ ?_); focus (first | omega | (simp; omega))) | ((with_reducible apply blk_set); focus (simp; done)) | ((with_reducible refine blk_off _ _ _ _ ?_ ?_); focus (simp; done)) | ((with_reducible refine blk_offc _ _ _ _ ?_ ?_); focus (first | (simp; done) | omega | (simp; omega))) | ((with_reducible refine blk_off _ _ _ _ ?_ ?_); focus (first | omega | (simp; omega))) | (with_reducible refine blk_drew _ _ ?_) | ((with_reducible refine blk_below (by assumption) ?_ ?_); focus (simp; done)) | ((with_reducible refine blk_below (by assumption) ?_ ?_); focus (first | omega | (simp; omega)))))); rintro e w' ⟨rfl, rfl⟩) | (go_at_call 48; (with_reducible refine (specZones_any a b F _ ha lb hb HP.out w.heap.size ?_ ?_).mono ?_); (focus (first | (simp; done) | (simp; omega))); (focus (repeat (first | (with_reducible assumption) | ((with_reducible refine blk_new _ _ _ ?_); focus (simp; done)) | ((with_reducible refine blk_old _ _ _ ?_ ?_); focus (simp; done)) | ((with_reducible refine blk_old _ _ _ ?_ ?_); focus (first | omega | (simp; omega))) | ((with_reducible apply blk_set); focus (simp; done)) | ((with_reducible refine blk_off _ _ _ _ ?_ ?_); focus (simp; done)) | ((with_reducible refine blk_offc _ _ _ _ ?_ ?_); focus (first | (simp; done) | omega | (simp; omega))) | ((with_reducible refine blk_off _ _ _ _ ?_ ?_); focus (first | omega | (simp; omega))) | (with_reducible refine blk_drew _ _ ?_) | ((with_reducible refine blk_below (by assumption) ?_ ?_); focus (simp; done)) | ((with_reducible refine blk_below (by assumption) ?_ ?_); focus (first | omega | (simp; omega)))))); rintro e w2 ⟨rfl, hb2⟩; have hz2 := hb2.size; (try simp at hz2)) | ((with_reducible refine at_load 36 ?_); refine wpList_load_part rfl 36 _ rfl _ 0 8 rfl _ _ _ _ (by repeat (first | (with_reducible assumption) | ((with_reducible refine blk_new _ _ _ ?_); focus (simp; done)) | ((with_reducible refine blk_old _ _ _ ?_ ?_); focus (simp; done)) | ((with_reducible refine blk_old _ _ _ ?_ ?_); focus (first | omega | (simp; omega))) | ((with_reducible apply blk_set); focus (simp; done)) | ((with_reducible refine blk_off _ _ _ _ ?_ ?_); focus (simp; done)) | ((with_reducible refine blk_offc _ _ _ _ ?_ ?_); focus (first | (simp; done) | omega | (simp; omega))) | ((with_reducible refine blk_off _ _ _ _ ?_ ?_); focus (first | omega | (simp; omega))) | (with_reducible refine blk_drew _ _ ?_) | ((with_reducible refine blk_below (by assumption) ?_ ?_); focus (simp; done)) | ((with_reducible refine blk_below (by assumption) ?_ ?_); focus (first | omega | (simp; omega))))) Tryz.underlying36 rfl (by kernel_rfl) (by simp [row_size]) _ (row_all [] 8 _) ?_) | ((with_reducible refine at_store 36 ?_); refine wpList_store_part rfl 36 _ _ rfl _ 0 _ rfl rfl _ _ (by repeat (first | (with_reducible assumption) | ((with_reducible refine blk_new _ _ _ ?_); focus (simp; done)) | ((with_reducible refine blk_old _ _ _ ?_ ?_); focus (simp; done)) | ((with_reducible refine blk_old _ _ _ ?_ ?_); focus (first | omega | (simp; omega))) | ((with_reducible apply blk_set); focus (simp; done)) | ((with_reducible refine blk_off _ _ _ _ ?_ ?_); focus (simp; done)) | ((with_reducible refine blk_offc _ _ _ _ ?_ ?_); focus (first | (simp; done) | omega | (simp; omega))) | ((with_reducible refine blk_off _ _ _ _ ?_ ?_); focus (first | omega | (simp; omega))) | (with_reducible refine blk_drew _ _ ?_) | ((with_reducible refine blk_below (by assumption) ?_ ?_); focus (simp; done)) | ((with_reducible refine blk_below (by assumption) ?_ ?_); focus (first | omega | (simp; omega))))) (by rw [row_size]; kernel_rfl) (by simp [row_size]) (row_cells _ _ _ rfl) _ (row_over _ _ 8 _ _ (by simp)) ?_) | go_in)
    refine bodyPost_ret (v := .tuple #[.agg (row [] 8 (zonesF a b F)), .int .i64 0]) ?_ ?_ ?_
    · refine results_row_tmp Tryz.results11 _ _ _ 36 (row [] 8 (zonesF a b F)) (0, 0) _ _ rfl rfl ?_ Tryz.underlying36 rfl (by simp only [row_size]; kernel_rfl)
      exact (by repeat (first | (with_reducible assumption) | ((with_reducible refine blk_new _ _ _ ?_); focus (simp; done)) | ((with_reducible refine blk_old _ _ _ ?_ ?_); focus (simp; done)) | ((with_reducible refine blk_old _ _ _ ?_ ?_); focus (first | omega | (simp; omega))) | ((with_reducible apply blk_set); focus (simp; done)) | ((with_reducible refine blk_off _ _ _ _ ?_ ?_); focus (simp; done)) | ((with_reducible refine blk_offc _ _ _ _ ?_ ?_); focus (first | (simp; done) | omega | (simp; omega))) | ((with_reducible refine blk_off _ _ _ _ ?_ ?_); focus (first | omega | (simp; omega))) | (with_reducible refine blk_drew _ _ ?_) | ((with_reducible refine blk_below (by assumption) ?_ ?_); focus (simp; done)) | ((with_reducible refine blk_below (by assumption) ?_ ?_); focus (first | omega | (simp; omega)))))
    · rfl
    · exact ⟨rfl, (by repeat (first | (with_reducible assumption) | (with_reducible exact Below.refl _ _) | ((with_reducible refine bel_alloc _ ?_ ?_); focus (first | omega | (simp; done) | (simp; omega))) | ((with_reducible refine bel_row _ ?_ ?_); focus (first | omega | (simp; done) | (simp; omega))) | ((with_reducible refine bel_cell _ ?_ ?_); focus (first | omega | (simp; done) | (simp; omega))) | (with_reducible refine Below.drew ?_) | (with_reducible refine below_wideW _ ?_) | ((with_reducible refine bel_next (by assumption) ?_ ?_); focus (first | omega | (simp; done) | (simp; omega)))))⟩

set_option maxRecDepth 100000 in
set_option maxHeartbeats 3200000 in
theorem implZonesOf_any (x y : Int) (F : Nat → Nat) (w : World) (lx : -128 ≤ x) (ux : x ≤ 127) (ly : -128 ≤ y) (uy : y ≤ 127) : Calls Tryz.prog 10 #[.agg (plate x y F)] w fun e w' => e = .returned (.tuple #[.agg (if plateB x y F then row [] 8 (zonesF x.toNat y.toNat F) else row [] 8 (fun _ => 0)), .int .i64 (if plateB x y F then 0 else 1)]) ∧ Below w.heap.size w w' := by
  have hz : (#[Value.float FloatKind.f32 0, Value.float FloatKind.f32 0, Value.float FloatKind.f32 0, Value.float FloatKind.f32 0, Value.float FloatKind.f32 0, Value.float FloatKind.f32 0, Value.float FloatKind.f32 0, Value.float FloatKind.f32 0] : Array Value) = row [] 8 (fun _ => 0) := rfl
  cases ho : plateB x y F
  · go_enter Tryz.func10, Tryz.ntmps10
    go_wp2_with (first | (go_at_call 16; (with_reducible refine (implPOk_any x y F _ lx ux ly uy).mono ?_); rintro e w1 ⟨rfl, hb1⟩; have hz1 := hb1.size; (try simp at hz1); obtain ⟨hc1, hf1⟩ := bcell hb1) | ((with_reducible refine at_load 29 ?_); refine wpList_load_part rfl 29 _ rfl _ 0 66 rfl _ _ _ _ (by repeat (first | (with_reducible assumption) | ((with_reducible refine blk_new _ _ _ ?_); focus (simp; done)) | ((with_reducible refine blk_old _ _ _ ?_ ?_); focus (simp; done)) | ((with_reducible refine blk_old _ _ _ ?_ ?_); focus (first | omega | (simp; omega))) | ((with_reducible apply blk_set); focus (simp; done)) | ((with_reducible refine blk_off _ _ _ _ ?_ ?_); focus (simp; done)) | ((with_reducible refine blk_offc _ _ _ _ ?_ ?_); focus (first | (simp; done) | omega | (simp; omega))) | ((with_reducible refine blk_off _ _ _ _ ?_ ?_); focus (first | omega | (simp; omega))) | (with_reducible refine blk_drew _ _ ?_) | ((with_reducible refine blk_below (by assumption) ?_ ?_); focus (simp; done)) | ((with_reducible refine blk_below (by assumption) ?_ ?_); focus (first | omega | (simp; omega))))) Tryz.underlying29 rfl (by kernel_rfl) (by simp [row_size]) _ (row_all [_, _] 64 _) ?_) | ((with_reducible refine at_load 36 ?_); refine wpList_load_part rfl 36 _ rfl _ 0 8 rfl _ _ _ _ (by repeat (first | (with_reducible assumption) | ((with_reducible refine blk_new _ _ _ ?_); focus (simp; done)) | ((with_reducible refine blk_old _ _ _ ?_ ?_); focus (simp; done)) | ((with_reducible refine blk_old _ _ _ ?_ ?_); focus (first | omega | (simp; omega))) | ((with_reducible apply blk_set); focus (simp; done)) | ((with_reducible refine blk_off _ _ _ _ ?_ ?_); focus (simp; done)) | ((with_reducible refine blk_offc _ _ _ _ ?_ ?_); focus (first | (simp; done) | omega | (simp; omega))) | ((with_reducible refine blk_off _ _ _ _ ?_ ?_); focus (first | omega | (simp; omega))) | (with_reducible refine blk_drew _ _ ?_) | ((with_reducible refine blk_below (by assumption) ?_ ?_); focus (simp; done)) | ((with_reducible refine blk_below (by assumption) ?_ ?_); focus (first | omega | (simp; omega))))) Tryz.underlying36 rfl (by kernel_rfl) (by simp [row_size]) _ (row_all [] 8 _) ?_) | ((with_reducible refine at_store 36 ?_); refine wpList_store_part rfl 36 _ _ rfl _ 0 _ rfl rfl _ _ (by repeat (first | (with_reducible assumption) | ((with_reducible refine blk_new _ _ _ ?_); focus (simp; done)) | ((with_reducible refine blk_old _ _ _ ?_ ?_); focus (simp; done)) | ((with_reducible refine blk_old _ _ _ ?_ ?_); focus (first | omega | (simp; omega))) | ((with_reducible apply blk_set); focus (simp; done)) | ((with_reducible refine blk_off _ _ _ _ ?_ ?_); focus (simp; done)) | ((with_reducible refine blk_offc _ _ _ _ ?_ ?_); focus (first | (simp; done) | omega | (simp; omega))) | ((with_reducible refine blk_off _ _ _ _ ?_ ?_); focus (first | omega | (simp; omega))) | (with_reducible refine blk_drew _ _ ?_) | ((with_reducible refine blk_below (by assumption) ?_ ?_); focus (simp; done)) | ((with_reducible refine blk_below (by assumption) ?_ ?_); focus (first | omega | (simp; omega))))) (by rw [row_size]; kernel_rfl) (by simp [row_size]) (row_cells _ _ _ rfl) _ (row_over _ _ 8 _ _ (by simp)) ?_) | go_in)
    refine bodyPost_ret (v := .tuple #[.agg (row [] 8 (fun _ => 0)), .int .i64 1]) ?_ ?_ ?_
    · refine results_row_tmp Tryz.results10 _ _ _ 36 (row [] 8 (fun _ => 0)) (0, 0) _ _ rfl rfl ?_ Tryz.underlying36 rfl (by simp only [row_size]; kernel_rfl)
      exact (by repeat (first | (with_reducible assumption) | ((with_reducible refine blk_new _ _ _ ?_); focus (simp; done)) | ((with_reducible refine blk_old _ _ _ ?_ ?_); focus (simp; done)) | ((with_reducible refine blk_old _ _ _ ?_ ?_); focus (first | omega | (simp; omega))) | ((with_reducible apply blk_set); focus (simp; done)) | ((with_reducible refine blk_off _ _ _ _ ?_ ?_); focus (simp; done)) | ((with_reducible refine blk_offc _ _ _ _ ?_ ?_); focus (first | (simp; done) | omega | (simp; omega))) | ((with_reducible refine blk_off _ _ _ _ ?_ ?_); focus (first | omega | (simp; omega))) | (with_reducible refine blk_drew _ _ ?_) | ((with_reducible refine blk_below (by assumption) ?_ ?_); focus (simp; done)) | ((with_reducible refine blk_below (by assumption) ?_ ?_); focus (first | omega | (simp; omega)))))
    · rfl
    · exact ⟨rfl, (by repeat (first | (with_reducible assumption) | (with_reducible exact Below.refl _ _) | ((with_reducible refine bel_alloc _ ?_ ?_); focus (first | omega | (simp; done) | (simp; omega))) | ((with_reducible refine bel_row _ ?_ ?_); focus (first | omega | (simp; done) | (simp; omega))) | ((with_reducible refine bel_cell _ ?_ ?_); focus (first | omega | (simp; done) | (simp; omega))) | (with_reducible refine Below.drew ?_) | (with_reducible refine below_wideW _ ?_) | ((with_reducible refine bel_next (by assumption) ?_ ?_); focus (first | omega | (simp; done) | (simp; omega)))))⟩
  · obtain ⟨a, b, rfl, rfl, la, ha, lb, hb, hp, hz0⟩ := plateB_size ho
    have HP := Lib.hid hp
    have b0 : (0 : Int) ≤ b := by omega
    have b9 : (b : Int) < 9 := by omega
    have a0 : (0 : Int) ≤ a := by omega
    have a9 : (a : Int) < 9 := by omega
    obtain ⟨i0, ih, iz0, iz1, iz2⟩ := info_parts Tryz.info_f32
    have hsr := fun (w : World) (a b : Array Value) (t : TypeId) => setRow_alloc_new w a b t
    clear hp hz0
    go_enter Tryz.func10, Tryz.ntmps10
    go_wp2_with (first | (go_at_call 16; (with_reducible refine (implPOk_any a b F _ (by omega) (by omega) (by omega) (by omega)).mono ?_); rintro e w1 ⟨rfl, hb1⟩; have hz1 := hb1.size; (try simp at hz1); obtain ⟨hc1, hf1⟩ := bcell hb1; have hlta : w.heap.size < w1.heap.size := by omega) | ((with_reducible refine at_load 29 ?_); refine wpList_load_part rfl 29 _ rfl _ 0 66 rfl _ _ _ _ (by repeat (first | (with_reducible assumption) | ((with_reducible refine blk_new _ _ _ ?_); focus (simp; done)) | ((with_reducible refine blk_old _ _ _ ?_ ?_); focus (simp; done)) | ((with_reducible refine blk_old _ _ _ ?_ ?_); focus (first | omega | (simp; omega))) | ((with_reducible apply blk_set); focus (simp; done)) | ((with_reducible refine blk_off _ _ _ _ ?_ ?_); focus (simp; done)) | ((with_reducible refine blk_offc _ _ _ _ ?_ ?_); focus (first | (simp; done) | omega | (simp; omega))) | ((with_reducible refine blk_off _ _ _ _ ?_ ?_); focus (first | omega | (simp; omega))) | (with_reducible refine blk_drew _ _ ?_) | ((with_reducible refine blk_below (by assumption) ?_ ?_); focus (simp; done)) | ((with_reducible refine blk_below (by assumption) ?_ ?_); focus (first | omega | (simp; omega))))) Tryz.underlying29 rfl (by kernel_rfl) (by simp [row_size]) _ (row_all [_, _] 64 _) ?_) | ((with_reducible refine at_load 36 ?_); refine wpList_load_part rfl 36 _ rfl _ 0 8 rfl _ _ _ _ (by repeat (first | (with_reducible assumption) | ((with_reducible refine blk_new _ _ _ ?_); focus (simp; done)) | ((with_reducible refine blk_old _ _ _ ?_ ?_); focus (simp; done)) | ((with_reducible refine blk_old _ _ _ ?_ ?_); focus (first | omega | (simp; omega))) | ((with_reducible apply blk_set); focus (simp; done)) | ((with_reducible refine blk_off _ _ _ _ ?_ ?_); focus (simp; done)) | ((with_reducible refine blk_offc _ _ _ _ ?_ ?_); focus (first | (simp; done) | omega | (simp; omega))) | ((with_reducible refine blk_off _ _ _ _ ?_ ?_); focus (first | omega | (simp; omega))) | (with_reducible refine blk_drew _ _ ?_) | ((with_reducible refine blk_below (by assumption) ?_ ?_); focus (simp; done)) | ((with_reducible refine blk_below (by assumption) ?_ ?_); focus (first | omega | (simp; omega))))) Tryz.underlying36 rfl (by kernel_rfl) (by simp [row_size]) _ (row_all [] 8 _) ?_) | ((with_reducible refine at_store 36 ?_); refine wpList_store_part rfl 36 _ _ rfl _ 0 _ rfl rfl _ _ (by repeat (first | (with_reducible assumption) | ((with_reducible refine blk_new _ _ _ ?_); focus (simp; done)) | ((with_reducible refine blk_old _ _ _ ?_ ?_); focus (simp; done)) | ((with_reducible refine blk_old _ _ _ ?_ ?_); focus (first | omega | (simp; omega))) | ((with_reducible apply blk_set); focus (simp; done)) | ((with_reducible refine blk_off _ _ _ _ ?_ ?_); focus (simp; done)) | ((with_reducible refine blk_offc _ _ _ _ ?_ ?_); focus (first | (simp; done) | omega | (simp; omega))) | ((with_reducible refine blk_off _ _ _ _ ?_ ?_); focus (first | omega | (simp; omega))) | (with_reducible refine blk_drew _ _ ?_) | ((with_reducible refine blk_below (by assumption) ?_ ?_); focus (simp; done)) | ((with_reducible refine blk_below (by assumption) ?_ ?_); focus (first | omega | (simp; omega))))) (by rw [row_size]; kernel_rfl) (by simp [row_size]) (row_cells _ _ _ rfl) _ (row_over _ _ 8 _ _ (by simp)) ?_) | go_in)
    clear hsr
    generalize hD : w1.heap.size = D at *
    go_loopw [16] (fun i wr => ∃ k : Nat, k ≤ a ∧ i = .int .i64 k ∧ wr.heap[w.heap.size]? = some (.cells (plate a b F) 29 (0, 0)) ∧ wr.heap[w.heap.size + 1]? = some (.cells (row [] 8 (fun _ => 0)) 36 (0, 0)) ∧ wr.heap[D]? = some (.cells (row [] 8 (mix (zoneAt b F) (fun _ => 0) k)) 36 (0, 0)) ∧ Below w.heap.size w wr ∧ D + 1 ≤ wr.heap.size) (fun i _ => 9 - (intOf i).toNat)
    case atStart =>
      subst hD
      exact ⟨0, by omega, rfl, (by repeat (first | (with_reducible assumption) | ((with_reducible refine blk_new _ _ _ ?_); focus (simp; done)) | ((with_reducible refine blk_old _ _ _ ?_ ?_); focus (simp; done)) | ((with_reducible refine blk_old _ _ _ ?_ ?_); focus (first | omega | (simp; omega))) | ((with_reducible apply blk_set); focus (simp; done)) | ((with_reducible refine blk_off _ _ _ _ ?_ ?_); focus (simp; done)) | ((with_reducible refine blk_offc _ _ _ _ ?_ ?_); focus (first | (simp; done) | omega | (simp; omega))) | ((with_reducible refine blk_off _ _ _ _ ?_ ?_); focus (first | omega | (simp; omega))) | (with_reducible refine blk_drew _ _ ?_) | ((with_reducible refine blk_below (by assumption) ?_ ?_); focus (simp; done)) | ((with_reducible refine blk_below (by assumption) ?_ ?_); focus (first | omega | (simp; omega))))), (by repeat (first | (with_reducible assumption) | ((with_reducible refine blk_new _ _ _ ?_); focus (simp; done)) | ((with_reducible refine blk_old _ _ _ ?_ ?_); focus (simp; done)) | ((with_reducible refine blk_old _ _ _ ?_ ?_); focus (first | omega | (simp; omega))) | ((with_reducible apply blk_set); focus (simp; done)) | ((with_reducible refine blk_off _ _ _ _ ?_ ?_); focus (simp; done)) | ((with_reducible refine blk_offc _ _ _ _ ?_ ?_); focus (first | (simp; done) | omega | (simp; omega))) | ((with_reducible refine blk_off _ _ _ _ ?_ ?_); focus (first | omega | (simp; omega))) | (with_reducible refine blk_drew _ _ ?_) | ((with_reducible refine blk_below (by assumption) ?_ ?_); focus (simp; done)) | ((with_reducible refine blk_below (by assumption) ?_ ?_); focus (first | omega | (simp; omega))))), by rw [mix_0]; exact (by repeat (first | (with_reducible assumption) | ((with_reducible refine blk_new _ _ _ ?_); focus (simp; done)) | ((with_reducible refine blk_old _ _ _ ?_ ?_); focus (simp; done)) | ((with_reducible refine blk_old _ _ _ ?_ ?_); focus (first | omega | (simp; omega))) | ((with_reducible apply blk_set); focus (simp; done)) | ((with_reducible refine blk_off _ _ _ _ ?_ ?_); focus (simp; done)) | ((with_reducible refine blk_offc _ _ _ _ ?_ ?_); focus (first | (simp; done) | omega | (simp; omega))) | ((with_reducible refine blk_off _ _ _ _ ?_ ?_); focus (first | omega | (simp; omega))) | (with_reducible refine blk_drew _ _ ?_) | ((with_reducible refine blk_below (by assumption) ?_ ?_); focus (simp; done)) | ((with_reducible refine blk_below (by assumption) ?_ ?_); focus (first | omega | (simp; omega))))), (by repeat (first | (with_reducible assumption) | (with_reducible exact Below.refl _ _) | ((with_reducible refine bel_alloc _ ?_ ?_); focus (first | omega | (simp; done) | (simp; omega))) | ((with_reducible refine bel_row _ ?_ ?_); focus (first | omega | (simp; done) | (simp; omega))) | ((with_reducible refine bel_cell _ ?_ ?_); focus (first | omega | (simp; done) | (simp; omega))) | (with_reducible refine Below.drew ?_) | (with_reducible refine below_wideW _ ?_) | ((with_reducible refine bel_next (by assumption) ?_ ?_); focus (first | omega | (simp; done) | (simp; omega))))), by simp⟩
    case round =>
      obtain ⟨k, hk, rfl, h1, h2, h3, h5, h6⟩ := hrel
      obtain ⟨wo, rfl⟩ : ∃ wo : World, wo = wr := ⟨_, rfl⟩
      clear hb1 hc1 hf1 hD
      have p0 : wo.cell? ⟨w.heap.size, 0, none⟩ = some (.int .i8 a) := (cell_of_row wo _ 0 _ _ _ h1).trans (row_g0 _ _ _ _)
      have p1 : wo.cell? ⟨w.heap.size, 1, none⟩ = some (.int .i8 b) := (cell_of_row wo _ 1 _ _ _ h1).trans (row_g1 _ _ _ _ _)
      have k0 : (0 : Int) ≤ k := by omega
      by_cases hlt : k < a
      · have zf := zone_facts ha lb hb HP.out hlt
        obtain ⟨G, hG⟩ : ∃ G : Nat → Nat, G = fun j => F (k + 8 * j) := ⟨_, rfl⟩
        have hzv : zoneAt b F k = fdiv (sumTo G b) (cvtN b) := by rw [hG]; rfl
        have hGF : ∀ j, G j = F (k + 8 * j) := fun j => by rw [hG]
        have hgf : ∀ j, j < b → filmB (G j) = true := fun j hj => by rw [hG]; exact zf.film j hj
        have hff : Fin32 (sumTo G b) := by rw [hG]; exact zf.fs b (Nat.le_refl _)
        have e9 := fun w => run_fdiv (P := Tryz.prog) w 25 hff zf.fc zf.nc
        have H1 := Lib.hid h1
        have H2 := Lib.hid h2
        have H3 := Lib.hid h3
        have H5 := Lib.hid h5
        have HGF := Lib.hid hGF
        have HG := Lib.hid hgf
        have HZ := Lib.hid hzv
        have k8 : (k : Int) < 8 := by omega
        have hlto : w.heap.size < wo.heap.size := by omega
        clear h1 h2 h3 h5 zf hG hGF hzv hff hgf
        go_wp2
        go_loopw [6, 23] (fun v i wr => ∃ j : Nat, j ≤ b ∧ i = .int .i64 j ∧ wr.ownsRow (D + 1) 25 1 v j (floatsV G j) ∧ wr.heap[w.heap.size]? = some (.cells (plate a b F) 29 (0, 0)) ∧ wr.heap[w.heap.size + 1]? = some (.cells (row [] 8 (fun _ => 0)) 36 (0, 0)) ∧ wr.heap[D]? = some (.cells (row [] 8 (mix (zoneAt b F) (fun _ => 0) k)) 36 (0, 0)) ∧ Below w.heap.size w wr ∧ D + 1 ≤ wr.heap.size) (fun _ i _ => 9 - (intOf i).toNat)
        case atStart => exact ⟨0, by omega, rfl, World.ownsRow_made _ _ 0 h6 (by simp [maxLen]) (by simp), (Below.heap_alloc _ _ _ (by omega)).trans H1.out, (Below.heap_alloc _ _ _ (by omega)).trans H2.out, (Below.heap_alloc _ _ _ (by omega)).trans H3.out, bel_alloc _ (by omega) H5.out, by simp; omega⟩
        case round =>
          obtain ⟨j, hj, rfl, hown, h1, h2, h3, h5, h7⟩ := hrel
          by_cases hlj : j < b
          · have cf : wr.cell? ⟨w.heap.size, 2 + (k + 8 * j), none⟩ = some (.float .f32 (G j)) := by rw [HGF.out]; exact (cell_of_row wr _ (2 + (k + 8 * j)) _ _ _ h1).trans (row_k2 _ _ _ _ (by omega))
            have N1 := Lib.hid h1
            have N2 := Lib.hid h2
            have N3 := Lib.hid h3
            have N5 := Lib.hid h5
            clear h1 h2 h3 h5
            have hltr : w.heap.size < wr.heap.size := by omega
            have j0 : (0 : Int) ≤ j := by omega
            have j8 : (j : Int) < 8 := by omega
            have t1 : ((k : Int) + 8 * (j : Int)).toNat = k + 8 * j := by omega
            go_wp2_with (first | (at_builtin; refine wpList_append_own _ rfl _ _ 64 rfl (D + 1) 25 i0 (.float .f32 0) 1 4 Tryz.underlying64 ih iz0 iz1 iz2 rfl (by decide) _ _ _ rfl (hown.alloc _) ⟨wr.heap.size, 0, none⟩ 1 1 [.float .f32 (G j)] rfl rfl ?c1 ?c2 ?c3 ?c4 ?c5 ?_) | go_in)
            case c1 =>
              intro i u hj
              match i, hj with
              | 0, hj => simp at hj; subst hj; simp [Addr.add]
            case c2 => intro u hu; simp at hu; subst hu; rfl
            case c3 => unfold maxLen; omega
            case c4 => omega
            case c5 => simp; omega
            intro v' w3 hown' hgrow _
            have n1 := own_keep hgrow N1.out (own_off hown N1.out (Or.inl (by omega)))
            have n2 := own_keep hgrow N2.out (own_off hown N2.out (Or.inl (by omega)))
            have n3 := own_keep hgrow N3.out (own_off hown N3.out (Or.inl (by omega)))
            have n5 := own_below hown (by omega) (by omega) N5.out hgrow
            have n6 := own_size hgrow
            rw [floatsV_snoc] at hown'
            have M1 := Lib.hid n1
            have M2 := Lib.hid n2
            have M3 := Lib.hid n3
            have M5 := Lib.hid n5
            have NO := Lib.hid hown'
            have n7 : D + 1 ≤ w3.heap.size := by omega
            clear n1 n2 n3 n5 n6 hown' hown hgrow
            go_wp2
            go_roundw
            case rel => exact ⟨j + 1, by omega, by go_num, NO.out, M1.out, M2.out, M3.out, M5.out, n7⟩
            case measure => simp [intOf]; omega
          · have hjn : j = b := by omega
            rw [hjn] at hown
            obtain ⟨g1, c1, hv, hgb, hgl⟩ := own_shape hown (by omega)
            subst hv
            have HO := Lib.hid hown
            have hsum : Calls Tryz.prog 47 #[.slice (some ⟨g1, 0, none⟩) b c1] wr fun e w' => e = .returned (.float .f32 (sumTo G b)) ∧ wr = w' := sum_any G b g1 0 c1 wr (by omega) HG.out (fun i hi => by rw [Nat.zero_add]; exact (HO.out.cellAt i (by omega)).trans (floatsV_at hi))
            have HS := Lib.hid hsum
            have co : wr.cell? ⟨D, k, none⟩ = some (.float .f32 (mix (zoneAt b F) (fun _ => 0) k k)) := (cell_of_row wr _ k _ _ _ h3).trans (row_k0 _ _ (by omega))
            have ff : wr.frozen? ⟨D, k, none⟩ = false := frozen_of_row wr _ _ _ _ h3
            have N1 := Lib.hid h1
            have N2 := Lib.hid h2
            have N3 := Lib.hid h3
            have N5 := Lib.hid h5
            clear h1 h2 h3 h5 hown hsum hjn
            go_wp2_with (first | (go_at_call 47; (with_reducible refine HS.out.mono ?_); rintro e w' ⟨rfl, rfl⟩) | go_in)
            go_roundw
            case rel => exact ⟨k + 1, by omega, by go_num, put_off (by omega) N1.out, put_off (by omega) N2.out, put_mix0 (by omega) HZ.out.symm N3.out, bel_cell _ (by simp; omega) N5.out, by simp; omega⟩
            case measure => simp [intOf]; omega
      · obtain rfl : k = a := by omega
        have H5 := Lib.hid h5
        have hz5 := h5.size
        have h3' : wo.heap[D]? = some (.cells (row [] 8 (zonesF k b F)) 36 (0, 0)) := h3
        clear h5 h3
        go_wp2_with (first | ((with_reducible refine at_load 36 ?_); refine wpList_load_part rfl 36 _ rfl _ 0 8 rfl _ _ _ _ (by repeat (first | (with_reducible assumption) | ((with_reducible refine blk_new _ _ _ ?_); focus (simp; done)) | ((with_reducible refine blk_old _ _ _ ?_ ?_); focus (simp; done)) | ((with_reducible refine blk_old _ _ _ ?_ ?_); focus (first | omega | (simp; omega))) | ((with_reducible apply blk_set); focus (simp; done)) | ((with_reducible refine blk_off _ _ _ _ ?_ ?_); focus (simp; done)) | ((with_reducible refine blk_offc _ _ _ _ ?_ ?_); focus (first | (simp; done) | omega | (simp; omega))) | ((with_reducible refine blk_off _ _ _ _ ?_ ?_); focus (first | omega | (simp; omega))) | (with_reducible refine blk_drew _ _ ?_) | ((with_reducible refine blk_below (by assumption) ?_ ?_); focus (simp; done)) | ((with_reducible refine blk_below (by assumption) ?_ ?_); focus (first | omega | (simp; omega))))) Tryz.underlying36 rfl (by kernel_rfl) (by simp [row_size]) _ (row_all [] 8 _) ?_) | ((with_reducible refine at_store 36 ?_); refine wpList_store_part rfl 36 _ _ rfl _ 0 _ rfl rfl _ _ (by repeat (first | (with_reducible assumption) | ((with_reducible refine blk_new _ _ _ ?_); focus (simp; done)) | ((with_reducible refine blk_old _ _ _ ?_ ?_); focus (simp; done)) | ((with_reducible refine blk_old _ _ _ ?_ ?_); focus (first | omega | (simp; omega))) | ((with_reducible apply blk_set); focus (simp; done)) | ((with_reducible refine blk_off _ _ _ _ ?_ ?_); focus (simp; done)) | ((with_reducible refine blk_offc _ _ _ _ ?_ ?_); focus (first | (simp; done) | omega | (simp; omega))) | ((with_reducible refine blk_off _ _ _ _ ?_ ?_); focus (first | omega | (simp; omega))) | (with_reducible refine blk_drew _ _ ?_) | ((with_reducible refine blk_below (by assumption) ?_ ?_); focus (simp; done)) | ((with_reducible refine blk_below (by assumption) ?_ ?_); focus (first | omega | (simp; omega))))) (by rw [row_size]; kernel_rfl) (by simp [row_size]) (row_cells _ _ _ rfl) _ (row_over _ _ 8 _ _ (by simp)) ?_))
        have h5 := H5.out
        refine bodyPost_ret (v := .tuple #[.agg (row [] 8 (zonesF k b F)), .int .i64 0]) ?_ ?_ ?_
        · refine results_row_tmp Tryz.results10 _ _ _ 36 (row [] 8 (zonesF k b F)) (0, 0) _ _ rfl rfl ?_ Tryz.underlying36 rfl (by simp only [row_size]; kernel_rfl)
          exact (by repeat (first | (with_reducible assumption) | ((with_reducible refine blk_new _ _ _ ?_); focus (simp; done)) | ((with_reducible refine blk_old _ _ _ ?_ ?_); focus (simp; done)) | ((with_reducible refine blk_old _ _ _ ?_ ?_); focus (first | omega | (simp; omega))) | ((with_reducible apply blk_set); focus (simp; done)) | ((with_reducible refine blk_off _ _ _ _ ?_ ?_); focus (simp; done)) | ((with_reducible refine blk_offc _ _ _ _ ?_ ?_); focus (first | (simp; done) | omega | (simp; omega))) | ((with_reducible refine blk_off _ _ _ _ ?_ ?_); focus (first | omega | (simp; omega))) | (with_reducible refine blk_drew _ _ ?_) | ((with_reducible refine blk_below (by assumption) ?_ ?_); focus (simp; done)) | ((with_reducible refine blk_below (by assumption) ?_ ?_); focus (first | omega | (simp; omega)))))
        · rfl
        · exact ⟨rfl, (by repeat (first | (with_reducible assumption) | (with_reducible exact Below.refl _ _) | ((with_reducible refine bel_alloc _ ?_ ?_); focus (first | omega | (simp; done) | (simp; omega))) | ((with_reducible refine bel_row _ ?_ ?_); focus (first | omega | (simp; done) | (simp; omega))) | ((with_reducible refine bel_cell _ ?_ ?_); focus (first | omega | (simp; done) | (simp; omega))) | (with_reducible refine Below.drew ?_) | (with_reducible refine below_wideW _ ?_) | ((with_reducible refine bel_next (by assumption) ?_ ?_); focus (first | omega | (simp; done) | (simp; omega)))))⟩

end Go.Proofs.YtekfmjddlemboaaGreatDoor

/-! Contracts of DarkestCell, the reference's and the program's, and the law on it. -/
set_option linter.unusedVariables false
set_option linter.unusedSimpArgs false
namespace Go.Proofs.YtekfmjddlemboaaGreatDoor
open Go.RowKit Ieee

theorem cnt_mono (a b : Nat) {i j : Nat} (h : i ≤ j) : cntC a b i ≤ cntC a b j := by
  induction j with
  | zero => have : i = 0 := by omega
            subst this; exact Nat.le_refl _
  | succ j ih =>
    by_cases e : i = j + 1
    · subst e; exact Nat.le_refl _
    · exact Nat.le_trans (ih (by omega)) (by simp [cntC])
/-- The darkest of the first k cells. -/
def darkK (F : Nat → Nat) (a : Nat) : Nat → Nat
  | 0 => 0
  | k + 1 => if FloatKind.f32.format.order (F (cellAt a k)) (F (darkK F a k)) == some .gt then cellAt a k else darkK F a k
theorem dark_lt {a b : Nat} (F : Nat → Nat) (ha : a < 9) (hb : b < 9) : ∀ k, k ≤ a * b → darkK F a k < 64
  | 0, _ => by simp [darkK]
  | k + 1, h => by
    have h64 := (cells_all a ha b hb).2
    unfold darkK
    split
    · exact (cells_of a ha b hb k (by omega) (by omega)).1
    · exact dark_lt F ha hb k (by omega)
theorem dark_turn {F : Nat → Nat} {a k i : Nat} (hi : cellAt a k = i) (h : (FloatKind.f32.format.order (F i) (F (darkK F a k)) == some .gt) = true) : darkK F a (k + 1) = i := by
  subst hi; rw [darkK, h]; simp
theorem dark_keep {F : Nat → Nat} {a k i : Nat} (hi : cellAt a k = i) (h : (FloatKind.f32.format.order (F i) (F (darkK F a k)) == some .gt) = false) : darkK F a (k + 1) = darkK F a k := by
  subst hi; rw [darkK, h]; simp
theorem dark_1 {F : Nat → Nat} {a : Nat} (h : ¬ Flt.NaN single (F 0)) : darkK F a 1 = 0 := by
  have e : cellAt a 0 = 0 := by simp [cellAt]
  rw [darkK, e, show darkK F a 0 = 0 from rfl, order_self .f32 h]
  simp
def darkI (x y : Int) (F : Nat → Nat) : Int := if plateB x y F then ((darkK F x.toNat (x.toNat * y.toNat) : Nat) : Int) else 0
def darkF (x y : Int) (F : Nat → Nat) : Nat := if plateB x y F then F (darkK F x.toNat (x.toNat * y.toNat)) else 0
set_option maxRecDepth 100000 in
set_option maxHeartbeats 1600000 in
theorem implDark_any (x y : Int) (F : Nat → Nat) (w : World) (lx : -128 ≤ x) (ux : x ≤ 127) (ly : -128 ≤ y) (uy : y ≤ 127) : Calls Tryz.prog 26 #[.agg (plate x y F)] w fun e w' => e = .returned (.tuple #[.int .i64 (darkI x y F), .float .f32 (darkF x y F), .int .i64 (codeV (plateB x y F))]) ∧ Below w.heap.size w w' := by
  unfold darkI darkF
  cases ho : plateB x y F
  · go_enter Tryz.func26, Tryz.ntmps26
    go_wp2_with (first | (go_at_call 16; (with_reducible refine (implPOk_any x y F _ lx ux ly uy).mono ?_); rintro e w1 ⟨rfl, hb1⟩; have hz1 := hb1.size; (try simp at hz1); obtain ⟨hc1, hf1⟩ := bcell hb1) | ((with_reducible refine at_load 29 ?_); refine wpList_load_part rfl 29 _ rfl _ 0 66 rfl _ _ _ _ (by repeat (first | (with_reducible assumption) | ((with_reducible refine blk_new _ _ _ ?_); focus (simp; done)) | ((with_reducible refine blk_old _ _ _ ?_ ?_); focus (simp; done)) | ((with_reducible refine blk_old _ _ _ ?_ ?_); focus (first | omega | (simp; omega))) | ((with_reducible apply blk_set); focus (simp; done)) | ((with_reducible refine blk_off _ _ _ _ ?_ ?_); focus (simp; done)) | ((with_reducible refine blk_offc _ _ _ _ ?_ ?_); focus (first | (simp; done) | omega | (simp; omega))) | ((with_reducible refine blk_off _ _ _ _ ?_ ?_); focus (first | omega | (simp; omega))) | (with_reducible refine blk_drew _ _ ?_) | ((with_reducible refine blk_below (by assumption) ?_ ?_); focus (simp; done)) | ((with_reducible refine blk_below (by assumption) ?_ ?_); focus (first | omega | (simp; omega))))) Tryz.underlying29 rfl (by kernel_rfl) (by simp [row_size]) _ (row_all [_, _] 64 _) ?_) | go_in)
    go_ret3
    exact ⟨rfl, (by repeat (first | (with_reducible assumption) | (with_reducible exact Below.refl _ _) | ((with_reducible refine bel_alloc _ ?_ ?_); focus (first | omega | (simp; done) | (simp; omega))) | ((with_reducible refine bel_row _ ?_ ?_); focus (first | omega | (simp; done) | (simp; omega))) | ((with_reducible refine bel_cell _ ?_ ?_); focus (first | omega | (simp; done) | (simp; omega))) | (with_reducible refine Below.drew ?_) | (with_reducible refine below_wideW _ ?_) | ((with_reducible refine bel_next (by assumption) ?_ ?_); focus (first | omega | (simp; done) | (simp; omega)))))⟩
  · obtain ⟨a, b, rfl, rfl, la, ha, lb, hb, hp, hz0⟩ := plateB_size ho
    rw [show (a : Int).toNat = a from rfl, show (b : Int).toNat = b from rfl]
    have h64 := (cells_all a ha b hb).2
    have hdl : ∀ k, k ≤ a * b → darkK F a k < 64 := dark_lt F ha hb
    have hcl : ∀ k, k < a * b → cellAt a k < 64 := fun k hk => (cells_of a ha b hb k (by omega) hk).1
    obtain ⟨n, hn⟩ : ∃ n, a * b = n := ⟨_, rfl⟩
    rw [hn] at h64 hdl hcl ⊢
    have HN := Lib.hid hn
    have HDL := Lib.hid hdl
    have HCL := Lib.hid hcl
    clear hp hz0 hn hdl hcl
    go_enter Tryz.func26, Tryz.ntmps26
    go_wp2_with (first | (go_at_call 16; (with_reducible refine (implPOk_any a b F _ (by omega) (by omega) (by omega) (by omega)).mono ?_); rintro e w1 ⟨rfl, hb1⟩; have hz1 := hb1.size; (try simp at hz1); obtain ⟨hc1, hf1⟩ := bcell hb1) | ((with_reducible refine at_load 29 ?_); refine wpList_load_part rfl 29 _ rfl _ 0 66 rfl _ _ _ _ (by repeat (first | (with_reducible assumption) | ((with_reducible refine blk_new _ _ _ ?_); focus (simp; done)) | ((with_reducible refine blk_old _ _ _ ?_ ?_); focus (simp; done)) | ((with_reducible refine blk_old _ _ _ ?_ ?_); focus (first | omega | (simp; omega))) | ((with_reducible apply blk_set); focus (simp; done)) | ((with_reducible refine blk_off _ _ _ _ ?_ ?_); focus (simp; done)) | ((with_reducible refine blk_offc _ _ _ _ ?_ ?_); focus (first | (simp; done) | omega | (simp; omega))) | ((with_reducible refine blk_off _ _ _ _ ?_ ?_); focus (first | omega | (simp; omega))) | (with_reducible refine blk_drew _ _ ?_) | ((with_reducible refine blk_below (by assumption) ?_ ?_); focus (simp; done)) | ((with_reducible refine blk_below (by assumption) ?_ ?_); focus (first | omega | (simp; omega))))) Tryz.underlying29 rfl (by kernel_rfl) (by simp [row_size]) _ (row_all [_, _] 64 _) ?_))
    go_at_call 49
    refine (cells_n a b n HN.out la ha lb hb _ w.heap.size (by first | (simp; done) | (simp; omega) | omega) ((cell_of_row _ _ 0 (plate a b F) 29 (0, 0) (by repeat (first | (with_reducible assumption) | ((with_reducible refine blk_new _ _ _ ?_); focus (simp; done)) | ((with_reducible refine blk_old _ _ _ ?_ ?_); focus (simp; done)) | ((with_reducible refine blk_old _ _ _ ?_ ?_); focus (first | omega | (simp; omega))) | ((with_reducible apply blk_set); focus (simp; done)) | ((with_reducible refine blk_off _ _ _ _ ?_ ?_); focus (simp; done)) | ((with_reducible refine blk_offc _ _ _ _ ?_ ?_); focus (first | (simp; done) | omega | (simp; omega))) | ((with_reducible refine blk_off _ _ _ _ ?_ ?_); focus (first | omega | (simp; omega))) | (with_reducible refine blk_drew _ _ ?_) | ((with_reducible refine blk_below (by assumption) ?_ ?_); focus (simp; done)) | ((with_reducible refine blk_below (by assumption) ?_ ?_); focus (first | omega | (simp; omega)))))).trans (row_g0 _ _ _ _)) ((cell_of_row _ _ 1 (plate a b F) 29 (0, 0) (by repeat (first | (with_reducible assumption) | ((with_reducible refine blk_new _ _ _ ?_); focus (simp; done)) | ((with_reducible refine blk_old _ _ _ ?_ ?_); focus (simp; done)) | ((with_reducible refine blk_old _ _ _ ?_ ?_); focus (first | omega | (simp; omega))) | ((with_reducible apply blk_set); focus (simp; done)) | ((with_reducible refine blk_off _ _ _ _ ?_ ?_); focus (simp; done)) | ((with_reducible refine blk_offc _ _ _ _ ?_ ?_); focus (first | (simp; done) | omega | (simp; omega))) | ((with_reducible refine blk_off _ _ _ _ ?_ ?_); focus (first | omega | (simp; omega))) | (with_reducible refine blk_drew _ _ ?_) | ((with_reducible refine blk_below (by assumption) ?_ ?_); focus (simp; done)) | ((with_reducible refine blk_below (by assumption) ?_ ?_); focus (first | omega | (simp; omega)))))).trans (row_g1 _ _ _ _ _))).mono ?_
    rintro e w2 ⟨g0, c, rfl, hown, hbc⟩
    obtain ⟨cur, hcur, hat⟩ := own_block hown
    have k1 : w2.heap[w.heap.size]? = some (.cells (plate a b F) 29 (0, 0)) := blk_below hbc (by first | (simp; done) | (simp; omega) | omega) (by repeat (first | (with_reducible assumption) | ((with_reducible refine blk_new _ _ _ ?_); focus (simp; done)) | ((with_reducible refine blk_old _ _ _ ?_ ?_); focus (simp; done)) | ((with_reducible refine blk_old _ _ _ ?_ ?_); focus (first | omega | (simp; omega))) | ((with_reducible apply blk_set); focus (simp; done)) | ((with_reducible refine blk_off _ _ _ _ ?_ ?_); focus (simp; done)) | ((with_reducible refine blk_offc _ _ _ _ ?_ ?_); focus (first | (simp; done) | omega | (simp; omega))) | ((with_reducible refine blk_off _ _ _ _ ?_ ?_); focus (first | omega | (simp; omega))) | (with_reducible refine blk_drew _ _ ?_) | ((with_reducible refine blk_below (by assumption) ?_ ?_); focus (simp; done)) | ((with_reducible refine blk_below (by assumption) ?_ ?_); focus (first | omega | (simp; omega)))))
    have k4 : Below w.heap.size w w2 := bel_next hbc (by first | (simp; done) | (simp; omega) | omega) (by repeat (first | (with_reducible assumption) | (with_reducible exact Below.refl _ _) | ((with_reducible refine bel_alloc _ ?_ ?_); focus (first | omega | (simp; done) | (simp; omega))) | ((with_reducible refine bel_row _ ?_ ?_); focus (first | omega | (simp; done) | (simp; omega))) | ((with_reducible refine bel_cell _ ?_ ?_); focus (first | omega | (simp; done) | (simp; omega))) | (with_reducible refine Below.drew ?_) | (with_reducible refine below_wideW _ ?_) | ((with_reducible refine bel_next (by assumption) ?_ ?_); focus (first | omega | (simp; done) | (simp; omega)))))
    have HA := Lib.hid hat
    have K1 := Lib.hid k1
    have K4 := Lib.hid k4
    have KC := Lib.hid hcur
    clear hown hbc hcur hat k1 k4 hb1 hc1 hf1
    go_wp2
    go_loopw [5, 13] (fun v i wr => ∃ k d : Nat, k ≤ n ∧ i = .int .i64 k ∧ v = .int .i64 d ∧ darkK F a k = d ∧ wr.heap[w.heap.size]? = some (.cells (plate a b F) 29 (0, 0)) ∧ wr.heap[g0]? = some (.cells cur 2 (0, 0)) ∧ Below w.heap.size w wr) (fun _ i _ => 65 - (intOf i).toNat)
    case atStart => exact ⟨0, 0, by omega, rfl, rfl, rfl, K1.out, KC.out, K4.out⟩
    case round =>
      obtain ⟨k, d, hk, rfl, rfl, hd, h1, h4, h5⟩ := hrel
      have hd64 : d < 64 := by rw [← hd]; exact HDL.out k hk
      have cd : wr.cell? ⟨w.heap.size, 2 + d, none⟩ = some (.float .f32 (F d)) := (cell_of_row wr _ (2 + d) _ _ _ h1).trans (row_k2 _ _ _ _ hd64)
      have d0 : (0 : Int) ≤ d := by omega
      have d9 : (d : Int) < 64 := by omega
      have H5 := Lib.hid h5
      have HD := Lib.hid hd
      clear K1 K4 KC h5 hd
      by_cases hlt : k < n
      · have q2 := HCL.out k hlt
        have cl : wr.cell? ⟨g0, k, none⟩ = some (.int .i64 (cellAt a k : Nat)) := (cell_of_row wr g0 k cur 2 (0, 0) h4).trans (HA.out k hlt)
        have cf : wr.cell? ⟨w.heap.size, 2 + cellAt a k, none⟩ = some (.float .f32 (F (cellAt a k))) := (cell_of_row wr _ (2 + cellAt a k) _ _ _ h1).trans (row_k2 _ _ _ _ q2)
        obtain ⟨q, hq⟩ : ∃ q, cellAt a k = q := ⟨_, rfl⟩
        rw [hq] at cl cf q2
        have HQ := Lib.hid hq
        have H1 := Lib.hid h1
        have H4 := Lib.hid h4
        clear h1 h4 hq
        have z0 : (0 : Int) ≤ q := by omega
        have z1 : (q : Int) < 64 := by omega
        have i0' : (0 : Int) ≤ k := by omega
        have i1 : (k : Int) < n := by omega
        have i2 : (n : Int) ≤ 64 := by omega
        cases ht : (FloatKind.f32.format.order (F q) (F d) == some .gt)
        · go_wp2
          go_quiet (fail)
          go_wp2
          go_roundw
          case rel => exact ⟨k + 1, d, by omega, by go_num, rfl, by rw [dark_keep HQ.out (by rw [HD.out]; exact ht)]; exact HD.out, H1.out, H4.out, bel_drewN _ H5.out⟩
          case measure => simp [intOf]; omega
        · go_wp2
          go_quiet (fail)
          go_wp2
          go_roundw
          case rel => exact ⟨k + 1, q, by omega, by go_num, by go_num, dark_turn HQ.out (by rw [HD.out]; exact ht), H1.out, H4.out, bel_drewN _ H5.out⟩
          case measure => simp [intOf]; omega
      · have hkn : k = n := by omega
        have hd := HD.out
        rw [hkn] at hd
        have HE := Lib.hid hd
        clear hd hkn h1 h4 HD
        have hge : ¬ k < n := hlt
        go_wp2
        try (go_quiet (fail); go_wp2)
        go_ret3
        exact ⟨by rw [HE.out]; rfl, by first | exact H5.out | exact bel_drewN _ H5.out⟩

end Go.Proofs.YtekfmjddlemboaaGreatDoor
