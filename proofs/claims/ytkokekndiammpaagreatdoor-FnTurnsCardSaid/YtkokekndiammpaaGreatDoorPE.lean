/- Parts of a proof, merged; each under its own premises. -/
import Derived.Test.YtkokekndiammpaaGreatDoorPD
import Derived.Test.YtkokekndiammpaaGreatDoorPA
import Derived.OrdersHeld
import Derived.Deep.RegionHeld
import Derived.Deep.RegionWith
import Derived.OwnWalk

/-! Contracts of PrintedIn, and of the functions of the laws that compare, mark and hold lists of narrow numbers. -/
set_option linter.unusedVariables false
set_option linter.unusedSimpArgs false
namespace Go.Proofs.YtkokekndiammpaaGreatDoor
open Go.RowKit Ieee

theorem ts_yes {r : Int} {s t : Nat} {F : Nat → Nat} {fed cover : Nat} {q : Int} (h : tsB r s t F fed cover q = true) : tsC r s t F fed cover q = 0 ∧ tsN r s t F fed cover q = q.toNat := by
  refine ⟨?_, by unfold tsN; rw [h]; rfl⟩
  unfold tsB at h
  simp only [Bool.and_eq_true] at h
  unfold tsC
  rw [h.1.1, h.1.2, h.2]; rfl
theorem ts_no {r : Int} {s t : Nat} {F : Nat → Nat} {fed cover : Nat} {q : Int} (h : tsB r s t F fed cover q = false) : ¬ tsC r s t F fed cover q = 0 ∧ tsN r s t F fed cover q = 0 := by
  refine ⟨?_, by unfold tsN; rw [h]; rfl⟩
  unfold tsB at h
  unfold tsC
  cases h1 : askB r s t F fed cover
  · exact ask_no h1
  · cases h2 : rangeT q
    · simp
    · rw [h1, h2] at h
      simp at h
      simp [h]
theorem ts_le {r : Int} {s t : Nat} {F : Nat → Nat} {fed cover : Nat} {q : Int} : tsN r s t F fed cover q ≤ 2000 := by
  unfold tsN
  split
  · rename_i h
    unfold tsB rangeT at h
    simp only [Bool.and_eq_true, decide_eq_true_eq] at h
    omega
  · omega
set_option maxRecDepth 100000 in
set_option maxHeartbeats 3200000 in
theorem specPrinted_any (r : Int) (s t : Nat) (F : Nat → Nat) (fed cover : Nat) (q : Int) (w : World) (lr : -128 ≤ r) (ur : r ≤ 127) (lq : -9223372036854775808 ≤ q) (uq : q ≤ 9223372036854775807) : Calls Tryz.prog 14 #[.agg (train r s t F), .float .f32 fed, .float .f32 cover, .int .i64 q] w fun e w' => ∃ v, e = .returned (.tuple #[v, .int .i64 (tsC r s t F fed cover q)]) ∧ Floats w' w.heap.size v (tsN r s t F fed cover q) (prF r s t fed cover F) ∧ Below w.heap.size w w' := by
  have hz : (#[Value.int IntKind.i8 0, Value.float FloatKind.f32 0, Value.float FloatKind.f32 0, Value.float FloatKind.f32 0, Value.float FloatKind.f32 0, Value.float FloatKind.f32 0, Value.float FloatKind.f32 0, Value.float FloatKind.f32 0, Value.float FloatKind.f32 0, Value.float FloatKind.f32 0, Value.float FloatKind.f32 0, Value.float FloatKind.f32 0, Value.float FloatKind.f32 0, Value.float FloatKind.f32 0, Value.float FloatKind.f32 0] : Array Value) = row [Value.int IntKind.i8 0, Value.float FloatKind.f32 0, Value.float FloatKind.f32 0] 12 (fun _ => 0) := rfl
  have hT := fun w => specTurns_any r s t F fed cover q w lr ur lq uq
  cases hb : tsB r s t F fed cover q
  · obtain ⟨hne, hN⟩ := ts_no hb
    rw [hb, hN] at hT
    rw [hN]
    obtain ⟨c, hcc⟩ : ∃ c, tsC r s t F fed cover q = c := ⟨_, rfl⟩
    rw [hcc] at hT hne ⊢
    have hnb : (c != 0) = true := by simp [hne]
    clear hcc hb hN
    go_enter Tryz.func14, Tryz.ntmps14
    go_wp2_with (first | (go_at_call 37; (with_reducible refine (hT _).mono ?_); rintro e w2 ⟨v, rfl, hF, hb2⟩; have hz2 := hb2.size; (try simp at hz2); obtain ⟨ao, cap, rfl, hown⟩ := hF; have HOW := Lib.hid hown; clear hown) | ((with_reducible refine at_load 28 ?_); refine wpList_load_part rfl 28 _ rfl _ 0 15 rfl _ _ _ _ (by repeat (first | (with_reducible assumption) | ((with_reducible refine blk_new _ _ _ ?_); focus (simp; done)) | ((with_reducible refine blk_old _ _ _ ?_ ?_); focus (simp; done)) | ((with_reducible refine blk_old _ _ _ ?_ ?_); focus (first | omega | (simp; omega))) | ((with_reducible apply blk_set); focus (simp; done)) | ((with_reducible refine blk_off _ _ _ _ ?_ ?_); focus (simp; done)) | ((with_reducible refine blk_offc _ _ _ _ ?_ ?_); focus (first | (simp; done) | omega | (simp; omega))) | ((with_reducible refine blk_off _ _ _ _ ?_ ?_); focus (first | omega | (simp; omega))) | (with_reducible refine blk_drew _ _ ?_) | ((with_reducible refine blk_below (by assumption) ?_ ?_); focus (simp; done)) | ((with_reducible refine blk_below (by assumption) ?_ ?_); focus (first | omega | (simp; omega))))) Tryz.underlying28 rfl (by kernel_rfl) (by simp [row_size]) _ (row_all [_, _, _] 12 _) ?_) | ((with_reducible refine at_store 28 ?_); refine wpList_store_part rfl 28 _ _ rfl _ 0 _ rfl rfl _ _ (by repeat (first | (with_reducible assumption) | ((with_reducible refine blk_new _ _ _ ?_); focus (simp; done)) | ((with_reducible refine blk_old _ _ _ ?_ ?_); focus (simp; done)) | ((with_reducible refine blk_old _ _ _ ?_ ?_); focus (first | omega | (simp; omega))) | ((with_reducible apply blk_set); focus (simp; done)) | ((with_reducible refine blk_off _ _ _ _ ?_ ?_); focus (simp; done)) | ((with_reducible refine blk_offc _ _ _ _ ?_ ?_); focus (first | (simp; done) | omega | (simp; omega))) | ((with_reducible refine blk_off _ _ _ _ ?_ ?_); focus (first | omega | (simp; omega))) | (with_reducible refine blk_drew _ _ ?_) | ((with_reducible refine blk_below (by assumption) ?_ ?_); focus (simp; done)) | ((with_reducible refine blk_below (by assumption) ?_ ?_); focus (first | omega | (simp; omega))))) (by rw [row_size]; kernel_rfl) (by simp [row_size]) (row_cells _ _ _ rfl) _ (row_over _ _ 12 _ _ (by simp)) ?_) | go_in)
    go_ret2
    exact ⟨_, rfl, floats_none, (by repeat (first | (with_reducible assumption) | (with_reducible exact Below.refl _ _) | ((with_reducible refine bel_alloc _ ?_ ?_); focus (first | omega | (simp; done) | (simp; omega))) | ((with_reducible refine bel_row _ ?_ ?_); focus (first | omega | (simp; done) | (simp; omega))) | ((with_reducible refine bel_cell _ ?_ ?_); focus (first | omega | (simp; done) | (simp; omega))) | (with_reducible refine Below.drew ?_) | (with_reducible refine below_wideW _ ?_) | ((with_reducible refine bel_next (by assumption) ?_ ?_); focus (first | omega | (simp; done) | (simp; omega)))))⟩
  · obtain ⟨hC, hN⟩ := ts_yes hb
    rw [hb, hC] at hT
    rw [hC]
    obtain ⟨G, hG⟩ : ∃ G, itF r s t fed cover F q.toNat = G := ⟨_, rfl⟩
    rw [hG] at hT
    obtain ⟨n, hn⟩ : ∃ n, tsN r s t F fed cover q = n := ⟨_, rfl⟩
    rw [hn] at hT ⊢
    clear hb hC hN hG hn
    go_enter Tryz.func14, Tryz.ntmps14
    go_wp2_with (first | (go_at_call 37; (with_reducible refine (hT _).mono ?_); rintro e w2 ⟨v, rfl, hF, hb2⟩; have hz2 := hb2.size; (try simp at hz2); obtain ⟨ao, cap, rfl, hown⟩ := hF; have HOW := Lib.hid hown; clear hown) | ((with_reducible refine at_load 28 ?_); refine wpList_load_part rfl 28 _ rfl _ 0 15 rfl _ _ _ _ (by repeat (first | (with_reducible assumption) | ((with_reducible refine blk_new _ _ _ ?_); focus (simp; done)) | ((with_reducible refine blk_old _ _ _ ?_ ?_); focus (simp; done)) | ((with_reducible refine blk_old _ _ _ ?_ ?_); focus (first | omega | (simp; omega))) | ((with_reducible apply blk_set); focus (simp; done)) | ((with_reducible refine blk_off _ _ _ _ ?_ ?_); focus (simp; done)) | ((with_reducible refine blk_offc _ _ _ _ ?_ ?_); focus (first | (simp; done) | omega | (simp; omega))) | ((with_reducible refine blk_off _ _ _ _ ?_ ?_); focus (first | omega | (simp; omega))) | (with_reducible refine blk_drew _ _ ?_) | ((with_reducible refine blk_below (by assumption) ?_ ?_); focus (simp; done)) | ((with_reducible refine blk_below (by assumption) ?_ ?_); focus (first | omega | (simp; omega))))) Tryz.underlying28 rfl (by kernel_rfl) (by simp [row_size]) _ (row_all [_, _, _] 12 _) ?_) | ((with_reducible refine at_store 28 ?_); refine wpList_store_part rfl 28 _ _ rfl _ 0 _ rfl rfl _ _ (by repeat (first | (with_reducible assumption) | ((with_reducible refine blk_new _ _ _ ?_); focus (simp; done)) | ((with_reducible refine blk_old _ _ _ ?_ ?_); focus (simp; done)) | ((with_reducible refine blk_old _ _ _ ?_ ?_); focus (first | omega | (simp; omega))) | ((with_reducible apply blk_set); focus (simp; done)) | ((with_reducible refine blk_off _ _ _ _ ?_ ?_); focus (simp; done)) | ((with_reducible refine blk_offc _ _ _ _ ?_ ?_); focus (first | (simp; done) | omega | (simp; omega))) | ((with_reducible refine blk_off _ _ _ _ ?_ ?_); focus (first | omega | (simp; omega))) | (with_reducible refine blk_drew _ _ ?_) | ((with_reducible refine blk_below (by assumption) ?_ ?_); focus (simp; done)) | ((with_reducible refine blk_below (by assumption) ?_ ?_); focus (first | omega | (simp; omega))))) (by rw [row_size]; kernel_rfl) (by simp [row_size]) (row_cells _ _ _ rfl) _ (row_over _ _ 12 _ _ (by simp)) ?_) | go_in)
    go_ret2
    exact ⟨_, rfl, ⟨ao, cap, rfl, fun h => own_wide (own_carry (HOW.out h) (fun i hi1 hi2 => (by repeat (first | (with_reducible rfl) | ((with_reducible refine blk_new _ _ _ ?_); focus (simp; done)) | ((with_reducible refine blk_old _ _ _ ?_ ?_); focus (simp; done)) | ((with_reducible refine blk_old _ _ _ ?_ ?_); focus (first | omega | (simp; omega))) | ((with_reducible apply blk_set); focus (simp; done)) | ((with_reducible refine blk_off _ _ _ _ ?_ ?_); focus (simp; done)) | ((with_reducible refine blk_offc _ _ _ _ ?_ ?_); focus (first | (simp; done) | omega | (simp; omega))) | ((with_reducible refine blk_off _ _ _ _ ?_ ?_); focus (first | omega | (simp; omega))) | (with_reducible refine blk_drew _ _ ?_) | ((with_reducible refine blk_below (by assumption) ?_ ?_); focus (simp; done)) | ((with_reducible refine blk_below (by assumption) ?_ ?_); focus (first | omega | (simp; omega))))))) (by first | (simp; done) | omega | (simp; omega))⟩, (by repeat (first | (with_reducible assumption) | (with_reducible exact Below.refl _ _) | ((with_reducible refine bel_alloc _ ?_ ?_); focus (first | omega | (simp; done) | (simp; omega))) | ((with_reducible refine bel_row _ ?_ ?_); focus (first | omega | (simp; done) | (simp; omega))) | ((with_reducible refine bel_cell _ ?_ ?_); focus (first | omega | (simp; done) | (simp; omega))) | (with_reducible refine Below.drew ?_) | (with_reducible refine below_wideW _ ?_) | ((with_reducible refine bel_next (by assumption) ?_ ?_); focus (first | omega | (simp; done) | (simp; omega)))))⟩

set_option maxRecDepth 100000 in
set_option maxHeartbeats 3200000 in
theorem implPrinted_any (r : Int) (s t : Nat) (F : Nat → Nat) (fed cover : Nat) (q : Int) (w : World) (lr : -128 ≤ r) (ur : r ≤ 127) (lq : -9223372036854775808 ≤ q) (uq : q ≤ 9223372036854775807) : Calls Tryz.prog 13 #[.agg (train r s t F), .float .f32 fed, .float .f32 cover, .int .i64 q] w fun e w' => ∃ v, e = .returned (.tuple #[v, .int .i64 (tsC r s t F fed cover q)]) ∧ Floats w' w.heap.size v (tsN r s t F fed cover q) (prF r s t fed cover F) ∧ Below w.heap.size w w' := by
  have hz : (#[Value.int IntKind.i8 0, Value.float FloatKind.f32 0, Value.float FloatKind.f32 0, Value.float FloatKind.f32 0, Value.float FloatKind.f32 0, Value.float FloatKind.f32 0, Value.float FloatKind.f32 0, Value.float FloatKind.f32 0, Value.float FloatKind.f32 0, Value.float FloatKind.f32 0, Value.float FloatKind.f32 0, Value.float FloatKind.f32 0, Value.float FloatKind.f32 0, Value.float FloatKind.f32 0, Value.float FloatKind.f32 0] : Array Value) = row [Value.int IntKind.i8 0, Value.float FloatKind.f32 0, Value.float FloatKind.f32 0] 12 (fun _ => 0) := rfl
  have hT := fun w => implTurns_any r s t F fed cover q w lr ur lq uq
  cases hb : tsB r s t F fed cover q
  · obtain ⟨hne, hN⟩ := ts_no hb
    rw [hb, hN] at hT
    rw [hN]
    obtain ⟨c, hcc⟩ : ∃ c, tsC r s t F fed cover q = c := ⟨_, rfl⟩
    rw [hcc] at hT hne ⊢
    have hnb : (c != 0) = true := by simp [hne]
    clear hcc hb hN
    go_enter Tryz.func13, Tryz.ntmps13
    go_wp2_with (first | (go_at_call 35; (with_reducible refine (hT _).mono ?_); rintro e w2 ⟨v, rfl, hF, hb2⟩; have hz2 := hb2.size; (try simp at hz2); obtain ⟨ao, cap, rfl, hown⟩ := hF; have HOW := Lib.hid hown; clear hown) | ((with_reducible refine at_load 28 ?_); refine wpList_load_part rfl 28 _ rfl _ 0 15 rfl _ _ _ _ (by repeat (first | (with_reducible assumption) | ((with_reducible refine blk_new _ _ _ ?_); focus (simp; done)) | ((with_reducible refine blk_old _ _ _ ?_ ?_); focus (simp; done)) | ((with_reducible refine blk_old _ _ _ ?_ ?_); focus (first | omega | (simp; omega))) | ((with_reducible apply blk_set); focus (simp; done)) | ((with_reducible refine blk_off _ _ _ _ ?_ ?_); focus (simp; done)) | ((with_reducible refine blk_offc _ _ _ _ ?_ ?_); focus (first | (simp; done) | omega | (simp; omega))) | ((with_reducible refine blk_off _ _ _ _ ?_ ?_); focus (first | omega | (simp; omega))) | (with_reducible refine blk_drew _ _ ?_) | ((with_reducible refine blk_below (by assumption) ?_ ?_); focus (simp; done)) | ((with_reducible refine blk_below (by assumption) ?_ ?_); focus (first | omega | (simp; omega))))) Tryz.underlying28 rfl (by kernel_rfl) (by simp [row_size]) _ (row_all [_, _, _] 12 _) ?_) | ((with_reducible refine at_store 28 ?_); refine wpList_store_part rfl 28 _ _ rfl _ 0 _ rfl rfl _ _ (by repeat (first | (with_reducible assumption) | ((with_reducible refine blk_new _ _ _ ?_); focus (simp; done)) | ((with_reducible refine blk_old _ _ _ ?_ ?_); focus (simp; done)) | ((with_reducible refine blk_old _ _ _ ?_ ?_); focus (first | omega | (simp; omega))) | ((with_reducible apply blk_set); focus (simp; done)) | ((with_reducible refine blk_off _ _ _ _ ?_ ?_); focus (simp; done)) | ((with_reducible refine blk_offc _ _ _ _ ?_ ?_); focus (first | (simp; done) | omega | (simp; omega))) | ((with_reducible refine blk_off _ _ _ _ ?_ ?_); focus (first | omega | (simp; omega))) | (with_reducible refine blk_drew _ _ ?_) | ((with_reducible refine blk_below (by assumption) ?_ ?_); focus (simp; done)) | ((with_reducible refine blk_below (by assumption) ?_ ?_); focus (first | omega | (simp; omega))))) (by rw [row_size]; kernel_rfl) (by simp [row_size]) (row_cells _ _ _ rfl) _ (row_over _ _ 12 _ _ (by simp)) ?_) | go_in)
    go_ret2
    exact ⟨_, rfl, floats_none, (by repeat (first | (with_reducible assumption) | (with_reducible exact Below.refl _ _) | ((with_reducible refine bel_alloc _ ?_ ?_); focus (first | omega | (simp; done) | (simp; omega))) | ((with_reducible refine bel_row _ ?_ ?_); focus (first | omega | (simp; done) | (simp; omega))) | ((with_reducible refine bel_cell _ ?_ ?_); focus (first | omega | (simp; done) | (simp; omega))) | (with_reducible refine Below.drew ?_) | (with_reducible refine below_wideW _ ?_) | ((with_reducible refine bel_next (by assumption) ?_ ?_); focus (first | omega | (simp; done) | (simp; omega)))))⟩
  · obtain ⟨hC, hN⟩ := ts_yes hb
    rw [hb, hC] at hT
    rw [hC]
    obtain ⟨G, hG⟩ : ∃ G, itF r s t fed cover F q.toNat = G := ⟨_, rfl⟩
    rw [hG] at hT
    obtain ⟨n, hn⟩ : ∃ n, tsN r s t F fed cover q = n := ⟨_, rfl⟩
    rw [hn] at hT ⊢
    clear hb hC hN hG hn
    go_enter Tryz.func13, Tryz.ntmps13
    go_wp2_with (first | (go_at_call 35; (with_reducible refine (hT _).mono ?_); rintro e w2 ⟨v, rfl, hF, hb2⟩; have hz2 := hb2.size; (try simp at hz2); obtain ⟨ao, cap, rfl, hown⟩ := hF; have HOW := Lib.hid hown; clear hown) | ((with_reducible refine at_load 28 ?_); refine wpList_load_part rfl 28 _ rfl _ 0 15 rfl _ _ _ _ (by repeat (first | (with_reducible assumption) | ((with_reducible refine blk_new _ _ _ ?_); focus (simp; done)) | ((with_reducible refine blk_old _ _ _ ?_ ?_); focus (simp; done)) | ((with_reducible refine blk_old _ _ _ ?_ ?_); focus (first | omega | (simp; omega))) | ((with_reducible apply blk_set); focus (simp; done)) | ((with_reducible refine blk_off _ _ _ _ ?_ ?_); focus (simp; done)) | ((with_reducible refine blk_offc _ _ _ _ ?_ ?_); focus (first | (simp; done) | omega | (simp; omega))) | ((with_reducible refine blk_off _ _ _ _ ?_ ?_); focus (first | omega | (simp; omega))) | (with_reducible refine blk_drew _ _ ?_) | ((with_reducible refine blk_below (by assumption) ?_ ?_); focus (simp; done)) | ((with_reducible refine blk_below (by assumption) ?_ ?_); focus (first | omega | (simp; omega))))) Tryz.underlying28 rfl (by kernel_rfl) (by simp [row_size]) _ (row_all [_, _, _] 12 _) ?_) | ((with_reducible refine at_store 28 ?_); refine wpList_store_part rfl 28 _ _ rfl _ 0 _ rfl rfl _ _ (by repeat (first | (with_reducible assumption) | ((with_reducible refine blk_new _ _ _ ?_); focus (simp; done)) | ((with_reducible refine blk_old _ _ _ ?_ ?_); focus (simp; done)) | ((with_reducible refine blk_old _ _ _ ?_ ?_); focus (first | omega | (simp; omega))) | ((with_reducible apply blk_set); focus (simp; done)) | ((with_reducible refine blk_off _ _ _ _ ?_ ?_); focus (simp; done)) | ((with_reducible refine blk_offc _ _ _ _ ?_ ?_); focus (first | (simp; done) | omega | (simp; omega))) | ((with_reducible refine blk_off _ _ _ _ ?_ ?_); focus (first | omega | (simp; omega))) | (with_reducible refine blk_drew _ _ ?_) | ((with_reducible refine blk_below (by assumption) ?_ ?_); focus (simp; done)) | ((with_reducible refine blk_below (by assumption) ?_ ?_); focus (first | omega | (simp; omega))))) (by rw [row_size]; kernel_rfl) (by simp [row_size]) (row_cells _ _ _ rfl) _ (row_over _ _ 12 _ _ (by simp)) ?_) | go_in)
    go_ret2
    exact ⟨_, rfl, ⟨ao, cap, rfl, fun h => own_wide (own_carry (HOW.out h) (fun i hi1 hi2 => (by repeat (first | (with_reducible rfl) | ((with_reducible refine blk_new _ _ _ ?_); focus (simp; done)) | ((with_reducible refine blk_old _ _ _ ?_ ?_); focus (simp; done)) | ((with_reducible refine blk_old _ _ _ ?_ ?_); focus (first | omega | (simp; omega))) | ((with_reducible apply blk_set); focus (simp; done)) | ((with_reducible refine blk_off _ _ _ _ ?_ ?_); focus (simp; done)) | ((with_reducible refine blk_offc _ _ _ _ ?_ ?_); focus (first | (simp; done) | omega | (simp; omega))) | ((with_reducible refine blk_off _ _ _ _ ?_ ?_); focus (first | omega | (simp; omega))) | (with_reducible refine blk_drew _ _ ?_) | ((with_reducible refine blk_below (by assumption) ?_ ?_); focus (simp; done)) | ((with_reducible refine blk_below (by assumption) ?_ ?_); focus (first | omega | (simp; omega))))))) (by first | (simp; done) | omega | (simp; omega))⟩, (by repeat (first | (with_reducible assumption) | (with_reducible exact Below.refl _ _) | ((with_reducible refine bel_alloc _ ?_ ?_); focus (first | omega | (simp; done) | (simp; omega))) | ((with_reducible refine bel_row _ ?_ ?_); focus (first | omega | (simp; done) | (simp; omega))) | ((with_reducible refine bel_cell _ ?_ ?_); focus (first | omega | (simp; done) | (simp; omega))) | (with_reducible refine Below.drew ?_) | (with_reducible refine below_wideW _ ?_) | ((with_reducible refine bel_next (by assumption) ?_ ?_); focus (first | omega | (simp; done) | (simp; omega)))))⟩

theorem own_floats {w : World} {base n c : Nat} {ao : Option Addr} {e : TypeId} {G : Nat → Nat} (h : w.ownsRow base e 1 (.slice ao n c) n (floatsV G n)) (hn : 0 < n) : ∃ g cur, ao = some ⟨g, 0, none⟩ ∧ base ≤ g ∧ g < w.heap.size ∧ w.heap[g]? = some (.cells cur e (0, 0)) ∧ n ≤ cur.size ∧ ∀ j, j < n → cur[j]? = some (.float .f32 (G j)) := by
  have hlt := h.lt
  rcases h.2 with ⟨_, h3⟩ | ⟨g', cap, cur, hv, hb, hh, h1, h2, h3, ht⟩
  · omega
  · simp only [Value.slice.injEq] at hv
    obtain ⟨rfl, _, rfl⟩ := hv
    refine ⟨g', cur, rfl, hb, (hlt g' rfl).2, hh, by omega, fun j hj => ?_⟩
    have h4 : (cur.toList.take (n * 1))[j]? = (floatsV G n)[j]? := by rw [ht]
    rw [floatsV_at hj, List.getElem?_take, if_pos (by omega)] at h4
    simpa using h4

end Go.Proofs.YtkokekndiammpaaGreatDoor

/-! A region that draws its order, walked by hand: reads first, then calls and stores that can come in one order alone. -/
set_option linter.unusedVariables false
set_option linter.unusedSimpArgs false
namespace Go.Proofs.YtkokekndiammpaaGreatDoor
open Go.RowKit Ieee

section
variable {P : Program} {ops : Array Oper} {Q : Exit → Act → World → Prop} {md : Region.Mode} {S : World → Prop}
theorem wanted_none {o : Oper} (h : o.guard = none) (l : Nat → Option Bool) : Region.wanted o l = true := by simp [Region.wanted, h]
theorem yields_load {o : Oper} {a : Act} {w : World} (ty : TypeId) (x : Operand) (ho : o.op = .load ty x)
    (g off n : Nat) (hx : a.eval x = .pointer (some ⟨g, off, none⟩)) (t : TypeId) (cs : Array Value) (fr : Nat × Nat) (d : TypeDesc) (hg : w.heap[g]? = some (.cells cs t fr))
    (hu : P.underlying ty = some d) (hd : (match d with | .struct _ | .array _ _ => true | _ => false) = true) (hi : (P.info? ty).map (·.size) = some n) (hle : off + n ≤ cs.size)
    (out : Array Value) (hout : cs.extract off (off + n) = out) : (execOp a.eval o).run P w = .ok (.value (.agg out)) w := by
  subst hout
  unfold execOp
  simp only [ho, hx, Instr.loadAt, Instr.sureAddr, Sem.run_bind, Sem.run_pure, Result.andThen_ok, run_loadVar_part w g off n t ty cs fr d hg hu hd hi hle]
/-- A load of a whole, taken first. -/
theorem held_load {fuel : Nat} {listed : Array Bool} {a : Act} {w : World} (i : Nat) {o : Oper} (hi : ops[i]? = some o) (hgd : o.guard = none)
    (hs : Region.noSelect ops = true) (hf : Region.free md ops listed i = true) (hr : (Region.ready md ops listed).contains i = true)
    (hQ : ∀ v c a w, Q (.panic c) (a.put o.dst v) w → Q (.panic c) a w)
    (ty : TypeId) (x : Operand) (ho : o.op = .load ty x)
    (g off n : Nat) (hx : a.eval x = .pointer (some ⟨g, off, none⟩)) (t : TypeId) (cs : Array Value) (fr : Nat × Nat) (d : TypeDesc) (hg : ∀ w, S w → w.heap[g]? = some (.cells cs t fr))
    (hu : P.underlying ty = some d) (hd : (match d with | .struct _ | .array _ _ => true | _ => false) = true) (hin : (P.info? ty).map (·.size) = some n) (hle : off + n ≤ cs.size)
    (out : Array Value) (hout : cs.extract off (off + n) = out) (hS : S w)
    (h : wpAnyH P md ops Q S fuel (listed.setIfInBounds i true) (a.put o.dst (.agg out)) w) : wpAnyH P md ops Q S (fuel + 1) listed a w :=
  wpAnyH_take hi hs hf hr (hQ _) (Or.inl ⟨wanted_none hgd _, fun w hS => yields_load ty x ho g off n hx t cs fr d (hg w hS) hu hd hin hle out hout⟩) hS h
/-- Any operation that yields, taken first. -/
theorem held_yield {fuel : Nat} {listed : Array Bool} {a : Act} {w : World} (i : Nat) {o : Oper} (hi : ops[i]? = some o) (hgd : o.guard = none)
    (hs : Region.noSelect ops = true) (hf : Region.free md ops listed i = true) (hr : (Region.ready md ops listed).contains i = true)
    (hQ : ∀ v c a w, Q (.panic c) (a.put o.dst v) w → Q (.panic c) a w) (v : Value)
    (hy : ∀ w, S w → (execOp a.eval o).run P w = .ok (.value v) w) (hS : S w)
    (h : wpAnyH P md ops Q S fuel (listed.setIfInBounds i true) (a.put o.dst v) w) : wpAnyH P md ops Q S (fuel + 1) listed a w :=
  wpAnyH_take hi hs hf hr (hQ _) (Or.inl ⟨wanted_none hgd _, hy⟩) hS h
/-- The one that may come up, carried out. -/
theorem held_one {fuel : Nat} {listed : Array Bool} {a : Act} {w : World} (i : Nat) {o : Oper} (hr : Region.ready md ops listed = [i]) (hi : ops[i]? = some o) (hgd : o.guard = none)
    (h : o.wp P a w (fun a' w' => S w' ∧ wpAnyH P md ops Q S fuel (listed.setIfInBounds i true) a' w') Q) : wpAnyH P md ops Q S (fuel + 1) listed a w := by
  refine wpAnyH_all hr (by simp) (fun j hj => ?_)
  obtain rfl : j = i := by simpa using hj
  unfold wpOp
  simp only [hi, wanted_none hgd, if_true]
  exact Or.inl h
theorem held_call {fuel : Nat} {listed : Array Bool} {a : Act} {w : World} (i : Nat) {o : Oper} (hr : Region.ready md ops listed = [i]) (hi : ops[i]? = some o) (hgd : o.guard = none)
    (f : FuncId) (args : Array Value) (he : (execOp a.eval o).run P w = .ok (.enter f args) w) (v : Value) (hc : Calls P f args w fun e w' => e = .returned v ∧ w' = w) (hS : S w)
    (h : wpAnyH P md ops Q S fuel (listed.setIfInBounds i true) (a.put o.dst v) w) : wpAnyH P md ops Q S (fuel + 1) listed a w := by
  refine held_one i hr hi hgd ?_
  unfold Oper.wp
  rw [he, Oper.upon_enter]
  refine hc.mono fun e w' h' => ?_
  obtain ⟨rfl, rfl⟩ := h'
  exact ⟨hS, h⟩
theorem held_store {fuel : Nat} {listed : Array Bool} {a : Act} {w : World} (i : Nat) {o : Oper} (hr : Region.ready md ops listed = [i]) (hoi : ops[i]? = some o) (hgd : o.guard = none)
    (ty : TypeId) (x y : Operand) (ho : o.op = .store ty x y)
    (g off : Nat) (vs : Array Value) (hx : a.eval x = .pointer (some ⟨g, off, none⟩)) (hy : a.eval y = .agg vs)
    (t : TypeId) (old : Array Value) (hg : w.heap[g]? = some (.cells old t (0, 0))) (hi : (P.info? ty).map (·.size) = some vs.size)
    (hle : off + vs.size ≤ old.size) (h1 : vs.all (·.oneCell') = true)
    (new : Array Value) (hnew : (old.toList.take off ++ vs.toList ++ old.toList.drop (off + vs.toList.length)).toArray = new) (hS : S (w.setRow g new))
    (h : wpAnyH P md ops Q S fuel (listed.setIfInBounds i true) (a.put o.dst undef) (w.setRow g new)) : wpAnyH P md ops Q S (fuel + 1) listed a w := by
  subst hnew
  refine held_one i hr hoi hgd ?_
  have hst := run_storeCells_at P g off t vs.toList 0 old w hg (by simpa using hle) (fun v hv => (Array.all_eq_true_iff_forall_mem.1 h1) v (by simpa using hv))
  unfold Oper.wp execOp
  cases hq : P.info? ty with
  | none => simp [hq] at hi
  | some i =>
    have hs : vs.size = i.size := by simp [hq] at hi; omega
    simp only [Nat.add_zero] at hst
    have hsv : (storeVar ty ⟨g, off, none⟩ (.agg vs)).run P w = .ok () (w.setRow g (old.toList.take off ++ vs.toList ++ old.toList.drop (off + vs.toList.length)).toArray) := by
      simp [storeVar, sizeOf, typeInfo, hq, Value.cells, hs, hst]
    simp only [ho, hx, hy, Instr.storeAt, Instr.sureAddr, Sem.run_bind, Sem.run_pure, Result.andThen_ok, hsv]
    exact ⟨hS, h⟩
end
end Go.Proofs.YtkokekndiammpaaGreatDoor

/-! A region that draws, walked by hand: two that may come up, and a merging of all orders. -/
set_option linter.unusedVariables false
set_option linter.unusedSimpArgs false
namespace Go.Proofs.YtkokekndiammpaaGreatDoor
open Go.RowKit Ieee

section
variable {P : Program} {ops : Array Oper} {Q : Exit → Act → World → Prop} {md : Region.Mode} {S : World → Prop}
theorem held_two {fuel : Nat} {listed : Array Bool} {a : Act} {w : World} (i j : Nat) {o o' : Oper} (hr : Region.ready md ops listed = [i, j]) (hi : ops[i]? = some o) (hgd : o.guard = none) (hj : ops[j]? = some o') (hgd' : o'.guard = none)
    (h : o.wp P a w (fun a' w' => S w' ∧ wpAnyH P md ops Q S fuel (listed.setIfInBounds i true) a' w') Q)
    (h' : o'.wp P a w (fun a' w' => S w' ∧ wpAnyH P md ops Q S fuel (listed.setIfInBounds j true) a' w') Q) : wpAnyH P md ops Q S (fuel + 1) listed a w := by
  refine wpAnyH_all hr (by simp) (fun k hk => ?_)
  have hk2 : k = i ∨ k = j := by simpa using hk
  rcases hk2 with rfl | rfl
  · unfold wpOp
    simp only [hi]
    rw [if_pos (wanted_none hgd _)]
    exact Or.inl h
  · unfold wpOp
    simp only [hj]
    rw [if_pos (wanted_none hgd' _)]
    exact Or.inl h'
theorem oper_call {o : Oper} {a : Act} {w : World} {K : Act → World → Prop} (f : FuncId) (args : Array Value) (he : (execOp a.eval o).run P w = .ok (.enter f args) w) {R : Value → World → Prop} (hc : Calls P f args w fun e w' => ∃ v, e = .returned v ∧ R v w')
    (h : ∀ v w', R v w' → K (a.put o.dst v) w') : o.wp P a w K Q := by
  unfold Oper.wp
  rw [he, Oper.upon_enter]
  refine hc.mono fun e w' h' => ?_
  obtain ⟨v, rfl, h2⟩ := h'
  exact h v w' h2
theorem oper_value {o : Oper} {a : Act} {w w1 : World} {K : Act → World → Prop} (v : Value) (he : (execOp a.eval o).run P w = .ok (.value v) w1) (h : K (a.put o.dst v) w1) : o.wp P a w K Q := by
  unfold Oper.wp
  rw [he, Oper.upon_value]
  exact h
/-- All orders of a region end alike: what follows is walked once. -/
theorem region_merge {id : Nat} {a : Act} {w : World} (R : Act → Act → World → Prop) (h1 : (Code.region id ops true).wp P (fun x a' w' => x = .normal ∧ R a a' w') a w) (h2 : ∀ a' w', R a a' w' → Q .normal a' w') : (Code.region id ops true).wp P Q a w :=
  Code.wp_mono (fun x a' w' h => by obtain ⟨rfl, h⟩ := h; exact h2 _ _ h) h1
end
end Go.Proofs.YtkokekndiammpaaGreatDoor

/-! Sums of lists of what is printed; contracts of TurnTimes. -/
set_option linter.unusedVariables false
set_option linter.unusedSimpArgs false
namespace Go.Proofs.YtkokekndiammpaaGreatDoor
open Go.RowKit Ieee

/-- A number of a list whose sum stays within bounds. -/
def Lst (a : Nat) : Prop := Fin32 a ∧ 0 ≤ Z32 a ∧ Z32 a ≤ 2 ^ 172
theorem lst_film {a : Nat} (h : filmB a = true) : Lst a := by
  obtain ⟨_, c, d⟩ := (film_iff a).1 h
  have : (2 : Int) ^ 169 ≤ 2 ^ 172 := by decide
  exact ⟨film_fin h, c, by omega⟩
theorem lst_sum {G : Nat → Nat} {n : Nat} (hn : n ≤ 4000) (hG : ∀ i, i < n → Lst (G i)) : ∀ k, k ≤ n → Fin32 (sumTo G k) ∧ 0 ≤ Z32 (sumTo G k) ∧ Z32 (sumTo G k) ≤ k * 2 ^ 173
  | 0, _ => ⟨(by decide : Fin32 0), Int.le_of_eq Z_zero.symm, by rw [show Z32 (sumTo G 0) = 0 from Z_zero]; omega⟩
  | 1, h => by
    obtain ⟨hf, a, b⟩ := hG 0 (by omega)
    refine ⟨hf, a, ?_⟩
    show Z32 (G 0) ≤ _
    have : (2 : Int) ^ 172 ≤ 2 ^ 173 := by decide
    omega
  | k + 2, h => by
    obtain ⟨f, a, b⟩ := lst_sum hn hG (k + 1) (by omega)
    obtain ⟨fg, c, d⟩ := hG (k + 1) (by omega)
    have e : sumTo G (k + 2) = fadd (sumTo G (k + 1)) (G (k + 1)) := rfl
    rw [e]
    have hk : ((k + 1 : Nat) : Int) ≤ 4000 := by omega
    have hb : Z32 (sumTo G (k + 1)) ≤ 4000 * 2 ^ 173 := Int.le_trans b (Int.mul_le_mul_of_nonneg_right hk (by decide))
    have herr := fadd_err (t := 164) (by omega) f fg (by
      have : Z32 (sumTo G (k + 1)) + Z32 (G (k + 1)) < 2 ^ 188 := by
        have : (4000 : Int) * 2 ^ 173 + 2 ^ 172 < 2 ^ 188 := by decide
        omega
      omega)
    have h0 := fadd_ge f fg (c := 0) (by decide) (by rw [Z_zero]; omega)
    rw [Z_zero] at h0
    have hup : Z32 (fadd (sumTo G (k + 1)) (G (k + 1))) ≤ ((k + 2 : Nat) : Int) * 2 ^ 173 := by
      have e2 : ((k + 2 : Nat) : Int) * 2 ^ 173 = ((k + 1 : Nat) : Int) * 2 ^ 173 + 2 ^ 173 := by
        rw [show ((k + 2 : Nat) : Int) = ((k + 1 : Nat) : Int) + 1 from by omega, Int.add_mul, Int.one_mul]
      have : (2 : Int) ^ 172 + 2 ^ 164 ≤ 2 ^ 173 := by decide
      omega
    refine ⟨fin_of (num_fadd f fg) (by omega) ?_, h0, hup⟩
    have : ((k + 2 : Nat) : Int) * 2 ^ 173 ≤ 4001 * 2 ^ 173 := Int.mul_le_mul_of_nonneg_right (by omega) (by decide)
    have : (4001 : Int) * 2 ^ 173 ≤ 2 ^ 250 := by decide
    omega
theorem sum_lst (G : Nat → Nat) (n b o c : Nat) (w : World) (hn : n ≤ 4000) (hG : ∀ i, i < n → Lst (G i)) (hc : ∀ i, i < n → w.cell? ⟨b, o + i, none⟩ = some (.float .f32 (G i))) :
    Calls Tryz.prog 36 #[.slice (some ⟨b, o, none⟩) n c] w fun e w' => e = .returned (.float .f32 (sumTo G n)) ∧ w' = w := by
  have HC := Lib.hid hc
  have HG := Lib.hid hG
  have hcs := fun b w => run_conv_same (P := Tryz.prog) 25 25 .f32 b w (by kernel_rfl) (by kernel_rfl)
  clear hc hG
  go_enter Tryz.func36, Tryz.ntmps36
  go_wp2
  go_loop [3, 8] (fun v i => ∃ k : Nat, k ≤ n ∧ i = .int .i64 k ∧ v = .float .f32 (sumTo G k)) (fun _ i => n - (intOf i).toNat)
  case atStart => exact ⟨0, by omega, rfl, rfl⟩
  case round =>
    obtain ⟨k, hk, rfl, rfl⟩ := hrel
    by_cases hlt : k < n
    · have ck := HC.out k hlt
      by_cases h0 : k = 0
      · subst h0
        have ck0 : w.cell? ⟨b, o, none⟩ = some (.float .f32 (G 0)) := by simpa using ck
        go_wp2
        go_round
        case rel => exact ⟨1, by omega, rfl, rfl⟩
        case measure => simp [intOf]; omega
      · have h1 : 1 ≤ k := by omega
        have e1 := fun w => run_fadd (P := Tryz.prog) w 25 (lst_sum hn HG.out k hk).1 (HG.out k hlt).1
        clear h0
        go_wp2
        go_round
        case rel => exact ⟨k + 1, by omega, by go_num, by rw [sumTo_step G h1]⟩
        case measure => simp [intOf]; omega
    · obtain rfl : k = n := by omega
      go_wp2
      go_ret
      exact ⟨rfl, rfl⟩
theorem sum_none (ao : Option Addr) (c : Nat) (w : World) : Calls Tryz.prog 36 #[.slice ao 0 c] w fun e w' => e = .returned (.float .f32 0) ∧ w' = w := by
  have hcs := fun b w => run_conv_same (P := Tryz.prog) 25 25 .f32 b w (by kernel_rfl) (by kernel_rfl)
  go_enter Tryz.func36, Tryz.ntmps36
  go_wp2
  go_loop [3, 8] (fun v i => i = .int .i64 0 ∧ v = .float .f32 0) (fun _ _ => 0)
  case atStart => exact ⟨rfl, rfl⟩
  case round =>
    obtain ⟨rfl, rfl⟩ := hrel
    go_wp2
    go_ret
    exact ⟨rfl, rfl⟩
/-- The sum of a list, made or empty. -/
theorem sum_own (G : Nat → Nat) (n c base : Nat) (ao : Option Addr) (w : World) (hn : n ≤ 4000) (hG : ∀ i, i < n → Lst (G i)) (hc : 0 < n → w.ownsRow base 25 1 (.slice ao n c) n (floatsV G n)) :
    Calls Tryz.prog 36 #[.slice ao n c] w fun e w' => e = .returned (.float .f32 (sumTo G n)) ∧ w' = w := by
  rcases Nat.eq_zero_or_pos n with h | h
  · subst h; exact sum_none ao c w
  · obtain ⟨g, cur, rfl, _, _, h1, h2, h3⟩ := own_floats (hc h) h
    exact sum_lst G n g 0 c w hn hG (fun i hi => by
      rw [Nat.zero_add]
      exact (cell_of_row w g i cur _ _ h1).trans (h3 i hi))
theorem lst_print {r : Int} {s t : Nat} {F : Nat → Nat} {fed cover : Nat} (ho : trainB r s t F = true) (hf : filmB fed = true) (hc : partB cover = true) : Lst (turnP r s t F fed cover) := by
  obtain ⟨h2, h12, hs, ht, hfl, hz⟩ := trainB_facts ho
  have ue := turnK_up ho hf (r - 2).toNat (by omega) (r - 1).toNat (by omega) (by omega)
  have pk := part_mul ht hc
  have zc := Z_c3
  have uz : Z32 (turnE r s F fed (r - 1).toNat) ≤ 2 ^ 172 := by
    have := ue.2.2; rw [zc] at this; unfold turnE; omega
  have up := (part_up pk ue.1 ue.2.1 (by have : (2 : Int) ^ 172 ≤ 2 ^ 200 := by decide
                                         unfold turnE at uz; omega)).2
  have h3 := up.2.2
  exact ⟨up.1, up.2.1, by unfold turnE at uz; unfold turnP turnE; omega⟩

theorem ts_lst {r : Int} {s t : Nat} {F : Nat → Nat} {fed cover : Nat} {q : Int} : ∀ j, j < tsN r s t F fed cover q → Lst (prF r s t fed cover F j) := by
  intro j hj
  unfold tsN at hj
  split at hj
  · rename_i h
    unfold tsB at h
    simp only [Bool.and_eq_true] at h
    obtain ⟨ho, hf, hc, _⟩ := ask_yes h.1.1
    exact lst_print (it_ok ho (all_le (n := j) (m := q.toNat) (by omega) h.2)) hf hc
  · omega
theorem ts_fed {r : Int} {s t : Nat} {F : Nat → Nat} {fed cover : Nat} {q : Int} : ∀ j, j < tsN r s t F fed cover q → Lst fed := by
  intro j hj
  unfold tsN at hj
  split at hj
  · rename_i h
    unfold tsB at h
    simp only [Bool.and_eq_true] at h
    obtain ⟨ho, hf, hc, _⟩ := ask_yes h.1.1
    exact lst_film hf
  · omega
theorem ts_ok {r : Int} {s t : Nat} {F : Nat → Nat} {fed cover : Nat} {q : Int} (h : tsB r s t F fed cover q = true) : trainB r s t (itF r s t fed cover F q.toNat) = true := by
  unfold tsB at h
  simp only [Bool.and_eq_true] at h
  exact it_ok (ask_yes h.1.1).1 h.2
/-- The ink that is kept. -/
def keptT (r : Int) (s t : Nat) (F : Nat → Nat) (fed cover : Nat) (q : Int) : Nat := if tsB r s t F fed cover q then sumTo (itF r s t fed cover F q.toNat) r.toNat else 0
theorem three_over (a b c a' b' c' : Value) : ((#[a, b, c] : Array Value).toList.take 0 ++ (#[a', b', c'] : Array Value).toList ++ (#[a, b, c] : Array Value).toList.drop (0 + (#[a', b', c'] : Array Value).toList.length)).toArray = #[a', b', c'] := by simp
theorem three_all (a b c : Value) : (#[a, b, c] : Array Value).extract 0 (0 + 3) = #[a, b, c] := by simp
theorem results_rows {P : Program} {fn : Func} {p p2 u : Tmp} {ty ty2 : TypeId} (h : fn.results = #[.cell p ty, .cell p2 ty2, .tmp u]) (tmps : Array Value) (w : World) (g : Nat) (t : TypeId) (cs : Array Value) (fr : Nat × Nat) (d : TypeDesc) (g2 : Nat) (t2 : TypeId) (cs2 : Array Value) (fr2 : Nat × Nat) (d2 : TypeDesc) (v : Value)
    (hp : tmps.getD p undef = .pointer (some ⟨g, 0, none⟩)) (hp2 : tmps.getD p2 undef = .pointer (some ⟨g2, 0, none⟩)) (hv : tmps.getD u undef = v) (hg : w.heap[g]? = some (.cells cs t fr)) (hg2 : w.heap[g2]? = some (.cells cs2 t2 fr2))
    (hu : P.underlying ty = some d) (hd : (match d with | .struct _ | .array _ _ => true | _ => false) = true) (hi : (P.info? ty).map (·.size) = some cs.size)
    (hu2 : P.underlying ty2 = some d2) (hd2 : (match d2 with | .struct _ | .array _ _ => true | _ => false) = true) (hi2 : (P.info? ty2).map (·.size) = some cs2.size) :
    (results fn tmps).run P w = .ok (.tuple #[.agg cs, .agg cs2, v]) w := by
  subst hv
  have hp' : tmps[p]?.getD undef = .pointer (some ⟨g, 0, none⟩) := by simpa using hp
  have hp2' : tmps[p2]?.getD undef = .pointer (some ⟨g2, 0, none⟩) := by simpa using hp2
  simp [results, h, hp', hp2', asAddr, run_loadVar_row w g t ty cs fr d hg hu hd hi, run_loadVar_row w g2 t2 ty2 cs2 fr2 d2 hg2 hu2 hd2 hi2]

set_option maxRecDepth 100000 in
set_option maxHeartbeats 3200000 in
theorem specTimes_any (r : Int) (s t : Nat) (F : Nat → Nat) (fed cover : Nat) (q : Int) (w : World) (lr : -128 ≤ r) (ur : r ≤ 127) (lq : -9223372036854775808 ≤ q) (uq : q ≤ 9223372036854775807) : Calls Tryz.prog 12 #[.agg (train r s t F), .float .f32 fed, .float .f32 cover, .int .i64 q] w fun e w' => e = .returned (.tuple #[.agg (if tsB r s t F fed cover q then train r s t (itF r s t fed cover F q.toNat) else train 0 0 0 (fun _ => 0)), .agg #[.float .f32 (sumTo (fun _ => fed) (tsN r s t F fed cover q)), .float .f32 (sumTo (prF r s t fed cover F) (tsN r s t F fed cover q)), .float .f32 (keptT r s t F fed cover q)], .int .i64 (tsC r s t F fed cover q)]) ∧ Below w.heap.size w w' := by
  have hz : (#[Value.int IntKind.i8 0, Value.float FloatKind.f32 0, Value.float FloatKind.f32 0, Value.float FloatKind.f32 0, Value.float FloatKind.f32 0, Value.float FloatKind.f32 0, Value.float FloatKind.f32 0, Value.float FloatKind.f32 0, Value.float FloatKind.f32 0, Value.float FloatKind.f32 0, Value.float FloatKind.f32 0, Value.float FloatKind.f32 0, Value.float FloatKind.f32 0, Value.float FloatKind.f32 0, Value.float FloatKind.f32 0] : Array Value) = row [Value.int IntKind.i8 0, Value.float FloatKind.f32 0, Value.float FloatKind.f32 0] 12 (fun _ => 0) := rfl
  have hT := fun w => specTurns_any r s t F fed cover q w lr ur lq uq
  have hle : tsN r s t F fed cover q ≤ 2000 := ts_le
  unfold keptT
  cases hb : tsB r s t F fed cover q
  · obtain ⟨hne, hN⟩ := ts_no hb
    rw [hb, hN] at hT
    rw [hN]
    obtain ⟨c, hcc⟩ : ∃ c, tsC r s t F fed cover q = c := ⟨_, rfl⟩
    rw [hcc] at hT hne ⊢
    have hnb : (c != 0) = true := by simp [hne]
    clear hcc hb hN hle
    go_enter Tryz.func12, Tryz.ntmps12
    go_wp2_with (first | (go_at_call 37; (with_reducible refine (hT _).mono ?_); rintro e w2 ⟨v, rfl, hF, hb2⟩; have hz2 := hb2.size; (try simp at hz2); obtain ⟨ao, cap, rfl, hown⟩ := hF; have HOW := Lib.hid hown; clear hown) | (go_at_call 38; (with_reducible refine (specInk_any r s t G _ lr ur hok _ ?_).mono ?_); (focus (repeat (first | (with_reducible assumption) | ((with_reducible refine blk_new _ _ _ ?_); focus (simp; done)) | ((with_reducible refine blk_old _ _ _ ?_ ?_); focus (simp; done)) | ((with_reducible refine blk_old _ _ _ ?_ ?_); focus (first | omega | (simp; omega))) | ((with_reducible apply blk_set); focus (simp; done)) | ((with_reducible refine blk_off _ _ _ _ ?_ ?_); focus (simp; done)) | ((with_reducible refine blk_offc _ _ _ _ ?_ ?_); focus (first | (simp; done) | omega | (simp; omega))) | ((with_reducible refine blk_off _ _ _ _ ?_ ?_); focus (first | omega | (simp; omega))) | (with_reducible refine blk_drew _ _ ?_) | ((with_reducible refine blk_below (by assumption) ?_ ?_); focus (simp; done)) | ((with_reducible refine blk_below (by assumption) ?_ ?_); focus (first | omega | (simp; omega)))))); rintro e w' ⟨rfl, rfl⟩) | ((with_reducible refine at_load 28 ?_); refine wpList_load_part rfl 28 _ rfl _ 0 15 rfl _ _ _ _ (by repeat (first | (with_reducible assumption) | ((with_reducible refine blk_new _ _ _ ?_); focus (simp; done)) | ((with_reducible refine blk_old _ _ _ ?_ ?_); focus (simp; done)) | ((with_reducible refine blk_old _ _ _ ?_ ?_); focus (first | omega | (simp; omega))) | ((with_reducible apply blk_set); focus (simp; done)) | ((with_reducible refine blk_off _ _ _ _ ?_ ?_); focus (simp; done)) | ((with_reducible refine blk_offc _ _ _ _ ?_ ?_); focus (first | (simp; done) | omega | (simp; omega))) | ((with_reducible refine blk_off _ _ _ _ ?_ ?_); focus (first | omega | (simp; omega))) | (with_reducible refine blk_drew _ _ ?_) | ((with_reducible refine blk_below (by assumption) ?_ ?_); focus (simp; done)) | ((with_reducible refine blk_below (by assumption) ?_ ?_); focus (first | omega | (simp; omega))))) Tryz.underlying28 rfl (by kernel_rfl) (by simp [row_size]) _ (row_all [_, _, _] 12 _) ?_) | ((with_reducible refine at_store 28 ?_); refine wpList_store_part rfl 28 _ _ rfl _ 0 _ rfl rfl _ _ (by repeat (first | (with_reducible assumption) | ((with_reducible refine blk_new _ _ _ ?_); focus (simp; done)) | ((with_reducible refine blk_old _ _ _ ?_ ?_); focus (simp; done)) | ((with_reducible refine blk_old _ _ _ ?_ ?_); focus (first | omega | (simp; omega))) | ((with_reducible apply blk_set); focus (simp; done)) | ((with_reducible refine blk_off _ _ _ _ ?_ ?_); focus (simp; done)) | ((with_reducible refine blk_offc _ _ _ _ ?_ ?_); focus (first | (simp; done) | omega | (simp; omega))) | ((with_reducible refine blk_off _ _ _ _ ?_ ?_); focus (first | omega | (simp; omega))) | (with_reducible refine blk_drew _ _ ?_) | ((with_reducible refine blk_below (by assumption) ?_ ?_); focus (simp; done)) | ((with_reducible refine blk_below (by assumption) ?_ ?_); focus (first | omega | (simp; omega))))) (by rw [row_size]; kernel_rfl) (by simp [row_size]) (row_cells _ _ _ rfl) _ (row_over _ _ 12 _ _ (by simp)) ?_) | ((with_reducible refine at_load 36 ?_); refine wpList_load_part rfl 36 _ rfl _ 0 3 rfl _ _ _ _ (by repeat (first | (with_reducible assumption) | ((with_reducible refine blk_new _ _ _ ?_); focus (simp; done)) | ((with_reducible refine blk_old _ _ _ ?_ ?_); focus (simp; done)) | ((with_reducible refine blk_old _ _ _ ?_ ?_); focus (first | omega | (simp; omega))) | ((with_reducible apply blk_set); focus (simp; done)) | ((with_reducible refine blk_off _ _ _ _ ?_ ?_); focus (simp; done)) | ((with_reducible refine blk_offc _ _ _ _ ?_ ?_); focus (first | (simp; done) | omega | (simp; omega))) | ((with_reducible refine blk_off _ _ _ _ ?_ ?_); focus (first | omega | (simp; omega))) | (with_reducible refine blk_drew _ _ ?_) | ((with_reducible refine blk_below (by assumption) ?_ ?_); focus (simp; done)) | ((with_reducible refine blk_below (by assumption) ?_ ?_); focus (first | omega | (simp; omega))))) Tryz.underlying36 rfl (by kernel_rfl) (by simp) _ (three_all _ _ _) ?_) | ((with_reducible refine at_store 36 ?_); refine wpList_store_part rfl 36 _ _ rfl _ 0 _ rfl rfl _ _ (by repeat (first | (with_reducible assumption) | ((with_reducible refine blk_new _ _ _ ?_); focus (simp; done)) | ((with_reducible refine blk_old _ _ _ ?_ ?_); focus (simp; done)) | ((with_reducible refine blk_old _ _ _ ?_ ?_); focus (first | omega | (simp; omega))) | ((with_reducible apply blk_set); focus (simp; done)) | ((with_reducible refine blk_off _ _ _ _ ?_ ?_); focus (simp; done)) | ((with_reducible refine blk_offc _ _ _ _ ?_ ?_); focus (first | (simp; done) | omega | (simp; omega))) | ((with_reducible refine blk_off _ _ _ _ ?_ ?_); focus (first | omega | (simp; omega))) | (with_reducible refine blk_drew _ _ ?_) | ((with_reducible refine blk_below (by assumption) ?_ ?_); focus (simp; done)) | ((with_reducible refine blk_below (by assumption) ?_ ?_); focus (first | omega | (simp; omega))))) (by kernel_rfl) (by simp) (by kernel_rfl) _ (three_over _ _ _ _ _ _) ?_) | go_in)
    exact bodyPost_ret (results_rows Tryz.results12 _ _ _ 28 (train 0 0 0 (fun _ => 0)) (0, 0) _ _ 36 #[.float .f32 0, .float .f32 0, .float .f32 0] (0, 0) _ (.int .i64 c) rfl rfl rfl (by repeat (first | (with_reducible assumption) | ((with_reducible refine blk_new _ _ _ ?_); focus (simp; done)) | ((with_reducible refine blk_old _ _ _ ?_ ?_); focus (simp; done)) | ((with_reducible refine blk_old _ _ _ ?_ ?_); focus (first | omega | (simp; omega))) | ((with_reducible apply blk_set); focus (simp; done)) | ((with_reducible refine blk_off _ _ _ _ ?_ ?_); focus (simp; done)) | ((with_reducible refine blk_offc _ _ _ _ ?_ ?_); focus (first | (simp; done) | omega | (simp; omega))) | ((with_reducible refine blk_off _ _ _ _ ?_ ?_); focus (first | omega | (simp; omega))) | (with_reducible refine blk_drew _ _ ?_) | ((with_reducible refine blk_below (by assumption) ?_ ?_); focus (simp; done)) | ((with_reducible refine blk_below (by assumption) ?_ ?_); focus (first | omega | (simp; omega))))) (by repeat (first | (with_reducible assumption) | ((with_reducible refine blk_new _ _ _ ?_); focus (simp; done)) | ((with_reducible refine blk_old _ _ _ ?_ ?_); focus (simp; done)) | ((with_reducible refine blk_old _ _ _ ?_ ?_); focus (first | omega | (simp; omega))) | ((with_reducible apply blk_set); focus (simp; done)) | ((with_reducible refine blk_off _ _ _ _ ?_ ?_); focus (simp; done)) | ((with_reducible refine blk_offc _ _ _ _ ?_ ?_); focus (first | (simp; done) | omega | (simp; omega))) | ((with_reducible refine blk_off _ _ _ _ ?_ ?_); focus (first | omega | (simp; omega))) | (with_reducible refine blk_drew _ _ ?_) | ((with_reducible refine blk_below (by assumption) ?_ ?_); focus (simp; done)) | ((with_reducible refine blk_below (by assumption) ?_ ?_); focus (first | omega | (simp; omega))))) Tryz.underlying28 rfl (by simp only [row_size]; kernel_rfl) Tryz.underlying36 rfl (by kernel_rfl)) rfl (by exact ⟨rfl, (by repeat (first | (with_reducible assumption) | (with_reducible exact Below.refl _ _) | ((with_reducible refine bel_alloc _ ?_ ?_); focus (first | omega | (simp; done) | (simp; omega))) | ((with_reducible refine bel_row _ ?_ ?_); focus (first | omega | (simp; done) | (simp; omega))) | ((with_reducible refine bel_cell _ ?_ ?_); focus (first | omega | (simp; done) | (simp; omega))) | (with_reducible refine Below.drew ?_) | (with_reducible refine below_wideW _ ?_) | ((with_reducible refine bel_next (by assumption) ?_ ?_); focus (first | omega | (simp; done) | (simp; omega)))))⟩)
  · have hok := ts_ok hb
    have HP := Lib.hid (ts_lst (r := r) (s := s) (t := t) (F := F) (fed := fed) (cover := cover) (q := q))
    have HFD := Lib.hid (ts_fed (r := r) (s := s) (t := t) (F := F) (fed := fed) (cover := cover) (q := q))
    obtain ⟨hC, hN⟩ := ts_yes hb
    rw [hb, hC] at hT
    rw [hC]
    obtain ⟨G, hG⟩ : ∃ G, itF r s t fed cover F q.toNat = G := ⟨_, rfl⟩
    rw [hG] at hT hok ⊢
    obtain ⟨n, hn⟩ : ∃ n, tsN r s t F fed cover q = n := ⟨_, rfl⟩
    rw [hn] at hT HP HFD hle ⊢
    obtain ⟨P, hP⟩ : ∃ P, prF r s t fed cover F = P := ⟨_, rfl⟩
    rw [hP] at hT HP ⊢
    clear hb hC hN hG hn hP
    show Calls _ _ _ _ fun e w' => e = .returned (.tuple #[.agg (train r s t G), .agg #[.float .f32 (sumTo (fun _ => fed) n), .float .f32 (sumTo P n), .float .f32 (sumTo G r.toNat)], .int .i64 0]) ∧ Below w.heap.size w w'
    obtain ⟨K, hK0⟩ : ∃ K, sumTo G r.toNat = K := ⟨_, rfl⟩
    have hn0 : (0 : Int) ≤ n := by omega
    have hn2 : (n : Int) ≤ 2000 := by omega
    rw [hK0]
    have HK := Lib.hid hK0
    clear hK0
    go_enter Tryz.func12, Tryz.ntmps12
    go_upto_region 5 with (first | (go_at_call 38; (with_reducible refine (specInk_any r s t G _ lr ur hok _ ?_).mono ?_); (focus (repeat (first | (with_reducible assumption) | ((with_reducible refine blk_new _ _ _ ?_); focus (simp; done)) | ((with_reducible refine blk_old _ _ _ ?_ ?_); focus (simp; done)) | ((with_reducible refine blk_old _ _ _ ?_ ?_); focus (first | omega | (simp; omega))) | ((with_reducible apply blk_set); focus (simp; done)) | ((with_reducible refine blk_off _ _ _ _ ?_ ?_); focus (simp; done)) | ((with_reducible refine blk_offc _ _ _ _ ?_ ?_); focus (first | (simp; done) | omega | (simp; omega))) | ((with_reducible refine blk_off _ _ _ _ ?_ ?_); focus (first | omega | (simp; omega))) | (with_reducible refine blk_drew _ _ ?_) | ((with_reducible refine blk_below (by assumption) ?_ ?_); focus (simp; done)) | ((with_reducible refine blk_below (by assumption) ?_ ?_); focus (first | omega | (simp; omega)))))); rintro e w' ⟨rfl, rfl⟩; rw [HK.out]) | (first | (go_at_call 37; (with_reducible refine (hT _).mono ?_); rintro e w2 ⟨v, rfl, hF, hb2⟩; have hz2 := hb2.size; (try simp at hz2); obtain ⟨ao, cap, rfl, hown⟩ := hF; have HOW := Lib.hid hown; clear hown) | (go_at_call 38; (with_reducible refine (specInk_any r s t G _ lr ur hok _ ?_).mono ?_); (focus (repeat (first | (with_reducible assumption) | ((with_reducible refine blk_new _ _ _ ?_); focus (simp; done)) | ((with_reducible refine blk_old _ _ _ ?_ ?_); focus (simp; done)) | ((with_reducible refine blk_old _ _ _ ?_ ?_); focus (first | omega | (simp; omega))) | ((with_reducible apply blk_set); focus (simp; done)) | ((with_reducible refine blk_off _ _ _ _ ?_ ?_); focus (simp; done)) | ((with_reducible refine blk_offc _ _ _ _ ?_ ?_); focus (first | (simp; done) | omega | (simp; omega))) | ((with_reducible refine blk_off _ _ _ _ ?_ ?_); focus (first | omega | (simp; omega))) | (with_reducible refine blk_drew _ _ ?_) | ((with_reducible refine blk_below (by assumption) ?_ ?_); focus (simp; done)) | ((with_reducible refine blk_below (by assumption) ?_ ?_); focus (first | omega | (simp; omega)))))); rintro e w' ⟨rfl, rfl⟩) | ((with_reducible refine at_load 28 ?_); refine wpList_load_part rfl 28 _ rfl _ 0 15 rfl _ _ _ _ (by repeat (first | (with_reducible assumption) | ((with_reducible refine blk_new _ _ _ ?_); focus (simp; done)) | ((with_reducible refine blk_old _ _ _ ?_ ?_); focus (simp; done)) | ((with_reducible refine blk_old _ _ _ ?_ ?_); focus (first | omega | (simp; omega))) | ((with_reducible apply blk_set); focus (simp; done)) | ((with_reducible refine blk_off _ _ _ _ ?_ ?_); focus (simp; done)) | ((with_reducible refine blk_offc _ _ _ _ ?_ ?_); focus (first | (simp; done) | omega | (simp; omega))) | ((with_reducible refine blk_off _ _ _ _ ?_ ?_); focus (first | omega | (simp; omega))) | (with_reducible refine blk_drew _ _ ?_) | ((with_reducible refine blk_below (by assumption) ?_ ?_); focus (simp; done)) | ((with_reducible refine blk_below (by assumption) ?_ ?_); focus (first | omega | (simp; omega))))) Tryz.underlying28 rfl (by kernel_rfl) (by simp [row_size]) _ (row_all [_, _, _] 12 _) ?_) | ((with_reducible refine at_store 28 ?_); refine wpList_store_part rfl 28 _ _ rfl _ 0 _ rfl rfl _ _ (by repeat (first | (with_reducible assumption) | ((with_reducible refine blk_new _ _ _ ?_); focus (simp; done)) | ((with_reducible refine blk_old _ _ _ ?_ ?_); focus (simp; done)) | ((with_reducible refine blk_old _ _ _ ?_ ?_); focus (first | omega | (simp; omega))) | ((with_reducible apply blk_set); focus (simp; done)) | ((with_reducible refine blk_off _ _ _ _ ?_ ?_); focus (simp; done)) | ((with_reducible refine blk_offc _ _ _ _ ?_ ?_); focus (first | (simp; done) | omega | (simp; omega))) | ((with_reducible refine blk_off _ _ _ _ ?_ ?_); focus (first | omega | (simp; omega))) | (with_reducible refine blk_drew _ _ ?_) | ((with_reducible refine blk_below (by assumption) ?_ ?_); focus (simp; done)) | ((with_reducible refine blk_below (by assumption) ?_ ?_); focus (first | omega | (simp; omega))))) (by rw [row_size]; kernel_rfl) (by simp [row_size]) (row_cells _ _ _ rfl) _ (row_over _ _ 12 _ _ (by simp)) ?_) | ((with_reducible refine at_load 36 ?_); refine wpList_load_part rfl 36 _ rfl _ 0 3 rfl _ _ _ _ (by repeat (first | (with_reducible assumption) | ((with_reducible refine blk_new _ _ _ ?_); focus (simp; done)) | ((with_reducible refine blk_old _ _ _ ?_ ?_); focus (simp; done)) | ((with_reducible refine blk_old _ _ _ ?_ ?_); focus (first | omega | (simp; omega))) | ((with_reducible apply blk_set); focus (simp; done)) | ((with_reducible refine blk_off _ _ _ _ ?_ ?_); focus (simp; done)) | ((with_reducible refine blk_offc _ _ _ _ ?_ ?_); focus (first | (simp; done) | omega | (simp; omega))) | ((with_reducible refine blk_off _ _ _ _ ?_ ?_); focus (first | omega | (simp; omega))) | (with_reducible refine blk_drew _ _ ?_) | ((with_reducible refine blk_below (by assumption) ?_ ?_); focus (simp; done)) | ((with_reducible refine blk_below (by assumption) ?_ ?_); focus (first | omega | (simp; omega))))) Tryz.underlying36 rfl (by kernel_rfl) (by simp) _ (three_all _ _ _) ?_) | ((with_reducible refine at_store 36 ?_); refine wpList_store_part rfl 36 _ _ rfl _ 0 _ rfl rfl _ _ (by repeat (first | (with_reducible assumption) | ((with_reducible refine blk_new _ _ _ ?_); focus (simp; done)) | ((with_reducible refine blk_old _ _ _ ?_ ?_); focus (simp; done)) | ((with_reducible refine blk_old _ _ _ ?_ ?_); focus (first | omega | (simp; omega))) | ((with_reducible apply blk_set); focus (simp; done)) | ((with_reducible refine blk_off _ _ _ _ ?_ ?_); focus (simp; done)) | ((with_reducible refine blk_offc _ _ _ _ ?_ ?_); focus (first | (simp; done) | omega | (simp; omega))) | ((with_reducible refine blk_off _ _ _ _ ?_ ?_); focus (first | omega | (simp; omega))) | (with_reducible refine blk_drew _ _ ?_) | ((with_reducible refine blk_below (by assumption) ?_ ?_); focus (simp; done)) | ((with_reducible refine blk_below (by assumption) ?_ ?_); focus (first | omega | (simp; omega))))) (by kernel_rfl) (by simp) (by kernel_rfl) _ (three_over _ _ _ _ _ _) ?_) | go_in))
    refine wp_name (fun W => W.heap[w.heap.size + 1]? = some (.cells (train 0 0 0 (fun _ => 0)) 28 (0, 0)) ∧ W.heap[w.heap.size + 2]? = some (.cells #[.float .f32 0, .float .f32 0, .float .f32 0] 36 (0, 0)) ∧ W.heap[w2.heap.size]? = some (.cells (train r s t G) 28 (0, 0)) ∧ W.heap[w2.heap.size + 1]? = some (.cells #[.float .f32 0, .float .f32 0, .float .f32 K] 36 (0, 0)) ∧ (∀ i, w.heap.size + 3 ≤ i → i < w2.heap.size → W.heap[i]? = w2.heap[i]?) ∧ Below w.heap.size w W ∧ w2.heap.size + 2 ≤ W.heap.size) ⟨(by repeat (first | (with_reducible assumption) | ((with_reducible refine blk_new _ _ _ ?_); focus (simp; done)) | ((with_reducible refine blk_old _ _ _ ?_ ?_); focus (simp; done)) | ((with_reducible refine blk_old _ _ _ ?_ ?_); focus (first | omega | (simp; omega))) | ((with_reducible apply blk_set); focus (simp; done)) | ((with_reducible refine blk_off _ _ _ _ ?_ ?_); focus (simp; done)) | ((with_reducible refine blk_offc _ _ _ _ ?_ ?_); focus (first | (simp; done) | omega | (simp; omega))) | ((with_reducible refine blk_off _ _ _ _ ?_ ?_); focus (first | omega | (simp; omega))) | (with_reducible refine blk_drew _ _ ?_) | ((with_reducible refine blk_below (by assumption) ?_ ?_); focus (simp; done)) | ((with_reducible refine blk_below (by assumption) ?_ ?_); focus (first | omega | (simp; omega))))), (by repeat (first | (with_reducible assumption) | ((with_reducible refine blk_new _ _ _ ?_); focus (simp; done)) | ((with_reducible refine blk_old _ _ _ ?_ ?_); focus (simp; done)) | ((with_reducible refine blk_old _ _ _ ?_ ?_); focus (first | omega | (simp; omega))) | ((with_reducible apply blk_set); focus (simp; done)) | ((with_reducible refine blk_off _ _ _ _ ?_ ?_); focus (simp; done)) | ((with_reducible refine blk_offc _ _ _ _ ?_ ?_); focus (first | (simp; done) | omega | (simp; omega))) | ((with_reducible refine blk_off _ _ _ _ ?_ ?_); focus (first | omega | (simp; omega))) | (with_reducible refine blk_drew _ _ ?_) | ((with_reducible refine blk_below (by assumption) ?_ ?_); focus (simp; done)) | ((with_reducible refine blk_below (by assumption) ?_ ?_); focus (first | omega | (simp; omega))))), (by repeat (first | (with_reducible assumption) | ((with_reducible refine blk_new _ _ _ ?_); focus (simp; done)) | ((with_reducible refine blk_old _ _ _ ?_ ?_); focus (simp; done)) | ((with_reducible refine blk_old _ _ _ ?_ ?_); focus (first | omega | (simp; omega))) | ((with_reducible apply blk_set); focus (simp; done)) | ((with_reducible refine blk_off _ _ _ _ ?_ ?_); focus (simp; done)) | ((with_reducible refine blk_offc _ _ _ _ ?_ ?_); focus (first | (simp; done) | omega | (simp; omega))) | ((with_reducible refine blk_off _ _ _ _ ?_ ?_); focus (first | omega | (simp; omega))) | (with_reducible refine blk_drew _ _ ?_) | ((with_reducible refine blk_below (by assumption) ?_ ?_); focus (simp; done)) | ((with_reducible refine blk_below (by assumption) ?_ ?_); focus (first | omega | (simp; omega))))), (by repeat (first | (with_reducible assumption) | ((with_reducible refine blk_new _ _ _ ?_); focus (simp; done)) | ((with_reducible refine blk_old _ _ _ ?_ ?_); focus (simp; done)) | ((with_reducible refine blk_old _ _ _ ?_ ?_); focus (first | omega | (simp; omega))) | ((with_reducible apply blk_set); focus (simp; done)) | ((with_reducible refine blk_off _ _ _ _ ?_ ?_); focus (simp; done)) | ((with_reducible refine blk_offc _ _ _ _ ?_ ?_); focus (first | (simp; done) | omega | (simp; omega))) | ((with_reducible refine blk_off _ _ _ _ ?_ ?_); focus (first | omega | (simp; omega))) | (with_reducible refine blk_drew _ _ ?_) | ((with_reducible refine blk_below (by assumption) ?_ ?_); focus (simp; done)) | ((with_reducible refine blk_below (by assumption) ?_ ?_); focus (first | omega | (simp; omega))))), fun i hi1 hi2 => (by repeat (first | (with_reducible rfl) | ((with_reducible refine blk_new _ _ _ ?_); focus (simp; done)) | ((with_reducible refine blk_old _ _ _ ?_ ?_); focus (simp; done)) | ((with_reducible refine blk_old _ _ _ ?_ ?_); focus (first | omega | (simp; omega))) | ((with_reducible apply blk_set); focus (simp; done)) | ((with_reducible refine blk_off _ _ _ _ ?_ ?_); focus (simp; done)) | ((with_reducible refine blk_offc _ _ _ _ ?_ ?_); focus (first | (simp; done) | omega | (simp; omega))) | ((with_reducible refine blk_off _ _ _ _ ?_ ?_); focus (first | omega | (simp; omega))) | (with_reducible refine blk_drew _ _ ?_) | ((with_reducible refine blk_below (by assumption) ?_ ?_); focus (simp; done)) | ((with_reducible refine blk_below (by assumption) ?_ ?_); focus (first | omega | (simp; omega))))), (by repeat (first | (with_reducible assumption) | (with_reducible exact Below.refl _ _) | ((with_reducible refine bel_alloc _ ?_ ?_); focus (first | omega | (simp; done) | (simp; omega))) | ((with_reducible refine bel_row _ ?_ ?_); focus (first | omega | (simp; done) | (simp; omega))) | ((with_reducible refine bel_cell _ ?_ ?_); focus (first | omega | (simp; done) | (simp; omega))) | (with_reducible refine Below.drew ?_) | (with_reducible refine below_wideW _ ?_) | ((with_reducible refine bel_next (by assumption) ?_ ?_); focus (first | omega | (simp; done) | (simp; omega))))), by first | (simp; done) | omega | (simp; omega)⟩ (fun W ⟨b1, b2, b3, b4, b5, b6, b7⟩ => ?_)
    have hz3 : w.heap.size + 3 ≤ w2.heap.size := by first | omega | (simp at hz2; omega)
    obtain ⟨bb, hbb⟩ : ∃ bb, w2.heap.size + 1 = bb := ⟨_, rfl⟩
    obtain ⟨bt, hbt⟩ : ∃ bt, w2.heap.size = bt := ⟨_, rfl⟩
    rw [hbb] at b4
    rw [hbt] at b3
    try rw [hbb]
    try rw [hbt]
    have B1 := Lib.hid b1
    have B2 := Lib.hid b2
    have B3 := Lib.hid b3
    have B4 := Lib.hid b4
    have B5 := Lib.hid b5
    have B6 := Lib.hid b6
    clear b1 b2 b3 b4 b5 b6
    go_wp2
    go_loopw [15] (fun i wr => ∃ k : Nat, k ≤ n ∧ i = .int .i64 k ∧ wr.heap[bb]? = some (.cells #[.float .f32 (sumTo (fun _ => fed) k), .float .f32 (sumTo P k), .float .f32 K] 36 (0, 0)) ∧ (∀ i, i ≠ bb → wr.heap[i]? = W.heap[i]?) ∧ Below w.heap.size w wr) (fun i _ => n - (intOf i).toNat)
    case atStart => exact ⟨0, by omega, rfl, B4.out, fun _ _ => rfl, B6.out⟩
    case round =>
      obtain ⟨k, hk, rfl, h1, h2, h3⟩ := hrel
      have H1 := Lib.hid h1
      have H2 := Lib.hid h2
      have H3 := Lib.hid h3
      clear h1 h2 h3
      have c0 : wr.cell? ⟨bb, 0, none⟩ = some (.float .f32 (sumTo (fun _ => fed) k)) := (cell_of_row wr bb 0 _ _ _ H1.out).trans rfl
      have c1 : wr.cell? ⟨bb, 1, none⟩ = some (.float .f32 (sumTo P k)) := (cell_of_row wr bb 1 _ _ _ H1.out).trans rfl
      have f0 : wr.frozen? ⟨bb, 0, none⟩ = false := frozen_of_row wr _ _ _ _ H1.out
      have f1 : wr.frozen? ⟨bb, 1, none⟩ = false := frozen_of_row wr _ _ _ _ H1.out
      by_cases hlt : k < n
      · obtain ⟨g, cur, rfl, hg1, hg2, hg3, hg4, hg5⟩ := own_floats (HOW.out (by omega)) (by omega)
        have hgb : w.heap.size + 3 ≤ g := by first | omega | (simp at hg1; omega)
        have hne : g ≠ bb := by omega
        have cg : wr.cell? ⟨g, k, none⟩ = some (.float .f32 (P k)) := (cell_of_row wr g k cur _ _ ((H2.out g hne).trans ((B5.out g hgb hg2).trans hg3))).trans (hg5 k hlt)
        have k0 : (0 : Int) ≤ k := by omega
        have kn : (k : Int) < n := by omega
        have HG3 := Lib.hid hg3
        have HG5 := Lib.hid hg5
        clear hg1 hg3 hg5 hg4
        by_cases h0 : k = 0
        · subst h0
          go_wp2
          go_roundw
          case rel => exact ⟨1, by omega, rfl, heap_setCell_same _ bb 1 _ _ (.float .f32 (P 0)) (heap_setCell_same wr bb 0 _ _ (.float .f32 fed) H1.out), fun i hi => (heap_setCell_other _ _ i _ hi).trans ((heap_setCell_other wr _ i _ hi).trans (H2.out i hi)), (H3.out.setCell (by simp; omega) _).setCell (by simp; omega) _⟩
          case measure => simp [intOf]; omega
        · have h1 : 1 ≤ k := by omega
          have hk0 : ¬ (k : Int) = 0 := by omega
          have hfd := (HFD.out k hlt).1
          have e1 := fun w => run_fadd (P := Tryz.prog) w 25 (lst_sum (G := fun _ => fed) (by omega) HFD.out k hk).1 hfd
          have e2 := fun w => run_fadd (P := Tryz.prog) w 25 (lst_sum (by omega) HP.out k hk).1 (HP.out k hlt).1
          clear h0
          go_wp2
          refine wp_name (fun W2 => W2.heap[bb]? = some (.cells #[.float .f32 (sumTo (fun _ => fed) (k + 1)), .float .f32 (sumTo P k), .float .f32 K] 36 (0, 0)) ∧ (∀ i, i ≠ bb → W2.heap[i]? = W.heap[i]?) ∧ Below w.heap.size w W2) ⟨by rw [sumTo_step _ h1]; simpa using heap_setCell_same wr bb 0 _ _ (.float .f32 (fadd (sumTo (fun _ => fed) k) fed)) H1.out, fun i hi => (heap_setCell_other wr _ i _ hi).trans (H2.out i hi), H3.out.setCell (by simp; omega) _⟩ (fun W2 ⟨d1, d2, d3⟩ => ?_)
          clear c0 c1 f0 f1 cg H1 H2 H3
          have c1 : W2.cell? ⟨bb, 1, none⟩ = some (.float .f32 (sumTo P k)) := (cell_of_row W2 bb 1 _ _ _ d1).trans rfl
          have f1 : W2.frozen? ⟨bb, 1, none⟩ = false := frozen_of_row W2 _ _ _ _ d1
          have cg : W2.cell? ⟨g, k, none⟩ = some (.float .f32 (P k)) := (cell_of_row W2 g k cur _ _ ((d2 g hne).trans ((B5.out g hgb hg2).trans HG3.out))).trans (HG5.out k hlt)
          have D1 := Lib.hid d1
          have D2 := Lib.hid d2
          have D3 := Lib.hid d3
          clear d1 d2 d3
          go_still_tail 8, (by kernel_rfl)
          go_wp2
          go_roundw
          case rel => exact ⟨k + 1, by omega, by go_num, blk_drew _ _ (by rw [sumTo_step P h1]; simpa using heap_setCell_same W2 bb 1 _ _ (.float .f32 (fadd (sumTo P k) (P k))) D1.out), fun i hi => (heap_setCell_other W2 _ i _ hi).trans (D2.out i hi), Below.drew (D3.out.setCell (by simp; omega) _)⟩
          case measure => simp [intOf]; omega
      · obtain rfl : k = n := by omega
        have q1 : wr.heap[w.heap.size + 1]? = some (.cells (train 0 0 0 (fun _ => 0)) 28 (0, 0)) := (H2.out _ (by omega)).trans B1.out
        have q2 : wr.heap[w.heap.size + 2]? = some (.cells #[.float .f32 0, .float .f32 0, .float .f32 0] 36 (0, 0)) := (H2.out _ (by omega)).trans B2.out
        have q3 : wr.heap[bt]? = some (.cells (train r s t G) 28 (0, 0)) := (H2.out _ (by omega)).trans B3.out
        have q4 := H1.out
        have q5 := H3.out
        clear c0 c1 f0 f1
        go_wp2
        refine wp_name (fun W3 => W3.heap[w.heap.size + 1]? = some (.cells (train 0 0 0 (fun _ => 0)) 28 (0, 0)) ∧ W3.heap[w.heap.size + 2]? = some (.cells #[.float .f32 0, .float .f32 0, .float .f32 0] 36 (0, 0)) ∧ W3.heap[bt]? = some (.cells (train r s t G) 28 (0, 0)) ∧ W3.heap[bb]? = some (.cells #[.float .f32 (sumTo (fun _ => fed) k), .float .f32 (sumTo P k), .float .f32 K] 36 (0, 0)) ∧ Below w.heap.size w W3) ⟨q1, q2, q3, q4, q5⟩ (fun W3 ⟨q1, q2, q3, q4, q5⟩ => ?_)
        generalize hbal : (#[.float .f32 (sumTo (fun _ => fed) k), .float .f32 (sumTo P k), .float .f32 K] : Array Value) = BA at *
        refine wp_region_held_drew (S := fun w' => w'.heap[bt]? = some (.cells (train r s t G) 28 (0, 0)) ∧ w'.heap[bb]? = some (.cells BA 36 (0, 0))) (by kernel_rfl) ⟨q3, q4⟩ (fun hS => ?_)
        refine held_load 0 rfl rfl (by kernel_rfl) (by kernel_rfl) (by kernel_rfl) (fun _ _ _ _ h => h) 28 _ rfl bt 0 15 rfl _ _ _ _ (fun _ h => h.1) Tryz.underlying28 rfl (by kernel_rfl) (by simp [row_size]) _ (row_all [_, _, _] 12 _) hS ?_
        refine held_load 1 rfl rfl (by kernel_rfl) (by kernel_rfl) (by kernel_rfl) (fun _ _ _ _ h => h) 36 _ rfl bb 0 3 rfl _ _ _ _ (fun _ h => h.2) Tryz.underlying36 rfl (by kernel_rfl) (by subst hbal; simp) BA (by subst hbal; simp) hS ?_
        refine held_store 2 (by kernel_rfl) rfl rfl 28 _ _ rfl (w.heap.size + 1) 0 (train r s t G) rfl rfl _ (train 0 0 0 (fun _ => 0)) q1 (by rw [row_size]; kernel_rfl) (by simp [row_size]) (row_cells _ _ _ rfl) _ (row_over _ _ 12 _ _ (by simp)) ⟨(by repeat (first | (with_reducible assumption) | ((with_reducible refine blk_new _ _ _ ?_); focus (simp; done)) | ((with_reducible refine blk_old _ _ _ ?_ ?_); focus (simp; done)) | ((with_reducible refine blk_old _ _ _ ?_ ?_); focus (first | omega | (simp; omega))) | ((with_reducible apply blk_set); focus (simp; done)) | ((with_reducible refine blk_off _ _ _ _ ?_ ?_); focus (simp; done)) | ((with_reducible refine blk_offc _ _ _ _ ?_ ?_); focus (first | (simp; done) | omega | (simp; omega))) | ((with_reducible refine blk_off _ _ _ _ ?_ ?_); focus (first | omega | (simp; omega))) | (with_reducible refine blk_drew _ _ ?_) | ((with_reducible refine blk_below (by assumption) ?_ ?_); focus (simp; done)) | ((with_reducible refine blk_below (by assumption) ?_ ?_); focus (first | omega | (simp; omega))))), (by repeat (first | (with_reducible assumption) | ((with_reducible refine blk_new _ _ _ ?_); focus (simp; done)) | ((with_reducible refine blk_old _ _ _ ?_ ?_); focus (simp; done)) | ((with_reducible refine blk_old _ _ _ ?_ ?_); focus (first | omega | (simp; omega))) | ((with_reducible apply blk_set); focus (simp; done)) | ((with_reducible refine blk_off _ _ _ _ ?_ ?_); focus (simp; done)) | ((with_reducible refine blk_offc _ _ _ _ ?_ ?_); focus (first | (simp; done) | omega | (simp; omega))) | ((with_reducible refine blk_off _ _ _ _ ?_ ?_); focus (first | omega | (simp; omega))) | (with_reducible refine blk_drew _ _ ?_) | ((with_reducible refine blk_below (by assumption) ?_ ?_); focus (simp; done)) | ((with_reducible refine blk_below (by assumption) ?_ ?_); focus (first | omega | (simp; omega)))))⟩ ?_
        refine held_store 3 (by kernel_rfl) rfl rfl 36 _ _ rfl (w.heap.size + 2) 0 BA rfl rfl _ #[.float .f32 0, .float .f32 0, .float .f32 0] (by repeat (first | (with_reducible assumption) | ((with_reducible refine blk_new _ _ _ ?_); focus (simp; done)) | ((with_reducible refine blk_old _ _ _ ?_ ?_); focus (simp; done)) | ((with_reducible refine blk_old _ _ _ ?_ ?_); focus (first | omega | (simp; omega))) | ((with_reducible apply blk_set); focus (simp; done)) | ((with_reducible refine blk_off _ _ _ _ ?_ ?_); focus (simp; done)) | ((with_reducible refine blk_offc _ _ _ _ ?_ ?_); focus (first | (simp; done) | omega | (simp; omega))) | ((with_reducible refine blk_off _ _ _ _ ?_ ?_); focus (first | omega | (simp; omega))) | (with_reducible refine blk_drew _ _ ?_) | ((with_reducible refine blk_below (by assumption) ?_ ?_); focus (simp; done)) | ((with_reducible refine blk_below (by assumption) ?_ ?_); focus (first | omega | (simp; omega))))) (by subst hbal; kernel_rfl) (by subst hbal; simp) (by subst hbal; kernel_rfl) BA (by subst hbal; exact three_over _ _ _ _ _ _) ⟨(by repeat (first | (with_reducible assumption) | ((with_reducible refine blk_new _ _ _ ?_); focus (simp; done)) | ((with_reducible refine blk_old _ _ _ ?_ ?_); focus (simp; done)) | ((with_reducible refine blk_old _ _ _ ?_ ?_); focus (first | omega | (simp; omega))) | ((with_reducible apply blk_set); focus (simp; done)) | ((with_reducible refine blk_off _ _ _ _ ?_ ?_); focus (simp; done)) | ((with_reducible refine blk_offc _ _ _ _ ?_ ?_); focus (first | (simp; done) | omega | (simp; omega))) | ((with_reducible refine blk_off _ _ _ _ ?_ ?_); focus (first | omega | (simp; omega))) | (with_reducible refine blk_drew _ _ ?_) | ((with_reducible refine blk_below (by assumption) ?_ ?_); focus (simp; done)) | ((with_reducible refine blk_below (by assumption) ?_ ?_); focus (first | omega | (simp; omega))))), (by repeat (first | (with_reducible assumption) | ((with_reducible refine blk_new _ _ _ ?_); focus (simp; done)) | ((with_reducible refine blk_old _ _ _ ?_ ?_); focus (simp; done)) | ((with_reducible refine blk_old _ _ _ ?_ ?_); focus (first | omega | (simp; omega))) | ((with_reducible apply blk_set); focus (simp; done)) | ((with_reducible refine blk_off _ _ _ _ ?_ ?_); focus (simp; done)) | ((with_reducible refine blk_offc _ _ _ _ ?_ ?_); focus (first | (simp; done) | omega | (simp; omega))) | ((with_reducible refine blk_off _ _ _ _ ?_ ?_); focus (first | omega | (simp; omega))) | (with_reducible refine blk_drew _ _ ?_) | ((with_reducible refine blk_below (by assumption) ?_ ?_); focus (simp; done)) | ((with_reducible refine blk_below (by assumption) ?_ ?_); focus (first | omega | (simp; omega)))))⟩ ?_
        refine held_yield 4 rfl rfl (by kernel_rfl) (by kernel_rfl) (by kernel_rfl) (fun _ _ _ _ h => h) (.int .i64 0) (fun _ _ => rfl) ⟨(by repeat (first | (with_reducible assumption) | ((with_reducible refine blk_new _ _ _ ?_); focus (simp; done)) | ((with_reducible refine blk_old _ _ _ ?_ ?_); focus (simp; done)) | ((with_reducible refine blk_old _ _ _ ?_ ?_); focus (first | omega | (simp; omega))) | ((with_reducible apply blk_set); focus (simp; done)) | ((with_reducible refine blk_off _ _ _ _ ?_ ?_); focus (simp; done)) | ((with_reducible refine blk_offc _ _ _ _ ?_ ?_); focus (first | (simp; done) | omega | (simp; omega))) | ((with_reducible refine blk_off _ _ _ _ ?_ ?_); focus (first | omega | (simp; omega))) | (with_reducible refine blk_drew _ _ ?_) | ((with_reducible refine blk_below (by assumption) ?_ ?_); focus (simp; done)) | ((with_reducible refine blk_below (by assumption) ?_ ?_); focus (first | omega | (simp; omega))))), (by repeat (first | (with_reducible assumption) | ((with_reducible refine blk_new _ _ _ ?_); focus (simp; done)) | ((with_reducible refine blk_old _ _ _ ?_ ?_); focus (simp; done)) | ((with_reducible refine blk_old _ _ _ ?_ ?_); focus (first | omega | (simp; omega))) | ((with_reducible apply blk_set); focus (simp; done)) | ((with_reducible refine blk_off _ _ _ _ ?_ ?_); focus (simp; done)) | ((with_reducible refine blk_offc _ _ _ _ ?_ ?_); focus (first | (simp; done) | omega | (simp; omega))) | ((with_reducible refine blk_off _ _ _ _ ?_ ?_); focus (first | omega | (simp; omega))) | (with_reducible refine blk_drew _ _ ?_) | ((with_reducible refine blk_below (by assumption) ?_ ?_); focus (simp; done)) | ((with_reducible refine blk_below (by assumption) ?_ ?_); focus (first | omega | (simp; omega)))))⟩ ?_
        refine wpAnyH_done (by kernel_rfl) ?_ _
        go_wp2
        subst hbal
        exact bodyPost_ret (results_rows Tryz.results12 _ _ _ 28 (train r s t G) (0, 0) _ _ 36 #[.float .f32 (sumTo (fun _ => fed) k), .float .f32 (sumTo P k), .float .f32 K] (0, 0) _ (.int .i64 0) rfl rfl rfl (by repeat (first | (with_reducible assumption) | ((with_reducible refine blk_new _ _ _ ?_); focus (simp; done)) | ((with_reducible refine blk_old _ _ _ ?_ ?_); focus (simp; done)) | ((with_reducible refine blk_old _ _ _ ?_ ?_); focus (first | omega | (simp; omega))) | ((with_reducible apply blk_set); focus (simp; done)) | ((with_reducible refine blk_off _ _ _ _ ?_ ?_); focus (simp; done)) | ((with_reducible refine blk_offc _ _ _ _ ?_ ?_); focus (first | (simp; done) | omega | (simp; omega))) | ((with_reducible refine blk_off _ _ _ _ ?_ ?_); focus (first | omega | (simp; omega))) | (with_reducible refine blk_drew _ _ ?_) | ((with_reducible refine blk_below (by assumption) ?_ ?_); focus (simp; done)) | ((with_reducible refine blk_below (by assumption) ?_ ?_); focus (first | omega | (simp; omega))))) (by repeat (first | (with_reducible assumption) | ((with_reducible refine blk_new _ _ _ ?_); focus (simp; done)) | ((with_reducible refine blk_old _ _ _ ?_ ?_); focus (simp; done)) | ((with_reducible refine blk_old _ _ _ ?_ ?_); focus (first | omega | (simp; omega))) | ((with_reducible apply blk_set); focus (simp; done)) | ((with_reducible refine blk_off _ _ _ _ ?_ ?_); focus (simp; done)) | ((with_reducible refine blk_offc _ _ _ _ ?_ ?_); focus (first | (simp; done) | omega | (simp; omega))) | ((with_reducible refine blk_off _ _ _ _ ?_ ?_); focus (first | omega | (simp; omega))) | (with_reducible refine blk_drew _ _ ?_) | ((with_reducible refine blk_below (by assumption) ?_ ?_); focus (simp; done)) | ((with_reducible refine blk_below (by assumption) ?_ ?_); focus (first | omega | (simp; omega))))) Tryz.underlying28 rfl (by simp only [row_size]; kernel_rfl) Tryz.underlying36 rfl (by kernel_rfl)) rfl (by exact ⟨rfl, (by repeat (first | (with_reducible assumption) | (with_reducible exact Below.refl _ _) | ((with_reducible refine bel_alloc _ ?_ ?_); focus (first | omega | (simp; done) | (simp; omega))) | ((with_reducible refine bel_row _ ?_ ?_); focus (first | omega | (simp; done) | (simp; omega))) | ((with_reducible refine bel_cell _ ?_ ?_); focus (first | omega | (simp; done) | (simp; omega))) | (with_reducible refine Below.drew ?_) | (with_reducible refine below_wideW _ ?_) | ((with_reducible refine bel_next (by assumption) ?_ ?_); focus (first | omega | (simp; done) | (simp; omega)))))⟩)
end Go.Proofs.YtkokekndiammpaaGreatDoor

/-! The law on ZoneTrains. -/
set_option linter.unusedVariables false
set_option linter.unusedSimpArgs false
namespace Go.Proofs.YtkokekndiammpaaGreatDoor
open Go.RowKit Ieee
/-- Behind a piece of a walk all older blocks are as they were. -/
def Kept (B : Nat) (w0 wr w' : World) : Prop := (∀ i, i < wr.heap.size → w'.heap[i]? = wr.heap[i]?) ∧ wr.heap.size ≤ w'.heap.size ∧ Below B w0 w'
theorem Kept.refl {B : Nat} {w0 wr : World} (h : Below B w0 wr) : Kept B w0 wr wr := ⟨fun _ _ => rfl, Nat.le_refl _, h⟩
theorem Kept.drew {B : Nat} {w0 wr w' : World} (h : Kept B w0 wr w') : Kept B w0 wr w'.drew := ⟨h.1, h.2.1, Below.drew h.2.2⟩
theorem Kept.call {B : Nat} {w0 wr W W2 : World} (h : Kept B w0 wr W) (hB : B ≤ wr.heap.size) (hb : Below W.heap.size W W2) : Kept B w0 wr W2 :=
  ⟨fun i hi => (hb.block i (Nat.lt_of_lt_of_le hi h.2.1)).trans (h.1 i hi), Nat.le_trans h.2.1 hb.size, bel_next hb (Nat.le_trans hB h.2.1) h.2.2⟩
theorem Kept.alloc {B : Nat} {w0 wr W : World} (h : Kept B w0 wr W) (hB : B ≤ wr.heap.size) (o : Obj) : Kept B w0 wr (W.alloc o) :=
  ⟨fun i hi => blk_old _ _ _ (Nat.lt_of_lt_of_le hi h.2.1) (h.1 i hi), by have := h.2.1; simp; omega, bel_alloc o (Nat.le_trans hB h.2.1) h.2.2⟩
theorem Kept.row {B : Nat} {w0 wr W : World} (h : Kept B w0 wr W) (hB : B ≤ wr.heap.size) {g : Nat} (hg : wr.heap.size ≤ g) (cs : Array Value) : Kept B w0 wr (W.setRow g cs) :=
  ⟨fun i hi => blk_off _ _ _ _ (by omega) (h.1 i hi), by have := h.2.1; simp; omega, bel_row cs (Nat.le_trans hB hg) h.2.2⟩

end Go.Proofs.YtkokekndiammpaaGreatDoor
