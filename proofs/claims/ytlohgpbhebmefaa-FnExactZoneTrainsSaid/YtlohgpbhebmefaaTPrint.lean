/- Contracts of PrintedIn, and of the functions of the laws that compare, mark and hold lists of narrow numbers. -/
import Derived.Test.YtlohgpbhebmefaaTTurns
set_option linter.unusedVariables false
set_option linter.unusedSimpArgs false
namespace Go.Proofs.Ytlohgpbhebmefaa
open Go.RowKit Ieee

theorem ts_yes {r : Int} {s t : Nat} {F : Nat → Nat} {fed cover : Nat} {q : Int} (h : tsB r s t F fed cover q = true) : tsC r s t F fed cover q = 0 ∧ tsN r s t F fed cover q = q.toNat := by
  refine ⟨?_, by unfold tsN; rw [h]; rfl⟩
  unfold tsB at h
  simp only [Bool.and_eq_true] at h
  unfold tsC
  rw [h.1.1, h.1.2, h.2]; rfl
theorem ts_no {r : Int} {s t : Nat} {F : Nat → Nat} {fed cover : Nat} {q : Int} (h : tsB r s t F fed cover q = false) : ¬ tsC r s t F fed cover q = 0 ∧ tsN r s t F fed cover q = 0 := by
  refine ⟨?_, by unfold tsN; rw [h]; rfl⟩
  unfold tsB at h
  unfold tsC
  cases h1 : askB r s t F fed cover
  · exact ask_no h1
  · cases h2 : rangeT q
    · simp
    · rw [h1, h2] at h
      simp at h
      simp [h]
theorem ts_le {r : Int} {s t : Nat} {F : Nat → Nat} {fed cover : Nat} {q : Int} : tsN r s t F fed cover q ≤ 2000 := by
  unfold tsN
  split
  · rename_i h
    unfold tsB rangeT at h
    simp only [Bool.and_eq_true, decide_eq_true_eq] at h
    omega
  · omega
theorem ts_num {r : Int} {s t : Nat} {F : Nat → Nat} {fed cover : Nat} {q : Int} : ∀ j, j < tsN r s t F fed cover q → ¬ Flt.NaN single (prF r s t fed cover F j) := by
  intro j hj
  unfold tsN at hj
  split at hj
  · rename_i h
    unfold tsB at h
    simp only [Bool.and_eq_true] at h
    obtain ⟨ho, hf, hc, _⟩ := ask_yes h.1.1
    have hk := it_ok ho (all_le (n := j) (m := q.toNat) (by omega) h.2)
    exact fin_nan (turn_end hk hf hc).fp
  · omega

set_option maxRecDepth 100000 in
set_option maxHeartbeats 3200000 in
theorem specPrinted_any (r : Int) (s t : Nat) (F : Nat → Nat) (fed cover : Nat) (q : Int) (w : World) (lr : -128 ≤ r) (ur : r ≤ 127) (lq : -9223372036854775808 ≤ q) (uq : q ≤ 9223372036854775807) : Calls Try.prog 30 #[.agg (train r s t F), .float .f32 fed, .float .f32 cover, .int .i64 q] w fun e w' => ∃ v, e = .returned (.tuple #[v, .int .i64 (tsC r s t F fed cover q)]) ∧ Floats w' w.heap.size v (tsN r s t F fed cover q) (prF r s t fed cover F) ∧ Below w.heap.size w w' := by
  have hz : (#[Value.int IntKind.i8 0, Value.float FloatKind.f32 0, Value.float FloatKind.f32 0, Value.float FloatKind.f32 0, Value.float FloatKind.f32 0, Value.float FloatKind.f32 0, Value.float FloatKind.f32 0, Value.float FloatKind.f32 0, Value.float FloatKind.f32 0, Value.float FloatKind.f32 0, Value.float FloatKind.f32 0, Value.float FloatKind.f32 0, Value.float FloatKind.f32 0, Value.float FloatKind.f32 0, Value.float FloatKind.f32 0] : Array Value) = row [Value.int IntKind.i8 0, Value.float FloatKind.f32 0, Value.float FloatKind.f32 0] 12 (fun _ => 0) := rfl
  have hT := fun w => specTurns_any r s t F fed cover q w lr ur lq uq
  cases hb : tsB r s t F fed cover q
  · obtain ⟨hne, hN⟩ := ts_no hb
    rw [hb, hN] at hT
    rw [hN]
    obtain ⟨c, hcc⟩ : ∃ c, tsC r s t F fed cover q = c := ⟨_, rfl⟩
    rw [hcc] at hT hne ⊢
    have hnb : (c != 0) = true := by simp [hne]
    clear hcc hb hN
    go_enter Try.func30, Try.ntmps30
    go_wp2_with (first | (go_at_call 74; (with_reducible refine (hT _).mono ?_); rintro e w2 ⟨v, rfl, hF, hb2⟩; have hz2 := hb2.size; (try simp at hz2); obtain ⟨ao, cap, rfl, hown⟩ := hF; have HOW := Lib.hid hown; clear hown) | ((with_reducible refine at_load 27 ?_); refine wpList_load_part rfl 27 _ rfl _ 0 15 rfl _ _ _ _ (by repeat (first | (with_reducible assumption) | ((with_reducible refine blk_new _ _ _ ?_); focus (simp; done)) | ((with_reducible refine blk_old _ _ _ ?_ ?_); focus (simp; done)) | ((with_reducible refine blk_old _ _ _ ?_ ?_); focus (first | omega | (simp; omega))) | ((with_reducible apply blk_set); focus (simp; done)) | ((with_reducible refine blk_off _ _ _ _ ?_ ?_); focus (simp; done)) | ((with_reducible refine blk_offc _ _ _ _ ?_ ?_); focus (first | (simp; done) | omega | (simp; omega))) | ((with_reducible refine blk_off _ _ _ _ ?_ ?_); focus (first | omega | (simp; omega))) | (with_reducible refine blk_drew _ _ ?_) | ((with_reducible refine blk_below (by assumption) ?_ ?_); focus (simp; done)) | ((with_reducible refine blk_below (by assumption) ?_ ?_); focus (first | omega | (simp; omega))))) Try.underlying27 rfl (by kernel_rfl) (by simp [row_size]) _ (row_all [_, _, _] 12 _) ?_) | ((with_reducible refine at_store 27 ?_); refine wpList_store_part rfl 27 _ _ rfl _ 0 _ rfl rfl _ _ (by repeat (first | (with_reducible assumption) | ((with_reducible refine blk_new _ _ _ ?_); focus (simp; done)) | ((with_reducible refine blk_old _ _ _ ?_ ?_); focus (simp; done)) | ((with_reducible refine blk_old _ _ _ ?_ ?_); focus (first | omega | (simp; omega))) | ((with_reducible apply blk_set); focus (simp; done)) | ((with_reducible refine blk_off _ _ _ _ ?_ ?_); focus (simp; done)) | ((with_reducible refine blk_offc _ _ _ _ ?_ ?_); focus (first | (simp; done) | omega | (simp; omega))) | ((with_reducible refine blk_off _ _ _ _ ?_ ?_); focus (first | omega | (simp; omega))) | (with_reducible refine blk_drew _ _ ?_) | ((with_reducible refine blk_below (by assumption) ?_ ?_); focus (simp; done)) | ((with_reducible refine blk_below (by assumption) ?_ ?_); focus (first | omega | (simp; omega))))) (by rw [row_size]; kernel_rfl) (by simp [row_size]) (row_cells _ _ _ rfl) _ (row_over _ _ 12 _ _ (by simp)) ?_) | go_in)
    go_ret2
    exact ⟨_, rfl, floats_none, (by repeat (first | (with_reducible assumption) | (with_reducible exact Below.refl _ _) | ((with_reducible refine bel_alloc _ ?_ ?_); focus (first | omega | (simp; done) | (simp; omega))) | ((with_reducible refine bel_row _ ?_ ?_); focus (first | omega | (simp; done) | (simp; omega))) | ((with_reducible refine bel_cell _ ?_ ?_); focus (first | omega | (simp; done) | (simp; omega))) | (with_reducible refine Below.drew ?_) | (with_reducible refine below_wideW _ ?_) | ((with_reducible refine bel_next (by assumption) ?_ ?_); focus (first | omega | (simp; done) | (simp; omega)))))⟩
  · obtain ⟨hC, hN⟩ := ts_yes hb
    rw [hb, hC] at hT
    rw [hC]
    obtain ⟨G, hG⟩ : ∃ G, itF r s t fed cover F q.toNat = G := ⟨_, rfl⟩
    rw [hG] at hT
    obtain ⟨n, hn⟩ : ∃ n, tsN r s t F fed cover q = n := ⟨_, rfl⟩
    rw [hn] at hT ⊢
    clear hb hC hN hG hn
    go_enter Try.func30, Try.ntmps30
    go_wp2_with (first | (go_at_call 74; (with_reducible refine (hT _).mono ?_); rintro e w2 ⟨v, rfl, hF, hb2⟩; have hz2 := hb2.size; (try simp at hz2); obtain ⟨ao, cap, rfl, hown⟩ := hF; have HOW := Lib.hid hown; clear hown) | ((with_reducible refine at_load 27 ?_); refine wpList_load_part rfl 27 _ rfl _ 0 15 rfl _ _ _ _ (by repeat (first | (with_reducible assumption) | ((with_reducible refine blk_new _ _ _ ?_); focus (simp; done)) | ((with_reducible refine blk_old _ _ _ ?_ ?_); focus (simp; done)) | ((with_reducible refine blk_old _ _ _ ?_ ?_); focus (first | omega | (simp; omega))) | ((with_reducible apply blk_set); focus (simp; done)) | ((with_reducible refine blk_off _ _ _ _ ?_ ?_); focus (simp; done)) | ((with_reducible refine blk_offc _ _ _ _ ?_ ?_); focus (first | (simp; done) | omega | (simp; omega))) | ((with_reducible refine blk_off _ _ _ _ ?_ ?_); focus (first | omega | (simp; omega))) | (with_reducible refine blk_drew _ _ ?_) | ((with_reducible refine blk_below (by assumption) ?_ ?_); focus (simp; done)) | ((with_reducible refine blk_below (by assumption) ?_ ?_); focus (first | omega | (simp; omega))))) Try.underlying27 rfl (by kernel_rfl) (by simp [row_size]) _ (row_all [_, _, _] 12 _) ?_) | ((with_reducible refine at_store 27 ?_); refine wpList_store_part rfl 27 _ _ rfl _ 0 _ rfl rfl _ _ (by repeat (first | (with_reducible assumption) | ((with_reducible refine blk_new _ _ _ ?_); focus (simp; done)) | ((with_reducible refine blk_old _ _ _ ?_ ?_); focus (simp; done)) | ((with_reducible refine blk_old _ _ _ ?_ ?_); focus (first | omega | (simp; omega))) | ((with_reducible apply blk_set); focus (simp; done)) | ((with_reducible refine blk_off _ _ _ _ ?_ ?_); focus (simp; done)) | ((with_reducible refine blk_offc _ _ _ _ ?_ ?_); focus (first | (simp; done) | omega | (simp; omega))) | ((with_reducible refine blk_off _ _ _ _ ?_ ?_); focus (first | omega | (simp; omega))) | (with_reducible refine blk_drew _ _ ?_) | ((with_reducible refine blk_below (by assumption) ?_ ?_); focus (simp; done)) | ((with_reducible refine blk_below (by assumption) ?_ ?_); focus (first | omega | (simp; omega))))) (by rw [row_size]; kernel_rfl) (by simp [row_size]) (row_cells _ _ _ rfl) _ (row_over _ _ 12 _ _ (by simp)) ?_) | go_in)
    go_ret2
    exact ⟨_, rfl, ⟨ao, cap, rfl, fun h => own_wide (own_carry (HOW.out h) (fun i hi1 hi2 => (by repeat (first | (with_reducible rfl) | ((with_reducible refine blk_new _ _ _ ?_); focus (simp; done)) | ((with_reducible refine blk_old _ _ _ ?_ ?_); focus (simp; done)) | ((with_reducible refine blk_old _ _ _ ?_ ?_); focus (first | omega | (simp; omega))) | ((with_reducible apply blk_set); focus (simp; done)) | ((with_reducible refine blk_off _ _ _ _ ?_ ?_); focus (simp; done)) | ((with_reducible refine blk_offc _ _ _ _ ?_ ?_); focus (first | (simp; done) | omega | (simp; omega))) | ((with_reducible refine blk_off _ _ _ _ ?_ ?_); focus (first | omega | (simp; omega))) | (with_reducible refine blk_drew _ _ ?_) | ((with_reducible refine blk_below (by assumption) ?_ ?_); focus (simp; done)) | ((with_reducible refine blk_below (by assumption) ?_ ?_); focus (first | omega | (simp; omega))))))) (by first | (simp; done) | omega | (simp; omega))⟩, (by repeat (first | (with_reducible assumption) | (with_reducible exact Below.refl _ _) | ((with_reducible refine bel_alloc _ ?_ ?_); focus (first | omega | (simp; done) | (simp; omega))) | ((with_reducible refine bel_row _ ?_ ?_); focus (first | omega | (simp; done) | (simp; omega))) | ((with_reducible refine bel_cell _ ?_ ?_); focus (first | omega | (simp; done) | (simp; omega))) | (with_reducible refine Below.drew ?_) | (with_reducible refine below_wideW _ ?_) | ((with_reducible refine bel_next (by assumption) ?_ ?_); focus (first | omega | (simp; done) | (simp; omega)))))⟩

set_option maxRecDepth 100000 in
set_option maxHeartbeats 3200000 in
theorem implPrinted_any (r : Int) (s t : Nat) (F : Nat → Nat) (fed cover : Nat) (q : Int) (w : World) (lr : -128 ≤ r) (ur : r ≤ 127) (lq : -9223372036854775808 ≤ q) (uq : q ≤ 9223372036854775807) : Calls Try.prog 31 #[.agg (train r s t F), .float .f32 fed, .float .f32 cover, .int .i64 q] w fun e w' => ∃ v, e = .returned (.tuple #[v, .int .i64 (tsC r s t F fed cover q)]) ∧ Floats w' w.heap.size v (tsN r s t F fed cover q) (prF r s t fed cover F) ∧ Below w.heap.size w w' := by
  have hz : (#[Value.int IntKind.i8 0, Value.float FloatKind.f32 0, Value.float FloatKind.f32 0, Value.float FloatKind.f32 0, Value.float FloatKind.f32 0, Value.float FloatKind.f32 0, Value.float FloatKind.f32 0, Value.float FloatKind.f32 0, Value.float FloatKind.f32 0, Value.float FloatKind.f32 0, Value.float FloatKind.f32 0, Value.float FloatKind.f32 0, Value.float FloatKind.f32 0, Value.float FloatKind.f32 0, Value.float FloatKind.f32 0] : Array Value) = row [Value.int IntKind.i8 0, Value.float FloatKind.f32 0, Value.float FloatKind.f32 0] 12 (fun _ => 0) := rfl
  have hT := fun w => implTurns_any r s t F fed cover q w lr ur lq uq
  cases hb : tsB r s t F fed cover q
  · obtain ⟨hne, hN⟩ := ts_no hb
    rw [hb, hN] at hT
    rw [hN]
    obtain ⟨c, hcc⟩ : ∃ c, tsC r s t F fed cover q = c := ⟨_, rfl⟩
    rw [hcc] at hT hne ⊢
    have hnb : (c != 0) = true := by simp [hne]
    clear hcc hb hN
    go_enter Try.func31, Try.ntmps31
    go_wp2_with (first | (go_at_call 75; (with_reducible refine (hT _).mono ?_); rintro e w2 ⟨v, rfl, hF, hb2⟩; have hz2 := hb2.size; (try simp at hz2); obtain ⟨ao, cap, rfl, hown⟩ := hF; have HOW := Lib.hid hown; clear hown) | ((with_reducible refine at_load 27 ?_); refine wpList_load_part rfl 27 _ rfl _ 0 15 rfl _ _ _ _ (by repeat (first | (with_reducible assumption) | ((with_reducible refine blk_new _ _ _ ?_); focus (simp; done)) | ((with_reducible refine blk_old _ _ _ ?_ ?_); focus (simp; done)) | ((with_reducible refine blk_old _ _ _ ?_ ?_); focus (first | omega | (simp; omega))) | ((with_reducible apply blk_set); focus (simp; done)) | ((with_reducible refine blk_off _ _ _ _ ?_ ?_); focus (simp; done)) | ((with_reducible refine blk_offc _ _ _ _ ?_ ?_); focus (first | (simp; done) | omega | (simp; omega))) | ((with_reducible refine blk_off _ _ _ _ ?_ ?_); focus (first | omega | (simp; omega))) | (with_reducible refine blk_drew _ _ ?_) | ((with_reducible refine blk_below (by assumption) ?_ ?_); focus (simp; done)) | ((with_reducible refine blk_below (by assumption) ?_ ?_); focus (first | omega | (simp; omega))))) Try.underlying27 rfl (by kernel_rfl) (by simp [row_size]) _ (row_all [_, _, _] 12 _) ?_) | ((with_reducible refine at_store 27 ?_); refine wpList_store_part rfl 27 _ _ rfl _ 0 _ rfl rfl _ _ (by repeat (first | (with_reducible assumption) | ((with_reducible refine blk_new _ _ _ ?_); focus (simp; done)) | ((with_reducible refine blk_old _ _ _ ?_ ?_); focus (simp; done)) | ((with_reducible refine blk_old _ _ _ ?_ ?_); focus (first | omega | (simp; omega))) | ((with_reducible apply blk_set); focus (simp; done)) | ((with_reducible refine blk_off _ _ _ _ ?_ ?_); focus (simp; done)) | ((with_reducible refine blk_offc _ _ _ _ ?_ ?_); focus (first | (simp; done) | omega | (simp; omega))) | ((with_reducible refine blk_off _ _ _ _ ?_ ?_); focus (first | omega | (simp; omega))) | (with_reducible refine blk_drew _ _ ?_) | ((with_reducible refine blk_below (by assumption) ?_ ?_); focus (simp; done)) | ((with_reducible refine blk_below (by assumption) ?_ ?_); focus (first | omega | (simp; omega))))) (by rw [row_size]; kernel_rfl) (by simp [row_size]) (row_cells _ _ _ rfl) _ (row_over _ _ 12 _ _ (by simp)) ?_) | go_in)
    go_ret2
    exact ⟨_, rfl, floats_none, (by repeat (first | (with_reducible assumption) | (with_reducible exact Below.refl _ _) | ((with_reducible refine bel_alloc _ ?_ ?_); focus (first | omega | (simp; done) | (simp; omega))) | ((with_reducible refine bel_row _ ?_ ?_); focus (first | omega | (simp; done) | (simp; omega))) | ((with_reducible refine bel_cell _ ?_ ?_); focus (first | omega | (simp; done) | (simp; omega))) | (with_reducible refine Below.drew ?_) | (with_reducible refine below_wideW _ ?_) | ((with_reducible refine bel_next (by assumption) ?_ ?_); focus (first | omega | (simp; done) | (simp; omega)))))⟩
  · obtain ⟨hC, hN⟩ := ts_yes hb
    rw [hb, hC] at hT
    rw [hC]
    obtain ⟨G, hG⟩ : ∃ G, itF r s t fed cover F q.toNat = G := ⟨_, rfl⟩
    rw [hG] at hT
    obtain ⟨n, hn⟩ : ∃ n, tsN r s t F fed cover q = n := ⟨_, rfl⟩
    rw [hn] at hT ⊢
    clear hb hC hN hG hn
    go_enter Try.func31, Try.ntmps31
    go_wp2_with (first | (go_at_call 75; (with_reducible refine (hT _).mono ?_); rintro e w2 ⟨v, rfl, hF, hb2⟩; have hz2 := hb2.size; (try simp at hz2); obtain ⟨ao, cap, rfl, hown⟩ := hF; have HOW := Lib.hid hown; clear hown) | ((with_reducible refine at_load 27 ?_); refine wpList_load_part rfl 27 _ rfl _ 0 15 rfl _ _ _ _ (by repeat (first | (with_reducible assumption) | ((with_reducible refine blk_new _ _ _ ?_); focus (simp; done)) | ((with_reducible refine blk_old _ _ _ ?_ ?_); focus (simp; done)) | ((with_reducible refine blk_old _ _ _ ?_ ?_); focus (first | omega | (simp; omega))) | ((with_reducible apply blk_set); focus (simp; done)) | ((with_reducible refine blk_off _ _ _ _ ?_ ?_); focus (simp; done)) | ((with_reducible refine blk_offc _ _ _ _ ?_ ?_); focus (first | (simp; done) | omega | (simp; omega))) | ((with_reducible refine blk_off _ _ _ _ ?_ ?_); focus (first | omega | (simp; omega))) | (with_reducible refine blk_drew _ _ ?_) | ((with_reducible refine blk_below (by assumption) ?_ ?_); focus (simp; done)) | ((with_reducible refine blk_below (by assumption) ?_ ?_); focus (first | omega | (simp; omega))))) Try.underlying27 rfl (by kernel_rfl) (by simp [row_size]) _ (row_all [_, _, _] 12 _) ?_) | ((with_reducible refine at_store 27 ?_); refine wpList_store_part rfl 27 _ _ rfl _ 0 _ rfl rfl _ _ (by repeat (first | (with_reducible assumption) | ((with_reducible refine blk_new _ _ _ ?_); focus (simp; done)) | ((with_reducible refine blk_old _ _ _ ?_ ?_); focus (simp; done)) | ((with_reducible refine blk_old _ _ _ ?_ ?_); focus (first | omega | (simp; omega))) | ((with_reducible apply blk_set); focus (simp; done)) | ((with_reducible refine blk_off _ _ _ _ ?_ ?_); focus (simp; done)) | ((with_reducible refine blk_offc _ _ _ _ ?_ ?_); focus (first | (simp; done) | omega | (simp; omega))) | ((with_reducible refine blk_off _ _ _ _ ?_ ?_); focus (first | omega | (simp; omega))) | (with_reducible refine blk_drew _ _ ?_) | ((with_reducible refine blk_below (by assumption) ?_ ?_); focus (simp; done)) | ((with_reducible refine blk_below (by assumption) ?_ ?_); focus (first | omega | (simp; omega))))) (by rw [row_size]; kernel_rfl) (by simp [row_size]) (row_cells _ _ _ rfl) _ (row_over _ _ 12 _ _ (by simp)) ?_) | go_in)
    go_ret2
    exact ⟨_, rfl, ⟨ao, cap, rfl, fun h => own_wide (own_carry (HOW.out h) (fun i hi1 hi2 => (by repeat (first | (with_reducible rfl) | ((with_reducible refine blk_new _ _ _ ?_); focus (simp; done)) | ((with_reducible refine blk_old _ _ _ ?_ ?_); focus (simp; done)) | ((with_reducible refine blk_old _ _ _ ?_ ?_); focus (first | omega | (simp; omega))) | ((with_reducible apply blk_set); focus (simp; done)) | ((with_reducible refine blk_off _ _ _ _ ?_ ?_); focus (simp; done)) | ((with_reducible refine blk_offc _ _ _ _ ?_ ?_); focus (first | (simp; done) | omega | (simp; omega))) | ((with_reducible refine blk_off _ _ _ _ ?_ ?_); focus (first | omega | (simp; omega))) | (with_reducible refine blk_drew _ _ ?_) | ((with_reducible refine blk_below (by assumption) ?_ ?_); focus (simp; done)) | ((with_reducible refine blk_below (by assumption) ?_ ?_); focus (first | omega | (simp; omega))))))) (by first | (simp; done) | omega | (simp; omega))⟩, (by repeat (first | (with_reducible assumption) | (with_reducible exact Below.refl _ _) | ((with_reducible refine bel_alloc _ ?_ ?_); focus (first | omega | (simp; done) | (simp; omega))) | ((with_reducible refine bel_row _ ?_ ?_); focus (first | omega | (simp; done) | (simp; omega))) | ((with_reducible refine bel_cell _ ?_ ?_); focus (first | omega | (simp; done) | (simp; omega))) | (with_reducible refine Below.drew ?_) | (with_reducible refine below_wideW _ ?_) | ((with_reducible refine bel_next (by assumption) ?_ ?_); focus (first | omega | (simp; done) | (simp; omega)))))⟩

theorem cvt_num (n : Int) : ¬ Flt.NaN single (floatOfInt .f32 n) := by
  show ¬ Flt.NaN single (single.write (.number (decide (n < 0)) n.natAbs 0))
  exact write_num single rfl
theorem eqS_pos (G : Nat → Nat) (n g c g' c' : Nat) (w : World) (hn : n ≤ 2000) (hG : ∀ j, j < n → ¬ Flt.NaN single (G j)) (hc : ∀ j, j < n → w.cell? ⟨g, j, none⟩ = some (.float .f32 (G j))) (hc' : ∀ j, j < n → w.cell? ⟨g', j, none⟩ = some (.float .f32 (G j))) :
    Calls Try.prog 32 #[.slice (some ⟨g, 0, none⟩) n c, .slice (some ⟨g', 0, none⟩) n c'] w fun e w' => e = .returned (.bool true) ∧ ∃ m, w' = w.drewN m := by
  have HG := Lib.hid hG
  have HC := Lib.hid hc
  have HC' := Lib.hid hc'
  clear hG hc hc'
  go_enter Try.func32, Try.ntmps32
  go_wp2
  go_loopw [5] (fun i wr => ∃ k m : Nat, k ≤ n ∧ i = .int .i64 k ∧ wr = w.drewN m) (fun i _ => n - (intOf i).toNat)
  case atStart => exact ⟨0, 0, by omega, rfl, rfl⟩
  case round =>
    obtain ⟨k, m, hk, rfl, hwr⟩ := hrel
    have HW := Lib.hid hwr
    by_cases hlt : k < n
    · have ca : wr.cell? ⟨g, k, none⟩ = some (.float .f32 (G k)) := by rw [hwr]; exact HC.out k hlt
      have cb : wr.cell? ⟨g', k, none⟩ = some (.float .f32 (G k)) := by rw [hwr]; exact HC'.out k hlt
      have hnk := HG.out k hlt
      have hcv := fun w => run_wide (P := Try.prog) 23 53 (G k) w (by kernel_rfl) (by kernel_rfl) hnk
      have hw := Flt.widen_nan hnk
      have k0 : (0 : Int) ≤ k := by omega
      have kn : (k : Int) < n := by omega
      clear hwr hnk
      go_wp2
      go_quiet ((go_at_call 29; exact quiet_same (sameFloat_self _ _ hw)))
      go_wp2
      go_roundw
      case rel => exact ⟨k + 1, _, by omega, by go_num, by rw [HW.out, World.drewN_drewN]⟩
      case measure => simp [intOf]; omega
    · obtain rfl : k = n := by omega
      clear hwr
      go_wp2
      go_ret
      exact ⟨rfl, m, HW.out⟩
theorem eqS_zero (ao ao' : Option Addr) (c c' : Nat) (w : World) : Calls Try.prog 32 #[.slice ao 0 c, .slice ao' 0 c'] w fun e w' => e = .returned (.bool true) ∧ ∃ m, w' = w.drewN m := by
  go_enter Try.func32, Try.ntmps32
  go_wp2
  go_loop [5] (fun i => i = .int .i64 0) (fun _ => 0)
  case atStart => rfl
  case round =>
    obtain rfl := hrel
    go_wp2
    go_ret
    exact ⟨rfl, 0, rfl⟩

theorem mark_pos (n g c : Nat) (cur : Array Value) (w : World) (hn : n ≤ 2000) (hg : w.heap[g]? = some (.cells cur 23 (0, 0))) (hsz : n ≤ cur.size) :
    Calls Try.prog 33 #[.slice (some ⟨g, 0, none⟩) n c, .int .i64 1] w fun e w' => e = .returned (.int .i64 (1 + (n : Int))) ∧ ∃ cur' : Array Value, w'.heap[g]? = some (.cells cur' 23 (0, 0)) ∧ (∀ j : Nat, j < n → cur'[j]? = some (.float .f32 (floatOfInt .f32 (1 + (j : Int))))) ∧ (∀ i, i ≠ g → w'.heap[i]? = w.heap[i]?) ∧ Below g w w' := by
  have HG := Lib.hid hg
  clear hg
  go_enter Try.func33, Try.ntmps33
  go_wp2
  go_loopw [1, 5] (fun v i wr => ∃ (k : Nat) (cu : Array Value), k ≤ n ∧ i = .int .i64 k ∧ v = .int .i64 (1 + (k : Int)) ∧ wr.heap[g]? = some (.cells cu 23 (0, 0)) ∧ n ≤ cu.size ∧ (∀ j : Nat, j < k → cu[j]? = some (.float .f32 (floatOfInt .f32 (1 + (j : Int))))) ∧ (∀ i, i ≠ g → wr.heap[i]? = w.heap[i]?) ∧ Below g w wr) (fun _ i _ => n - (intOf i).toNat)
  case atStart => exact ⟨0, cur, by omega, rfl, rfl, HG.out, hsz, fun j hj => by omega, fun _ _ => rfl, Below.refl _ _⟩
  case round =>
    obtain ⟨k, cu, hk, rfl, rfl, h1, h2, h3, h4, h5⟩ := hrel
    by_cases hlt : k < n
    · obtain ⟨u, hu⟩ : ∃ u, cu[k]? = some u := ⟨_, Array.getElem?_eq_getElem (by omega)⟩
      have co : wr.cell? ⟨g, k, none⟩ = some u := (cell_of_row wr g k cu _ _ h1).trans hu
      have ff : wr.frozen? ⟨g, k, none⟩ = false := frozen_of_row wr _ _ _ _ h1
      have k0 : (0 : Int) ≤ k := by omega
      have kn : (k : Int) < n := by omega
      have kn2 : (n : Int) ≤ 2000 := by omega
      have H1 := Lib.hid h1
      have H3 := Lib.hid h3
      have H4 := Lib.hid h4
      have H5 := Lib.hid h5
      clear h1 h3 h4 h5 hu
      go_wp2
      go_roundw
      case rel =>
        refine ⟨k + 1, cu.setIfInBounds k (.float .f32 (floatOfInt .f32 (1 + (k : Int)))), by omega, by go_num, by go_num, ?_, by simpa using h2, ?_, fun i hi => (heap_setCell_other wr _ i _ hi).trans (H4.out i hi), H5.out.setCell (by simp) _⟩
        · exact heap_setCell_same wr g _ _ _ _ H1.out
        · intro j hj
          rw [Array.getElem?_setIfInBounds]
          by_cases e : k = j
          · subst e; rw [if_pos rfl, if_pos (by omega)]
          · rw [if_neg e]; exact H3.out j (by omega)
      case measure => simp [intOf]; omega
    · obtain rfl : k = n := by omega
      have H1 := Lib.hid h1
      have H3 := Lib.hid h3
      have H4 := Lib.hid h4
      have H5 := Lib.hid h5
      clear h1 h3 h4 h5
      go_wp2
      go_ret
      exact ⟨rfl, cu, H1.out, H3.out, H4.out, H5.out⟩
theorem mark_zero (ao : Option Addr) (c : Nat) (w : World) : Calls Try.prog 33 #[.slice ao 0 c, .int .i64 1] w fun e w' => e = .returned (.int .i64 1) ∧ w = w' := by
  go_enter Try.func33, Try.ntmps33
  go_wp2
  go_loop [1, 5] (fun v i => v = .int .i64 1 ∧ i = .int .i64 0) (fun _ _ => 0)
  case atStart => exact ⟨rfl, rfl⟩
  case round =>
    obtain ⟨rfl, rfl⟩ := hrel
    go_wp2
    go_ret
    exact ⟨rfl, rfl⟩

theorem held_pos (n g c : Nat) (w : World) (hn : n ≤ 2000) (hc : ∀ j : Nat, j < n → w.cell? ⟨g, j, none⟩ = some (.float .f32 (floatOfInt .f32 (1 + (j : Int))))) :
    Calls Try.prog 34 #[.slice (some ⟨g, 0, none⟩) n c, .int .i64 1] w fun e w' => e = .returned (.int .i64 (1 + (n : Int))) ∧ w = w' := by
  have HC := Lib.hid hc
  clear hc
  go_enter Try.func34, Try.ntmps34
  go_wp2
  go_loop [1, 5] (fun v i => ∃ k : Nat, k ≤ n ∧ i = .int .i64 k ∧ v = .int .i64 (1 + (k : Int))) (fun _ i => n - (intOf i).toNat)
  case atStart => exact ⟨0, by omega, rfl, rfl⟩
  case round =>
    obtain ⟨k, hk, rfl, rfl⟩ := hrel
    by_cases hlt : k < n
    · have co := HC.out k hlt
      have ho := order_self .f32 (cvt_num (1 + (k : Int)))
      have k0 : (0 : Int) ≤ k := by omega
      have kn : (k : Int) < n := by omega
      have kn2 : (n : Int) ≤ 2000 := by omega
      go_wp2
      go_round
      case rel => exact ⟨k + 1, by omega, by go_num, by go_num⟩
      case measure => simp [intOf]; omega
    · obtain rfl : k = n := by omega
      go_wp2
      go_ret
      exact ⟨rfl, rfl⟩
theorem held_zero (ao : Option Addr) (c : Nat) (w : World) : Calls Try.prog 34 #[.slice ao 0 c, .int .i64 1] w fun e w' => e = .returned (.int .i64 1) ∧ w = w' := by
  go_enter Try.func34, Try.ntmps34
  go_wp2
  go_loop [1, 5] (fun v i => v = .int .i64 1 ∧ i = .int .i64 0) (fun _ _ => 0)
  case atStart => exact ⟨rfl, rfl⟩
  case round =>
    obtain ⟨rfl, rfl⟩ := hrel
    go_wp2
    go_ret
    exact ⟨rfl, rfl⟩

theorem own_floats {w : World} {base n c : Nat} {ao : Option Addr} {e : TypeId} {G : Nat → Nat} (h : w.ownsRow base e 1 (.slice ao n c) n (floatsV G n)) (hn : 0 < n) : ∃ g cur, ao = some ⟨g, 0, none⟩ ∧ base ≤ g ∧ g < w.heap.size ∧ w.heap[g]? = some (.cells cur e (0, 0)) ∧ n ≤ cur.size ∧ ∀ j, j < n → cur[j]? = some (.float .f32 (G j)) := by
  have hlt := h.lt
  rcases h.2 with ⟨_, h3⟩ | ⟨g', cap, cur, hv, hb, hh, h1, h2, h3, ht⟩
  · omega
  · simp only [Value.slice.injEq] at hv
    obtain ⟨rfl, _, rfl⟩ := hv
    refine ⟨g', cur, rfl, hb, (hlt g' rfl).2, hh, by omega, fun j hj => ?_⟩
    have h4 : (cur.toList.take (n * 1))[j]? = (floatsV G n)[j]? := by rw [ht]
    rw [floatsV_at hj, List.getElem?_take, if_pos (by omega)] at h4
    simpa using h4

set_option maxRecDepth 100000 in
set_option maxHeartbeats 3200000 in
theorem exactPrintedIn_any (r : Int) (s t : Nat) (F : Nat → Nat) (fed cover : Nat) (q : Int) (lr : -128 ≤ r) (ur : r ≤ 127) (lq : -9223372036854775808 ≤ q) (uq : q ≤ 9223372036854775807) (w : World) : Calls Try.prog 9 #[.agg (train r s t F), .float .f32 fed, .float .f32 cover, .int .i64 q] w fun e w' => e = .returned (.bool true) ∧ Below w.heap.size w w' := by
  obtain ⟨N, C, P, hN2, hP, hS, hI⟩ : ∃ (N : Nat) (C : Int) (P : Nat → Nat), N ≤ 2000 ∧ Hid (∀ j, j < N → ¬ Flt.NaN single (P j)) ∧ (∀ w : World, Calls Try.prog 30 #[.agg (train r s t F), .float .f32 fed, .float .f32 cover, .int .i64 q] w fun e w' => ∃ v, e = .returned (.tuple #[v, .int .i64 C]) ∧ Floats w' w.heap.size v N P ∧ Below w.heap.size w w') ∧ (∀ w : World, Calls Try.prog 31 #[.agg (train r s t F), .float .f32 fed, .float .f32 cover, .int .i64 q] w fun e w' => ∃ v, e = .returned (.tuple #[v, .int .i64 C]) ∧ Floats w' w.heap.size v N P ∧ Below w.heap.size w w') :=
    ⟨_, _, _, ts_le, Lib.hid ts_num, fun w => specPrinted_any r s t F fed cover q w lr ur lq uq, fun w => implPrinted_any r s t F fed cover q w lr ur lq uq⟩
  rcases Nat.eq_zero_or_pos N with hN | hN
  · subst hN
    go_enter Try.func9, Try.ntmps9
    go_wp2_with (first | ((with_reducible refine at_load 26 ?_); refine wpList_load_part rfl 26 _ rfl _ 0 15 rfl _ _ _ _ (by repeat (first | (with_reducible assumption) | (with_reducible refine blk_drewN _ _ _ ?_) | ((with_reducible refine blk_new _ _ _ ?_); focus (simp; done)) | ((with_reducible refine blk_old _ _ _ ?_ ?_); focus (simp; done)) | ((with_reducible refine blk_old _ _ _ ?_ ?_); focus (first | omega | (simp; omega))) | ((with_reducible apply blk_set); focus (simp; done)) | ((with_reducible refine blk_off _ _ _ _ ?_ ?_); focus (simp; done)) | ((with_reducible refine blk_offc _ _ _ _ ?_ ?_); focus (first | (simp; done) | omega | (simp; omega))) | ((with_reducible refine blk_off _ _ _ _ ?_ ?_); focus (first | omega | (simp; omega))) | (with_reducible refine blk_drew _ _ ?_) | ((with_reducible refine blk_below (by assumption) ?_ ?_); focus (simp; done)) | ((with_reducible refine blk_below (by assumption) ?_ ?_); focus (first | omega | (simp; omega))))) Try.underlying26 rfl (by kernel_rfl) (by simp [row_size]) _ (row_all [_, _, _] 12 _) ?_) | (go_at_call 14; (with_reducible refine (toTrain_any r s t F _).mono ?_); rintro e w1 ⟨rfl, hb1⟩; have hz1 := hb1.size; (try simp at hz1); obtain ⟨hc1, hf1⟩ := bcell hb1))
    go_at_call 30
    refine (hS _).mono ?_
    rintro e wa ⟨v0, rfl, ⟨ao0, k0, rfl, ho0⟩, hba⟩
    have a1 : wa.heap[w.heap.size]? = some (.cells (train r s t F) 26 (0, 0)) := blk_below hba (by first | omega | (simp; done) | (simp; omega)) (by repeat (first | (with_reducible assumption) | (with_reducible refine blk_drewN _ _ _ ?_) | ((with_reducible refine blk_new _ _ _ ?_); focus (simp; done)) | ((with_reducible refine blk_old _ _ _ ?_ ?_); focus (simp; done)) | ((with_reducible refine blk_old _ _ _ ?_ ?_); focus (first | omega | (simp; omega))) | ((with_reducible apply blk_set); focus (simp; done)) | ((with_reducible refine blk_off _ _ _ _ ?_ ?_); focus (simp; done)) | ((with_reducible refine blk_offc _ _ _ _ ?_ ?_); focus (first | (simp; done) | omega | (simp; omega))) | ((with_reducible refine blk_off _ _ _ _ ?_ ?_); focus (first | omega | (simp; omega))) | (with_reducible refine blk_drew _ _ ?_) | ((with_reducible refine blk_below (by assumption) ?_ ?_); focus (simp; done)) | ((with_reducible refine blk_below (by assumption) ?_ ?_); focus (first | omega | (simp; omega)))))
    have a5 : Below w.heap.size w wa := bel_next hba (by first | omega | (simp; done) | (simp; omega)) (by repeat (first | (with_reducible assumption) | (with_reducible refine bel_drewN _ ?_) | (with_reducible exact Below.refl _ _) | ((with_reducible refine bel_alloc _ ?_ ?_); focus (first | omega | (simp; done) | (simp; omega))) | ((with_reducible refine bel_row _ ?_ ?_); focus (first | omega | (simp; done) | (simp; omega))) | ((with_reducible refine bel_cell _ ?_ ?_); focus (first | omega | (simp; done) | (simp; omega))) | (with_reducible refine Below.drew ?_) | (with_reducible refine below_wideW _ ?_) | ((with_reducible refine bel_next (by assumption) ?_ ?_); focus (first | omega | (simp; done) | (simp; omega)))))
    have az := hba.size
    (try simp at az)
    clear ho0 hba hb1 hc1 hf1
    go_wp2_with (first | ((with_reducible refine at_load 26 ?_); refine wpList_load_part rfl 26 _ rfl _ 0 15 rfl _ _ _ _ (by repeat (first | (with_reducible assumption) | (with_reducible refine blk_drewN _ _ _ ?_) | ((with_reducible refine blk_new _ _ _ ?_); focus (simp; done)) | ((with_reducible refine blk_old _ _ _ ?_ ?_); focus (simp; done)) | ((with_reducible refine blk_old _ _ _ ?_ ?_); focus (first | omega | (simp; omega))) | ((with_reducible apply blk_set); focus (simp; done)) | ((with_reducible refine blk_off _ _ _ _ ?_ ?_); focus (simp; done)) | ((with_reducible refine blk_offc _ _ _ _ ?_ ?_); focus (first | (simp; done) | omega | (simp; omega))) | ((with_reducible refine blk_off _ _ _ _ ?_ ?_); focus (first | omega | (simp; omega))) | (with_reducible refine blk_drew _ _ ?_) | ((with_reducible refine blk_below (by assumption) ?_ ?_); focus (simp; done)) | ((with_reducible refine blk_below (by assumption) ?_ ?_); focus (first | omega | (simp; omega))))) Try.underlying26 rfl (by kernel_rfl) (by simp [row_size]) _ (row_all [_, _, _] 12 _) ?_) | (go_at_call 14; (with_reducible refine (toTrain_any r s t F _).mono ?_); rintro e w1 ⟨rfl, hb1⟩; have hz1 := hb1.size; (try simp at hz1); obtain ⟨hc1, hf1⟩ := bcell hb1))
    go_at_call 31
    refine (hI _).mono ?_
    rintro e wb ⟨v1, rfl, ⟨ao1, k1, rfl, ho1⟩, hbb⟩
    have b1 : wb.heap[w.heap.size]? = some (.cells (train r s t F) 26 (0, 0)) := blk_below hbb (by first | omega | (simp; done) | (simp; omega)) (by repeat (first | (with_reducible assumption) | (with_reducible refine blk_drewN _ _ _ ?_) | ((with_reducible refine blk_new _ _ _ ?_); focus (simp; done)) | ((with_reducible refine blk_old _ _ _ ?_ ?_); focus (simp; done)) | ((with_reducible refine blk_old _ _ _ ?_ ?_); focus (first | omega | (simp; omega))) | ((with_reducible apply blk_set); focus (simp; done)) | ((with_reducible refine blk_off _ _ _ _ ?_ ?_); focus (simp; done)) | ((with_reducible refine blk_offc _ _ _ _ ?_ ?_); focus (first | (simp; done) | omega | (simp; omega))) | ((with_reducible refine blk_off _ _ _ _ ?_ ?_); focus (first | omega | (simp; omega))) | (with_reducible refine blk_drew _ _ ?_) | ((with_reducible refine blk_below (by assumption) ?_ ?_); focus (simp; done)) | ((with_reducible refine blk_below (by assumption) ?_ ?_); focus (first | omega | (simp; omega)))))
    have b5 : Below w.heap.size w wb := bel_next hbb (by first | omega | (simp; done) | (simp; omega)) (by repeat (first | (with_reducible assumption) | (with_reducible refine bel_drewN _ ?_) | (with_reducible exact Below.refl _ _) | ((with_reducible refine bel_alloc _ ?_ ?_); focus (first | omega | (simp; done) | (simp; omega))) | ((with_reducible refine bel_row _ ?_ ?_); focus (first | omega | (simp; done) | (simp; omega))) | ((with_reducible refine bel_cell _ ?_ ?_); focus (first | omega | (simp; done) | (simp; omega))) | (with_reducible refine Below.drew ?_) | (with_reducible refine below_wideW _ ?_) | ((with_reducible refine bel_next (by assumption) ?_ ?_); focus (first | omega | (simp; done) | (simp; omega)))))
    have bz := hbb.size
    (try simp at bz)
    clear ho1 hbb hb1 hc1 hf1 a1 a5
    go_wp2_with fail
    go_at_call 32
    refine (eqS_zero _ _ _ _ _).mono ?_
    rintro e w' ⟨rfl, m, rfl⟩
    go_wp2_with fail
    go_at_call 33
    refine (mark_zero _ _ _).mono ?_
    rintro e w' ⟨rfl, rfl⟩
    go_wp2_with fail
    go_at_call 34
    refine (held_zero _ _ _).mono ?_
    rintro e w' ⟨rfl, rfl⟩
    go_wp2_with (first | ((with_reducible refine at_load 26 ?_); refine wpList_load_part rfl 26 _ rfl _ 0 15 rfl _ _ _ _ (by repeat (first | (with_reducible assumption) | (with_reducible refine blk_drewN _ _ _ ?_) | ((with_reducible refine blk_new _ _ _ ?_); focus (simp; done)) | ((with_reducible refine blk_old _ _ _ ?_ ?_); focus (simp; done)) | ((with_reducible refine blk_old _ _ _ ?_ ?_); focus (first | omega | (simp; omega))) | ((with_reducible apply blk_set); focus (simp; done)) | ((with_reducible refine blk_off _ _ _ _ ?_ ?_); focus (simp; done)) | ((with_reducible refine blk_offc _ _ _ _ ?_ ?_); focus (first | (simp; done) | omega | (simp; omega))) | ((with_reducible refine blk_off _ _ _ _ ?_ ?_); focus (first | omega | (simp; omega))) | (with_reducible refine blk_drew _ _ ?_) | ((with_reducible refine blk_below (by assumption) ?_ ?_); focus (simp; done)) | ((with_reducible refine blk_below (by assumption) ?_ ?_); focus (first | omega | (simp; omega))))) Try.underlying26 rfl (by kernel_rfl) (by simp [row_size]) _ (row_all [_, _, _] 12 _) ?_) | (go_at_call 14; (with_reducible refine (toTrain_any r s t F _).mono ?_); rintro e w1 ⟨rfl, hb1⟩; have hz1 := hb1.size; (try simp at hz1); obtain ⟨hc1, hf1⟩ := bcell hb1))
    go_at_call 31
    refine (hI _).mono ?_
    rintro e wd ⟨v2, rfl, ⟨ao2, k2, rfl, ho2⟩, hbd⟩
    have d1 : wd.heap[w.heap.size]? = some (.cells (train r s t F) 26 (0, 0)) := blk_below hbd (by first | omega | (simp; done) | (simp; omega)) (by repeat (first | (with_reducible assumption) | (with_reducible refine blk_drewN _ _ _ ?_) | ((with_reducible refine blk_new _ _ _ ?_); focus (simp; done)) | ((with_reducible refine blk_old _ _ _ ?_ ?_); focus (simp; done)) | ((with_reducible refine blk_old _ _ _ ?_ ?_); focus (first | omega | (simp; omega))) | ((with_reducible apply blk_set); focus (simp; done)) | ((with_reducible refine blk_off _ _ _ _ ?_ ?_); focus (simp; done)) | ((with_reducible refine blk_offc _ _ _ _ ?_ ?_); focus (first | (simp; done) | omega | (simp; omega))) | ((with_reducible refine blk_off _ _ _ _ ?_ ?_); focus (first | omega | (simp; omega))) | (with_reducible refine blk_drew _ _ ?_) | ((with_reducible refine blk_below (by assumption) ?_ ?_); focus (simp; done)) | ((with_reducible refine blk_below (by assumption) ?_ ?_); focus (first | omega | (simp; omega)))))
    have d5 : Below w.heap.size w wd := bel_next hbd (by first | omega | (simp; done) | (simp; omega)) (by repeat (first | (with_reducible assumption) | (with_reducible refine bel_drewN _ ?_) | (with_reducible exact Below.refl _ _) | ((with_reducible refine bel_alloc _ ?_ ?_); focus (first | omega | (simp; done) | (simp; omega))) | ((with_reducible refine bel_row _ ?_ ?_); focus (first | omega | (simp; done) | (simp; omega))) | ((with_reducible refine bel_cell _ ?_ ?_); focus (first | omega | (simp; done) | (simp; omega))) | (with_reducible refine Below.drew ?_) | (with_reducible refine below_wideW _ ?_) | ((with_reducible refine bel_next (by assumption) ?_ ?_); focus (first | omega | (simp; done) | (simp; omega)))))
    have dz := hbd.size
    (try simp at dz)
    clear ho2 hbd hb1 hc1 hf1
    go_wp2_with fail
    go_at_call 32
    refine (eqS_zero _ _ _ _ _).mono ?_
    rintro e w' ⟨rfl, m', rfl⟩
    go_wp2_with fail
    go_at_call 34
    refine (held_zero _ _ _).mono ?_
    rintro e w' ⟨rfl, rfl⟩
    go_wp2
    go_ret
    exact ⟨by simp, (by repeat (first | (with_reducible assumption) | (with_reducible refine bel_drewN _ ?_) | (with_reducible exact Below.refl _ _) | ((with_reducible refine bel_alloc _ ?_ ?_); focus (first | omega | (simp; done) | (simp; omega))) | ((with_reducible refine bel_row _ ?_ ?_); focus (first | omega | (simp; done) | (simp; omega))) | ((with_reducible refine bel_cell _ ?_ ?_); focus (first | omega | (simp; done) | (simp; omega))) | (with_reducible refine Below.drew ?_) | (with_reducible refine below_wideW _ ?_) | ((with_reducible refine bel_next (by assumption) ?_ ?_); focus (first | omega | (simp; done) | (simp; omega)))))⟩
  · skip
    have hN0 : (0 : Int) ≤ N := by omega
    have hN3 : (N : Int) ≤ 2000 := by omega
    go_enter Try.func9, Try.ntmps9
    go_wp2_with (first | ((with_reducible refine at_load 26 ?_); refine wpList_load_part rfl 26 _ rfl _ 0 15 rfl _ _ _ _ (by repeat (first | (with_reducible assumption) | (with_reducible refine blk_drewN _ _ _ ?_) | ((with_reducible refine blk_new _ _ _ ?_); focus (simp; done)) | ((with_reducible refine blk_old _ _ _ ?_ ?_); focus (simp; done)) | ((with_reducible refine blk_old _ _ _ ?_ ?_); focus (first | omega | (simp; omega))) | ((with_reducible apply blk_set); focus (simp; done)) | ((with_reducible refine blk_off _ _ _ _ ?_ ?_); focus (simp; done)) | ((with_reducible refine blk_offc _ _ _ _ ?_ ?_); focus (first | (simp; done) | omega | (simp; omega))) | ((with_reducible refine blk_off _ _ _ _ ?_ ?_); focus (first | omega | (simp; omega))) | (with_reducible refine blk_drew _ _ ?_) | ((with_reducible refine blk_below (by assumption) ?_ ?_); focus (simp; done)) | ((with_reducible refine blk_below (by assumption) ?_ ?_); focus (first | omega | (simp; omega))))) Try.underlying26 rfl (by kernel_rfl) (by simp [row_size]) _ (row_all [_, _, _] 12 _) ?_) | (go_at_call 14; (with_reducible refine (toTrain_any r s t F _).mono ?_); rintro e w1 ⟨rfl, hb1⟩; have hz1 := hb1.size; (try simp at hz1); obtain ⟨hc1, hf1⟩ := bcell hb1))
    go_at_call 30
    refine (hS _).mono ?_
    rintro e wa ⟨v0, rfl, ⟨ao0, k0, rfl, ho0⟩, hba⟩
    have a1 : wa.heap[w.heap.size]? = some (.cells (train r s t F) 26 (0, 0)) := blk_below hba (by first | omega | (simp; done) | (simp; omega)) (by repeat (first | (with_reducible assumption) | (with_reducible refine blk_drewN _ _ _ ?_) | ((with_reducible refine blk_new _ _ _ ?_); focus (simp; done)) | ((with_reducible refine blk_old _ _ _ ?_ ?_); focus (simp; done)) | ((with_reducible refine blk_old _ _ _ ?_ ?_); focus (first | omega | (simp; omega))) | ((with_reducible apply blk_set); focus (simp; done)) | ((with_reducible refine blk_off _ _ _ _ ?_ ?_); focus (simp; done)) | ((with_reducible refine blk_offc _ _ _ _ ?_ ?_); focus (first | (simp; done) | omega | (simp; omega))) | ((with_reducible refine blk_off _ _ _ _ ?_ ?_); focus (first | omega | (simp; omega))) | (with_reducible refine blk_drew _ _ ?_) | ((with_reducible refine blk_below (by assumption) ?_ ?_); focus (simp; done)) | ((with_reducible refine blk_below (by assumption) ?_ ?_); focus (first | omega | (simp; omega)))))
    have a5 : Below w.heap.size w wa := bel_next hba (by first | omega | (simp; done) | (simp; omega)) (by repeat (first | (with_reducible assumption) | (with_reducible refine bel_drewN _ ?_) | (with_reducible exact Below.refl _ _) | ((with_reducible refine bel_alloc _ ?_ ?_); focus (first | omega | (simp; done) | (simp; omega))) | ((with_reducible refine bel_row _ ?_ ?_); focus (first | omega | (simp; done) | (simp; omega))) | ((with_reducible refine bel_cell _ ?_ ?_); focus (first | omega | (simp; done) | (simp; omega))) | (with_reducible refine Below.drew ?_) | (with_reducible refine below_wideW _ ?_) | ((with_reducible refine bel_next (by assumption) ?_ ?_); focus (first | omega | (simp; done) | (simp; omega)))))
    have az := hba.size
    (try simp at az)
    obtain ⟨g0, cu0, rfl, _, l0, m0, _, u0⟩ := own_floats (ho0 hN) hN
    have U0 := Lib.hid u0
    clear u0
    clear ho0 hba hb1 hc1 hf1
    go_wp2_with (first | ((with_reducible refine at_load 26 ?_); refine wpList_load_part rfl 26 _ rfl _ 0 15 rfl _ _ _ _ (by repeat (first | (with_reducible assumption) | (with_reducible refine blk_drewN _ _ _ ?_) | ((with_reducible refine blk_new _ _ _ ?_); focus (simp; done)) | ((with_reducible refine blk_old _ _ _ ?_ ?_); focus (simp; done)) | ((with_reducible refine blk_old _ _ _ ?_ ?_); focus (first | omega | (simp; omega))) | ((with_reducible apply blk_set); focus (simp; done)) | ((with_reducible refine blk_off _ _ _ _ ?_ ?_); focus (simp; done)) | ((with_reducible refine blk_offc _ _ _ _ ?_ ?_); focus (first | (simp; done) | omega | (simp; omega))) | ((with_reducible refine blk_off _ _ _ _ ?_ ?_); focus (first | omega | (simp; omega))) | (with_reducible refine blk_drew _ _ ?_) | ((with_reducible refine blk_below (by assumption) ?_ ?_); focus (simp; done)) | ((with_reducible refine blk_below (by assumption) ?_ ?_); focus (first | omega | (simp; omega))))) Try.underlying26 rfl (by kernel_rfl) (by simp [row_size]) _ (row_all [_, _, _] 12 _) ?_) | (go_at_call 14; (with_reducible refine (toTrain_any r s t F _).mono ?_); rintro e w1 ⟨rfl, hb1⟩; have hz1 := hb1.size; (try simp at hz1); obtain ⟨hc1, hf1⟩ := bcell hb1))
    go_at_call 31
    refine (hI _).mono ?_
    rintro e wb ⟨v1, rfl, ⟨ao1, k1, rfl, ho1⟩, hbb⟩
    have b1 : wb.heap[w.heap.size]? = some (.cells (train r s t F) 26 (0, 0)) := blk_below hbb (by first | omega | (simp; done) | (simp; omega)) (by repeat (first | (with_reducible assumption) | (with_reducible refine blk_drewN _ _ _ ?_) | ((with_reducible refine blk_new _ _ _ ?_); focus (simp; done)) | ((with_reducible refine blk_old _ _ _ ?_ ?_); focus (simp; done)) | ((with_reducible refine blk_old _ _ _ ?_ ?_); focus (first | omega | (simp; omega))) | ((with_reducible apply blk_set); focus (simp; done)) | ((with_reducible refine blk_off _ _ _ _ ?_ ?_); focus (simp; done)) | ((with_reducible refine blk_offc _ _ _ _ ?_ ?_); focus (first | (simp; done) | omega | (simp; omega))) | ((with_reducible refine blk_off _ _ _ _ ?_ ?_); focus (first | omega | (simp; omega))) | (with_reducible refine blk_drew _ _ ?_) | ((with_reducible refine blk_below (by assumption) ?_ ?_); focus (simp; done)) | ((with_reducible refine blk_below (by assumption) ?_ ?_); focus (first | omega | (simp; omega)))))
    have b5 : Below w.heap.size w wb := bel_next hbb (by first | omega | (simp; done) | (simp; omega)) (by repeat (first | (with_reducible assumption) | (with_reducible refine bel_drewN _ ?_) | (with_reducible exact Below.refl _ _) | ((with_reducible refine bel_alloc _ ?_ ?_); focus (first | omega | (simp; done) | (simp; omega))) | ((with_reducible refine bel_row _ ?_ ?_); focus (first | omega | (simp; done) | (simp; omega))) | ((with_reducible refine bel_cell _ ?_ ?_); focus (first | omega | (simp; done) | (simp; omega))) | (with_reducible refine Below.drew ?_) | (with_reducible refine below_wideW _ ?_) | ((with_reducible refine bel_next (by assumption) ?_ ?_); focus (first | omega | (simp; done) | (simp; omega)))))
    have bz := hbb.size
    (try simp at bz)
    obtain ⟨g1, cu1, rfl, p1, l1, m1, s1, u1⟩ := own_floats (ho1 hN) hN
    have n0 : wb.heap[g0]? = some (.cells cu0 23 (0, 0)) := blk_below hbb (by first | omega | (simp; done) | (simp; omega)) (by repeat (first | (with_reducible assumption) | (with_reducible refine blk_drewN _ _ _ ?_) | ((with_reducible refine blk_new _ _ _ ?_); focus (simp; done)) | ((with_reducible refine blk_old _ _ _ ?_ ?_); focus (simp; done)) | ((with_reducible refine blk_old _ _ _ ?_ ?_); focus (first | omega | (simp; omega))) | ((with_reducible apply blk_set); focus (simp; done)) | ((with_reducible refine blk_off _ _ _ _ ?_ ?_); focus (simp; done)) | ((with_reducible refine blk_offc _ _ _ _ ?_ ?_); focus (first | (simp; done) | omega | (simp; omega))) | ((with_reducible refine blk_off _ _ _ _ ?_ ?_); focus (first | omega | (simp; omega))) | (with_reducible refine blk_drew _ _ ?_) | ((with_reducible refine blk_below (by assumption) ?_ ?_); focus (simp; done)) | ((with_reducible refine blk_below (by assumption) ?_ ?_); focus (first | omega | (simp; omega)))))
    have hne : g0 ≠ g1 := by (try simp at p1); omega
    have U1 := Lib.hid u1
    clear u1 m0
    clear ho1 hbb hb1 hc1 hf1 a1 a5
    go_wp2_with fail
    go_at_call 32
    refine (eqS_pos P N g1 k1 g0 k0 _ hN2 hP.out (fun j hj => (cell_of_row _ g1 j cu1 23 (0, 0) (by repeat (first | (with_reducible assumption) | (with_reducible refine blk_drewN _ _ _ ?_) | ((with_reducible refine blk_new _ _ _ ?_); focus (simp; done)) | ((with_reducible refine blk_old _ _ _ ?_ ?_); focus (simp; done)) | ((with_reducible refine blk_old _ _ _ ?_ ?_); focus (first | omega | (simp; omega))) | ((with_reducible apply blk_set); focus (simp; done)) | ((with_reducible refine blk_off _ _ _ _ ?_ ?_); focus (simp; done)) | ((with_reducible refine blk_offc _ _ _ _ ?_ ?_); focus (first | (simp; done) | omega | (simp; omega))) | ((with_reducible refine blk_off _ _ _ _ ?_ ?_); focus (first | omega | (simp; omega))) | (with_reducible refine blk_drew _ _ ?_) | ((with_reducible refine blk_below (by assumption) ?_ ?_); focus (simp; done)) | ((with_reducible refine blk_below (by assumption) ?_ ?_); focus (first | omega | (simp; omega)))))).trans (U1.out j hj)) (fun j hj => (cell_of_row _ g0 j cu0 23 (0, 0) (by repeat (first | (with_reducible assumption) | (with_reducible refine blk_drewN _ _ _ ?_) | ((with_reducible refine blk_new _ _ _ ?_); focus (simp; done)) | ((with_reducible refine blk_old _ _ _ ?_ ?_); focus (simp; done)) | ((with_reducible refine blk_old _ _ _ ?_ ?_); focus (first | omega | (simp; omega))) | ((with_reducible apply blk_set); focus (simp; done)) | ((with_reducible refine blk_off _ _ _ _ ?_ ?_); focus (simp; done)) | ((with_reducible refine blk_offc _ _ _ _ ?_ ?_); focus (first | (simp; done) | omega | (simp; omega))) | ((with_reducible refine blk_off _ _ _ _ ?_ ?_); focus (first | omega | (simp; omega))) | (with_reducible refine blk_drew _ _ ?_) | ((with_reducible refine blk_below (by assumption) ?_ ?_); focus (simp; done)) | ((with_reducible refine blk_below (by assumption) ?_ ?_); focus (first | omega | (simp; omega)))))).trans (U0.out j hj))).mono ?_
    rintro e w' ⟨rfl, m, rfl⟩
    go_wp2_with fail
    go_at_call 33
    refine (mark_pos N g1 k1 cu1 _ hN2 (by repeat (first | (with_reducible assumption) | (with_reducible refine blk_drewN _ _ _ ?_) | ((with_reducible refine blk_new _ _ _ ?_); focus (simp; done)) | ((with_reducible refine blk_old _ _ _ ?_ ?_); focus (simp; done)) | ((with_reducible refine blk_old _ _ _ ?_ ?_); focus (first | omega | (simp; omega))) | ((with_reducible apply blk_set); focus (simp; done)) | ((with_reducible refine blk_off _ _ _ _ ?_ ?_); focus (simp; done)) | ((with_reducible refine blk_offc _ _ _ _ ?_ ?_); focus (first | (simp; done) | omega | (simp; omega))) | ((with_reducible refine blk_off _ _ _ _ ?_ ?_); focus (first | omega | (simp; omega))) | (with_reducible refine blk_drew _ _ ?_) | ((with_reducible refine blk_below (by assumption) ?_ ?_); focus (simp; done)) | ((with_reducible refine blk_below (by assumption) ?_ ?_); focus (first | omega | (simp; omega))))) s1).mono ?_
    rintro e wm ⟨rfl, cu2, q1, q2, q3, q4⟩
    have c1 : wm.heap[w.heap.size]? = some (.cells (train r s t F) 26 (0, 0)) := (q3 _ (by (try simp at p1); omega)).trans (by repeat (first | (with_reducible assumption) | (with_reducible refine blk_drewN _ _ _ ?_) | ((with_reducible refine blk_new _ _ _ ?_); focus (simp; done)) | ((with_reducible refine blk_old _ _ _ ?_ ?_); focus (simp; done)) | ((with_reducible refine blk_old _ _ _ ?_ ?_); focus (first | omega | (simp; omega))) | ((with_reducible apply blk_set); focus (simp; done)) | ((with_reducible refine blk_off _ _ _ _ ?_ ?_); focus (simp; done)) | ((with_reducible refine blk_offc _ _ _ _ ?_ ?_); focus (first | (simp; done) | omega | (simp; omega))) | ((with_reducible refine blk_off _ _ _ _ ?_ ?_); focus (first | omega | (simp; omega))) | (with_reducible refine blk_drew _ _ ?_) | ((with_reducible refine blk_below (by assumption) ?_ ?_); focus (simp; done)) | ((with_reducible refine blk_below (by assumption) ?_ ?_); focus (first | omega | (simp; omega)))))
    have c0 : wm.heap[g0]? = some (.cells cu0 23 (0, 0)) := (q3 _ hne).trans (by repeat (first | (with_reducible assumption) | (with_reducible refine blk_drewN _ _ _ ?_) | ((with_reducible refine blk_new _ _ _ ?_); focus (simp; done)) | ((with_reducible refine blk_old _ _ _ ?_ ?_); focus (simp; done)) | ((with_reducible refine blk_old _ _ _ ?_ ?_); focus (first | omega | (simp; omega))) | ((with_reducible apply blk_set); focus (simp; done)) | ((with_reducible refine blk_off _ _ _ _ ?_ ?_); focus (simp; done)) | ((with_reducible refine blk_offc _ _ _ _ ?_ ?_); focus (first | (simp; done) | omega | (simp; omega))) | ((with_reducible refine blk_off _ _ _ _ ?_ ?_); focus (first | omega | (simp; omega))) | (with_reducible refine blk_drew _ _ ?_) | ((with_reducible refine blk_below (by assumption) ?_ ?_); focus (simp; done)) | ((with_reducible refine blk_below (by assumption) ?_ ?_); focus (first | omega | (simp; omega)))))
    have c5 : Below w.heap.size w wm := Below.trans (by repeat (first | (with_reducible assumption) | (with_reducible refine bel_drewN _ ?_) | (with_reducible exact Below.refl _ _) | ((with_reducible refine bel_alloc _ ?_ ?_); focus (first | omega | (simp; done) | (simp; omega))) | ((with_reducible refine bel_row _ ?_ ?_); focus (first | omega | (simp; done) | (simp; omega))) | ((with_reducible refine bel_cell _ ?_ ?_); focus (first | omega | (simp; done) | (simp; omega))) | (with_reducible refine Below.drew ?_) | (with_reducible refine below_wideW _ ?_) | ((with_reducible refine bel_next (by assumption) ?_ ?_); focus (first | omega | (simp; done) | (simp; omega))))) (q4.mono (by (try simp at p1); omega))
    have cz := q4.size
    (try simp at cz)
    have Q2 := Lib.hid q2
    clear q2 q3 q4 m1 n0 b1 b5
    go_wp2_with fail
    go_at_call 34
    refine (held_pos N g1 k1 _ hN2 (fun j hj => (cell_of_row _ g1 j cu2 23 (0, 0) (by repeat (first | (with_reducible assumption) | (with_reducible refine blk_drewN _ _ _ ?_) | ((with_reducible refine blk_new _ _ _ ?_); focus (simp; done)) | ((with_reducible refine blk_old _ _ _ ?_ ?_); focus (simp; done)) | ((with_reducible refine blk_old _ _ _ ?_ ?_); focus (first | omega | (simp; omega))) | ((with_reducible apply blk_set); focus (simp; done)) | ((with_reducible refine blk_off _ _ _ _ ?_ ?_); focus (simp; done)) | ((with_reducible refine blk_offc _ _ _ _ ?_ ?_); focus (first | (simp; done) | omega | (simp; omega))) | ((with_reducible refine blk_off _ _ _ _ ?_ ?_); focus (first | omega | (simp; omega))) | (with_reducible refine blk_drew _ _ ?_) | ((with_reducible refine blk_below (by assumption) ?_ ?_); focus (simp; done)) | ((with_reducible refine blk_below (by assumption) ?_ ?_); focus (first | omega | (simp; omega)))))).trans (Q2.out j hj))).mono ?_
    rintro e w' ⟨rfl, rfl⟩
    go_wp2_with (first | ((with_reducible refine at_load 26 ?_); refine wpList_load_part rfl 26 _ rfl _ 0 15 rfl _ _ _ _ (by repeat (first | (with_reducible assumption) | (with_reducible refine blk_drewN _ _ _ ?_) | ((with_reducible refine blk_new _ _ _ ?_); focus (simp; done)) | ((with_reducible refine blk_old _ _ _ ?_ ?_); focus (simp; done)) | ((with_reducible refine blk_old _ _ _ ?_ ?_); focus (first | omega | (simp; omega))) | ((with_reducible apply blk_set); focus (simp; done)) | ((with_reducible refine blk_off _ _ _ _ ?_ ?_); focus (simp; done)) | ((with_reducible refine blk_offc _ _ _ _ ?_ ?_); focus (first | (simp; done) | omega | (simp; omega))) | ((with_reducible refine blk_off _ _ _ _ ?_ ?_); focus (first | omega | (simp; omega))) | (with_reducible refine blk_drew _ _ ?_) | ((with_reducible refine blk_below (by assumption) ?_ ?_); focus (simp; done)) | ((with_reducible refine blk_below (by assumption) ?_ ?_); focus (first | omega | (simp; omega))))) Try.underlying26 rfl (by kernel_rfl) (by simp [row_size]) _ (row_all [_, _, _] 12 _) ?_) | (go_at_call 14; (with_reducible refine (toTrain_any r s t F _).mono ?_); rintro e w1 ⟨rfl, hb1⟩; have hz1 := hb1.size; (try simp at hz1); obtain ⟨hc1, hf1⟩ := bcell hb1))
    go_at_call 31
    refine (hI _).mono ?_
    rintro e wd ⟨v2, rfl, ⟨ao2, k2, rfl, ho2⟩, hbd⟩
    have d1 : wd.heap[w.heap.size]? = some (.cells (train r s t F) 26 (0, 0)) := blk_below hbd (by first | omega | (simp; done) | (simp; omega)) (by repeat (first | (with_reducible assumption) | (with_reducible refine blk_drewN _ _ _ ?_) | ((with_reducible refine blk_new _ _ _ ?_); focus (simp; done)) | ((with_reducible refine blk_old _ _ _ ?_ ?_); focus (simp; done)) | ((with_reducible refine blk_old _ _ _ ?_ ?_); focus (first | omega | (simp; omega))) | ((with_reducible apply blk_set); focus (simp; done)) | ((with_reducible refine blk_off _ _ _ _ ?_ ?_); focus (simp; done)) | ((with_reducible refine blk_offc _ _ _ _ ?_ ?_); focus (first | (simp; done) | omega | (simp; omega))) | ((with_reducible refine blk_off _ _ _ _ ?_ ?_); focus (first | omega | (simp; omega))) | (with_reducible refine blk_drew _ _ ?_) | ((with_reducible refine blk_below (by assumption) ?_ ?_); focus (simp; done)) | ((with_reducible refine blk_below (by assumption) ?_ ?_); focus (first | omega | (simp; omega)))))
    have d5 : Below w.heap.size w wd := bel_next hbd (by first | omega | (simp; done) | (simp; omega)) (by repeat (first | (with_reducible assumption) | (with_reducible refine bel_drewN _ ?_) | (with_reducible exact Below.refl _ _) | ((with_reducible refine bel_alloc _ ?_ ?_); focus (first | omega | (simp; done) | (simp; omega))) | ((with_reducible refine bel_row _ ?_ ?_); focus (first | omega | (simp; done) | (simp; omega))) | ((with_reducible refine bel_cell _ ?_ ?_); focus (first | omega | (simp; done) | (simp; omega))) | (with_reducible refine Below.drew ?_) | (with_reducible refine below_wideW _ ?_) | ((with_reducible refine bel_next (by assumption) ?_ ?_); focus (first | omega | (simp; done) | (simp; omega)))))
    have dz := hbd.size
    (try simp at dz)
    obtain ⟨g2, cu3, rfl, _, l2, m2, _, u2⟩ := own_floats (ho2 hN) hN
    have d0 : wd.heap[g0]? = some (.cells cu0 23 (0, 0)) := blk_below hbd (by first | omega | (simp; done) | (simp; omega)) (by repeat (first | (with_reducible assumption) | (with_reducible refine blk_drewN _ _ _ ?_) | ((with_reducible refine blk_new _ _ _ ?_); focus (simp; done)) | ((with_reducible refine blk_old _ _ _ ?_ ?_); focus (simp; done)) | ((with_reducible refine blk_old _ _ _ ?_ ?_); focus (first | omega | (simp; omega))) | ((with_reducible apply blk_set); focus (simp; done)) | ((with_reducible refine blk_off _ _ _ _ ?_ ?_); focus (simp; done)) | ((with_reducible refine blk_offc _ _ _ _ ?_ ?_); focus (first | (simp; done) | omega | (simp; omega))) | ((with_reducible refine blk_off _ _ _ _ ?_ ?_); focus (first | omega | (simp; omega))) | (with_reducible refine blk_drew _ _ ?_) | ((with_reducible refine blk_below (by assumption) ?_ ?_); focus (simp; done)) | ((with_reducible refine blk_below (by assumption) ?_ ?_); focus (first | omega | (simp; omega)))))
    have e1 : wd.heap[g1]? = some (.cells cu2 23 (0, 0)) := blk_below hbd (by first | omega | (simp; done) | (simp; omega)) (by repeat (first | (with_reducible assumption) | (with_reducible refine blk_drewN _ _ _ ?_) | ((with_reducible refine blk_new _ _ _ ?_); focus (simp; done)) | ((with_reducible refine blk_old _ _ _ ?_ ?_); focus (simp; done)) | ((with_reducible refine blk_old _ _ _ ?_ ?_); focus (first | omega | (simp; omega))) | ((with_reducible apply blk_set); focus (simp; done)) | ((with_reducible refine blk_off _ _ _ _ ?_ ?_); focus (simp; done)) | ((with_reducible refine blk_offc _ _ _ _ ?_ ?_); focus (first | (simp; done) | omega | (simp; omega))) | ((with_reducible refine blk_off _ _ _ _ ?_ ?_); focus (first | omega | (simp; omega))) | (with_reducible refine blk_drew _ _ ?_) | ((with_reducible refine blk_below (by assumption) ?_ ?_); focus (simp; done)) | ((with_reducible refine blk_below (by assumption) ?_ ?_); focus (first | omega | (simp; omega)))))
    have U2 := Lib.hid u2
    clear u2
    clear ho2 hbd hb1 hc1 hf1
    go_wp2_with fail
    go_at_call 32
    refine (eqS_pos P N g2 k2 g0 k0 _ hN2 hP.out (fun j hj => (cell_of_row _ g2 j cu3 23 (0, 0) (by repeat (first | (with_reducible assumption) | (with_reducible refine blk_drewN _ _ _ ?_) | ((with_reducible refine blk_new _ _ _ ?_); focus (simp; done)) | ((with_reducible refine blk_old _ _ _ ?_ ?_); focus (simp; done)) | ((with_reducible refine blk_old _ _ _ ?_ ?_); focus (first | omega | (simp; omega))) | ((with_reducible apply blk_set); focus (simp; done)) | ((with_reducible refine blk_off _ _ _ _ ?_ ?_); focus (simp; done)) | ((with_reducible refine blk_offc _ _ _ _ ?_ ?_); focus (first | (simp; done) | omega | (simp; omega))) | ((with_reducible refine blk_off _ _ _ _ ?_ ?_); focus (first | omega | (simp; omega))) | (with_reducible refine blk_drew _ _ ?_) | ((with_reducible refine blk_below (by assumption) ?_ ?_); focus (simp; done)) | ((with_reducible refine blk_below (by assumption) ?_ ?_); focus (first | omega | (simp; omega)))))).trans (U2.out j hj)) (fun j hj => (cell_of_row _ g0 j cu0 23 (0, 0) (by repeat (first | (with_reducible assumption) | (with_reducible refine blk_drewN _ _ _ ?_) | ((with_reducible refine blk_new _ _ _ ?_); focus (simp; done)) | ((with_reducible refine blk_old _ _ _ ?_ ?_); focus (simp; done)) | ((with_reducible refine blk_old _ _ _ ?_ ?_); focus (first | omega | (simp; omega))) | ((with_reducible apply blk_set); focus (simp; done)) | ((with_reducible refine blk_off _ _ _ _ ?_ ?_); focus (simp; done)) | ((with_reducible refine blk_offc _ _ _ _ ?_ ?_); focus (first | (simp; done) | omega | (simp; omega))) | ((with_reducible refine blk_off _ _ _ _ ?_ ?_); focus (first | omega | (simp; omega))) | (with_reducible refine blk_drew _ _ ?_) | ((with_reducible refine blk_below (by assumption) ?_ ?_); focus (simp; done)) | ((with_reducible refine blk_below (by assumption) ?_ ?_); focus (first | omega | (simp; omega)))))).trans (U0.out j hj))).mono ?_
    rintro e w' ⟨rfl, m', rfl⟩
    go_wp2_with fail
    go_at_call 34
    refine (held_pos N g1 k1 _ hN2 (fun j hj => (cell_of_row _ g1 j cu2 23 (0, 0) (by repeat (first | (with_reducible assumption) | (with_reducible refine blk_drewN _ _ _ ?_) | ((with_reducible refine blk_new _ _ _ ?_); focus (simp; done)) | ((with_reducible refine blk_old _ _ _ ?_ ?_); focus (simp; done)) | ((with_reducible refine blk_old _ _ _ ?_ ?_); focus (first | omega | (simp; omega))) | ((with_reducible apply blk_set); focus (simp; done)) | ((with_reducible refine blk_off _ _ _ _ ?_ ?_); focus (simp; done)) | ((with_reducible refine blk_offc _ _ _ _ ?_ ?_); focus (first | (simp; done) | omega | (simp; omega))) | ((with_reducible refine blk_off _ _ _ _ ?_ ?_); focus (first | omega | (simp; omega))) | (with_reducible refine blk_drew _ _ ?_) | ((with_reducible refine blk_below (by assumption) ?_ ?_); focus (simp; done)) | ((with_reducible refine blk_below (by assumption) ?_ ?_); focus (first | omega | (simp; omega)))))).trans (Q2.out j hj))).mono ?_
    rintro e w' ⟨rfl, rfl⟩
    go_wp2
    go_ret
    exact ⟨by simp, (by repeat (first | (with_reducible assumption) | (with_reducible refine bel_drewN _ ?_) | (with_reducible exact Below.refl _ _) | ((with_reducible refine bel_alloc _ ?_ ?_); focus (first | omega | (simp; done) | (simp; omega))) | ((with_reducible refine bel_row _ ?_ ?_); focus (first | omega | (simp; done) | (simp; omega))) | ((with_reducible refine bel_cell _ ?_ ?_); focus (first | omega | (simp; done) | (simp; omega))) | (with_reducible refine Below.drew ?_) | (with_reducible refine below_wideW _ ?_) | ((with_reducible refine bel_next (by assumption) ?_ ?_); focus (first | omega | (simp; done) | (simp; omega)))))⟩
end Go.Proofs.Ytlohgpbhebmefaa
