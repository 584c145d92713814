/- Contracts of PrintedIn, and of the functions of the laws that compare, mark and hold lists of narrow numbers. -/
import Derived.Test.YtiddeijhjedbbaaTTurns
set_option linter.unusedVariables false
set_option linter.unusedSimpArgs false
namespace Go.Proofs.Ytiddeijhjedbbaa
open Go.RowKit Ieee

theorem ts_yes {r : Int} {s t : Nat} {F : Nat → Nat} {fed cover : Nat} {q : Int} (h : tsB r s t F fed cover q = true) : tsC r s t F fed cover q = 0 ∧ tsN r s t F fed cover q = q.toNat := by
  refine ⟨?_, by unfold tsN; rw [h]; rfl⟩
  unfold tsB at h
  simp only [Bool.and_eq_true] at h
  unfold tsC
  rw [h.1.1, h.1.2, h.2]; rfl
theorem ts_no {r : Int} {s t : Nat} {F : Nat → Nat} {fed cover : Nat} {q : Int} (h : tsB r s t F fed cover q = false) : ¬ tsC r s t F fed cover q = 0 ∧ tsN r s t F fed cover q = 0 := by
  refine ⟨?_, by unfold tsN; rw [h]; rfl⟩
  unfold tsB at h
  unfold tsC
  cases h1 : askB r s t F fed cover
  · exact ask_no h1
  · cases h2 : rangeT q
    · simp
    · rw [h1, h2] at h
      simp at h
      simp [h]
theorem ts_le {r : Int} {s t : Nat} {F : Nat → Nat} {fed cover : Nat} {q : Int} : tsN r s t F fed cover q ≤ 2000 := by
  unfold tsN
  split
  · rename_i h
    unfold tsB rangeT at h
    simp only [Bool.and_eq_true, decide_eq_true_eq] at h
    omega
  · omega
theorem ts_num {r : Int} {s t : Nat} {F : Nat → Nat} {fed cover : Nat} {q : Int} : ∀ j, j < tsN r s t F fed cover q → ¬ Flt.NaN single (prF r s t fed cover F j) := by
  intro j hj
  unfold tsN at hj
  split at hj
  · rename_i h
    unfold tsB at h
    simp only [Bool.and_eq_true] at h
    obtain ⟨ho, hf, hc, _⟩ := ask_yes h.1.1
    have hk := it_ok ho (all_le (n := j) (m := q.toNat) (by omega) h.2)
    exact fin_nan (turn_end hk hf hc).fp
  · omega

set_option maxRecDepth 100000 in
set_option maxHeartbeats 3200000 in
theorem specPrinted_any (r : Int) (s t : Nat) (F : Nat → Nat) (fed cover : Nat) (q : Int) (w : World) (lr : -128 ≤ r) (ur : r ≤ 127) (lq : -9223372036854775808 ≤ q) (uq : q ≤ 9223372036854775807) : Calls Try.prog 30 #[.agg (train r s t F), .float .f32 fed, .float .f32 cover, .int .i64 q] w fun e w' => ∃ v, e = .returned (.tuple #[v, .int .i64 (tsC r s t F fed cover q)]) ∧ Floats w' w.heap.size v (tsN r s t F fed cover q) (prF r s t fed cover F) ∧ Below w.heap.size w w' := by
  have hz : (#[Value.int IntKind.i8 0, Value.float FloatKind.f32 0, Value.float FloatKind.f32 0, Value.float FloatKind.f32 0, Value.float FloatKind.f32 0, Value.float FloatKind.f32 0, Value.float FloatKind.f32 0, Value.float FloatKind.f32 0, Value.float FloatKind.f32 0, Value.float FloatKind.f32 0, Value.float FloatKind.f32 0, Value.float FloatKind.f32 0, Value.float FloatKind.f32 0, Value.float FloatKind.f32 0, Value.float FloatKind.f32 0] : Array Value) = row [Value.int IntKind.i8 0, Value.float FloatKind.f32 0, Value.float FloatKind.f32 0] 12 (fun _ => 0) := rfl
  have hT := fun w => specTurns_any r s t F fed cover q w lr ur lq uq
  cases hb : tsB r s t F fed cover q
  · obtain ⟨hne, hN⟩ := ts_no hb
    rw [hb, hN] at hT
    rw [hN]
    obtain ⟨c, hcc⟩ : ∃ c, tsC r s t F fed cover q = c := ⟨_, rfl⟩
    rw [hcc] at hT hne ⊢
    have hnb : (c != 0) = true := by simp [hne]
    clear hcc hb hN
    go_enter Try.func30, Try.ntmps30
    go_wp2_with (first | (go_at_call 45; (with_reducible refine (hT _).mono ?_); rintro e w2 ⟨v, rfl, hF, hb2⟩; have hz2 := hb2.size; (try simp at hz2); obtain ⟨ao, cap, rfl, hown⟩ := hF; have HOW := Lib.hid hown; clear hown) | ((with_reducible refine at_load 28 ?_); refine wpList_load_part rfl 28 _ rfl _ 0 15 rfl _ _ _ _ (by repeat (first | (with_reducible assumption) | ((with_reducible refine blk_new _ _ _ ?_); focus (simp; done)) | ((with_reducible refine blk_old _ _ _ ?_ ?_); focus (simp; done)) | ((with_reducible refine blk_old _ _ _ ?_ ?_); focus (first | omega | (simp; omega))) | ((with_reducible apply blk_set); focus (simp; done)) | ((with_reducible refine blk_off _ _ _ _ ?_ ?_); focus (simp; done)) | ((with_reducible refine blk_offc _ _ _ _ ?_ ?_); focus (first | (simp; done) | omega | (simp; omega))) | ((with_reducible refine blk_off _ _ _ _ ?_ ?_); focus (first | omega | (simp; omega))) | (with_reducible refine blk_drew _ _ ?_) | ((with_reducible refine blk_below (by assumption) ?_ ?_); focus (simp; done)) | ((with_reducible refine blk_below (by assumption) ?_ ?_); focus (first | omega | (simp; omega))))) Try.underlying28 rfl (by kernel_rfl) (by simp [row_size]) _ (row_all [_, _, _] 12 _) ?_) | ((with_reducible refine at_store 28 ?_); refine wpList_store_part rfl 28 _ _ rfl _ 0 _ rfl rfl _ _ (by repeat (first | (with_reducible assumption) | ((with_reducible refine blk_new _ _ _ ?_); focus (simp; done)) | ((with_reducible refine blk_old _ _ _ ?_ ?_); focus (simp; done)) | ((with_reducible refine blk_old _ _ _ ?_ ?_); focus (first | omega | (simp; omega))) | ((with_reducible apply blk_set); focus (simp; done)) | ((with_reducible refine blk_off _ _ _ _ ?_ ?_); focus (simp; done)) | ((with_reducible refine blk_offc _ _ _ _ ?_ ?_); focus (first | (simp; done) | omega | (simp; omega))) | ((with_reducible refine blk_off _ _ _ _ ?_ ?_); focus (first | omega | (simp; omega))) | (with_reducible refine blk_drew _ _ ?_) | ((with_reducible refine blk_below (by assumption) ?_ ?_); focus (simp; done)) | ((with_reducible refine blk_below (by assumption) ?_ ?_); focus (first | omega | (simp; omega))))) (by rw [row_size]; kernel_rfl) (by simp [row_size]) (row_cells _ _ _ rfl) _ (row_over _ _ 12 _ _ (by simp)) ?_) | go_in)
    go_ret2
    exact ⟨_, rfl, floats_none, (by repeat (first | (with_reducible assumption) | (with_reducible exact Below.refl _ _) | ((with_reducible refine bel_alloc _ ?_ ?_); focus (first | omega | (simp; done) | (simp; omega))) | ((with_reducible refine bel_row _ ?_ ?_); focus (first | omega | (simp; done) | (simp; omega))) | ((with_reducible refine bel_cell _ ?_ ?_); focus (first | omega | (simp; done) | (simp; omega))) | (with_reducible refine Below.drew ?_) | (with_reducible refine below_wideW _ ?_) | ((with_reducible refine bel_next (by assumption) ?_ ?_); focus (first | omega | (simp; done) | (simp; omega)))))⟩
  · obtain ⟨hC, hN⟩ := ts_yes hb
    rw [hb, hC] at hT
    rw [hC]
    obtain ⟨G, hG⟩ : ∃ G, itF r s t fed cover F q.toNat = G := ⟨_, rfl⟩
    rw [hG] at hT
    obtain ⟨n, hn⟩ : ∃ n, tsN r s t F fed cover q = n := ⟨_, rfl⟩
    rw [hn] at hT ⊢
    clear hb hC hN hG hn
    go_enter Try.func30, Try.ntmps30
    go_wp2_with (first | (go_at_call 45; (with_reducible refine (hT _).mono ?_); rintro e w2 ⟨v, rfl, hF, hb2⟩; have hz2 := hb2.size; (try simp at hz2); obtain ⟨ao, cap, rfl, hown⟩ := hF; have HOW := Lib.hid hown; clear hown) | ((with_reducible refine at_load 28 ?_); refine wpList_load_part rfl 28 _ rfl _ 0 15 rfl _ _ _ _ (by repeat (first | (with_reducible assumption) | ((with_reducible refine blk_new _ _ _ ?_); focus (simp; done)) | ((with_reducible refine blk_old _ _ _ ?_ ?_); focus (simp; done)) | ((with_reducible refine blk_old _ _ _ ?_ ?_); focus (first | omega | (simp; omega))) | ((with_reducible apply blk_set); focus (simp; done)) | ((with_reducible refine blk_off _ _ _ _ ?_ ?_); focus (simp; done)) | ((with_reducible refine blk_offc _ _ _ _ ?_ ?_); focus (first | (simp; done) | omega | (simp; omega))) | ((with_reducible refine blk_off _ _ _ _ ?_ ?_); focus (first | omega | (simp; omega))) | (with_reducible refine blk_drew _ _ ?_) | ((with_reducible refine blk_below (by assumption) ?_ ?_); focus (simp; done)) | ((with_reducible refine blk_below (by assumption) ?_ ?_); focus (first | omega | (simp; omega))))) Try.underlying28 rfl (by kernel_rfl) (by simp [row_size]) _ (row_all [_, _, _] 12 _) ?_) | ((with_reducible refine at_store 28 ?_); refine wpList_store_part rfl 28 _ _ rfl _ 0 _ rfl rfl _ _ (by repeat (first | (with_reducible assumption) | ((with_reducible refine blk_new _ _ _ ?_); focus (simp; done)) | ((with_reducible refine blk_old _ _ _ ?_ ?_); focus (simp; done)) | ((with_reducible refine blk_old _ _ _ ?_ ?_); focus (first | omega | (simp; omega))) | ((with_reducible apply blk_set); focus (simp; done)) | ((with_reducible refine blk_off _ _ _ _ ?_ ?_); focus (simp; done)) | ((with_reducible refine blk_offc _ _ _ _ ?_ ?_); focus (first | (simp; done) | omega | (simp; omega))) | ((with_reducible refine blk_off _ _ _ _ ?_ ?_); focus (first | omega | (simp; omega))) | (with_reducible refine blk_drew _ _ ?_) | ((with_reducible refine blk_below (by assumption) ?_ ?_); focus (simp; done)) | ((with_reducible refine blk_below (by assumption) ?_ ?_); focus (first | omega | (simp; omega))))) (by rw [row_size]; kernel_rfl) (by simp [row_size]) (row_cells _ _ _ rfl) _ (row_over _ _ 12 _ _ (by simp)) ?_) | go_in)
    go_ret2
    exact ⟨_, rfl, ⟨ao, cap, rfl, fun h => own_wide (own_carry (HOW.out h) (fun i hi1 hi2 => (by repeat (first | (with_reducible rfl) | ((with_reducible refine blk_new _ _ _ ?_); focus (simp; done)) | ((with_reducible refine blk_old _ _ _ ?_ ?_); focus (simp; done)) | ((with_reducible refine blk_old _ _ _ ?_ ?_); focus (first | omega | (simp; omega))) | ((with_reducible apply blk_set); focus (simp; done)) | ((with_reducible refine blk_off _ _ _ _ ?_ ?_); focus (simp; done)) | ((with_reducible refine blk_offc _ _ _ _ ?_ ?_); focus (first | (simp; done) | omega | (simp; omega))) | ((with_reducible refine blk_off _ _ _ _ ?_ ?_); focus (first | omega | (simp; omega))) | (with_reducible refine blk_drew _ _ ?_) | ((with_reducible refine blk_below (by assumption) ?_ ?_); focus (simp; done)) | ((with_reducible refine blk_below (by assumption) ?_ ?_); focus (first | omega | (simp; omega))))))) (by first | (simp; done) | omega | (simp; omega))⟩, (by repeat (first | (with_reducible assumption) | (with_reducible exact Below.refl _ _) | ((with_reducible refine bel_alloc _ ?_ ?_); focus (first | omega | (simp; done) | (simp; omega))) | ((with_reducible refine bel_row _ ?_ ?_); focus (first | omega | (simp; done) | (simp; omega))) | ((with_reducible refine bel_cell _ ?_ ?_); focus (first | omega | (simp; done) | (simp; omega))) | (with_reducible refine Below.drew ?_) | (with_reducible refine below_wideW _ ?_) | ((with_reducible refine bel_next (by assumption) ?_ ?_); focus (first | omega | (simp; done) | (simp; omega)))))⟩

theorem cvt_num (n : Int) : ¬ Flt.NaN single (floatOfInt .f32 n) := by
  show ¬ Flt.NaN single (single.write (.number (decide (n < 0)) n.natAbs 0))
  exact write_num single rfl
theorem own_floats {w : World} {base n c : Nat} {ao : Option Addr} {e : TypeId} {G : Nat → Nat} (h : w.ownsRow base e 1 (.slice ao n c) n (floatsV G n)) (hn : 0 < n) : ∃ g cur, ao = some ⟨g, 0, none⟩ ∧ base ≤ g ∧ g < w.heap.size ∧ w.heap[g]? = some (.cells cur e (0, 0)) ∧ n ≤ cur.size ∧ ∀ j, j < n → cur[j]? = some (.float .f32 (G j)) := by
  have hlt := h.lt
  rcases h.2 with ⟨_, h3⟩ | ⟨g', cap, cur, hv, hb, hh, h1, h2, h3, ht⟩
  · omega
  · simp only [Value.slice.injEq] at hv
    obtain ⟨rfl, _, rfl⟩ := hv
    refine ⟨g', cur, rfl, hb, (hlt g' rfl).2, hh, by omega, fun j hj => ?_⟩
    have h4 : (cur.toList.take (n * 1))[j]? = (floatsV G n)[j]? := by rw [ht]
    rw [floatsV_at hj, List.getElem?_take, if_pos (by omega)] at h4
    simpa using h4

end Go.Proofs.Ytiddeijhjedbbaa
