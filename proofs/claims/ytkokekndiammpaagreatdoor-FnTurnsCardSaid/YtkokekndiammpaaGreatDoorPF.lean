/- Parts of a proof, merged; each under its own premises. -/
import Derived.Test.YtkokekndiammpaaGreatDoorPE
import Derived.Test.YtkokekndiammpaaGreatDoorPB
import Derived.Test.YtkokekndiammpaaGreatDoorPC
import Derived.Laws.BitsAllLaws
import Derived.Test.YtkokekndiammpaaGreatDoorPD
import Derived.Test.YtkokekndiammpaaGreatDoorRows
import Derived.ProofKit
import Derived.WalkLawsBesides
import Derived.Deep.QuietTactic
import Derived.BigQuiet
import Derived.StillTailTactics
import Derived.Laws.CopyOwn

/-! The contract of the program's TurnTimes, and the law on it. -/
set_option linter.unusedVariables false
set_option linter.unusedSimpArgs false
namespace Go.Proofs.YtkokekndiammpaaGreatDoor
open Go.RowKit Ieee

set_option maxRecDepth 100000 in
set_option maxHeartbeats 6400000 in
theorem implTimes_any (r : Int) (s t : Nat) (F : Nat → Nat) (fed cover : Nat) (q : Int) (w : World) (lr : -128 ≤ r) (ur : r ≤ 127) (lq : -9223372036854775808 ≤ q) (uq : q ≤ 9223372036854775807) : Calls Tryz.prog 11 #[.agg (train r s t F), .float .f32 fed, .float .f32 cover, .int .i64 q] w fun e w' => e = .returned (.tuple #[.agg (if tsB r s t F fed cover q then train r s t (itF r s t fed cover F q.toNat) else train 0 0 0 (fun _ => 0)), .agg #[.float .f32 (sumTo (fun _ => fed) (tsN r s t F fed cover q)), .float .f32 (sumTo (prF r s t fed cover F) (tsN r s t F fed cover q)), .float .f32 (keptT r s t F fed cover q)], .int .i64 (tsC r s t F fed cover q)]) ∧ Below w.heap.size w w' := by
  have hz : (#[Value.int IntKind.i8 0, Value.float FloatKind.f32 0, Value.float FloatKind.f32 0, Value.float FloatKind.f32 0, Value.float FloatKind.f32 0, Value.float FloatKind.f32 0, Value.float FloatKind.f32 0, Value.float FloatKind.f32 0, Value.float FloatKind.f32 0, Value.float FloatKind.f32 0, Value.float FloatKind.f32 0, Value.float FloatKind.f32 0, Value.float FloatKind.f32 0, Value.float FloatKind.f32 0, Value.float FloatKind.f32 0] : Array Value) = row [Value.int IntKind.i8 0, Value.float FloatKind.f32 0, Value.float FloatKind.f32 0] 12 (fun _ => 0) := rfl
  have hT := fun w => implTurns_any r s t F fed cover q w lr ur lq uq
  have hle : tsN r s t F fed cover q ≤ 2000 := ts_le
  unfold keptT
  cases hb : tsB r s t F fed cover q
  · obtain ⟨hne, hN⟩ := ts_no hb
    rw [hb, hN] at hT
    rw [hN]
    obtain ⟨c, hcc⟩ : ∃ c, tsC r s t F fed cover q = c := ⟨_, rfl⟩
    rw [hcc] at hT hne ⊢
    have hnb : (c != 0) = true := by simp [hne]
    clear hcc hb hN hle
    go_enter Tryz.func11, Tryz.ntmps11
    go_wp2_with (first | (go_at_call 35; (with_reducible refine (hT _).mono ?_); rintro e w2 ⟨v, rfl, hF, hb2⟩; have hz2 := hb2.size; (try simp at hz2); obtain ⟨ao, cap, rfl, hown⟩ := hF; have HOW := Lib.hid hown; clear hown) | (go_at_call 38; (with_reducible refine (specInk_any r s t G _ lr ur hok _ ?_).mono ?_); (focus (repeat (first | (with_reducible assumption) | ((with_reducible refine blk_new _ _ _ ?_); focus (simp; done)) | ((with_reducible refine blk_old _ _ _ ?_ ?_); focus (simp; done)) | ((with_reducible refine blk_old _ _ _ ?_ ?_); focus (first | omega | (simp; omega))) | ((with_reducible apply blk_set); focus (simp; done)) | ((with_reducible refine blk_off _ _ _ _ ?_ ?_); focus (simp; done)) | ((with_reducible refine blk_offc _ _ _ _ ?_ ?_); focus (first | (simp; done) | omega | (simp; omega))) | ((with_reducible refine blk_off _ _ _ _ ?_ ?_); focus (first | omega | (simp; omega))) | (with_reducible refine blk_drew _ _ ?_) | ((with_reducible refine blk_below (by assumption) ?_ ?_); focus (simp; done)) | ((with_reducible refine blk_below (by assumption) ?_ ?_); focus (first | omega | (simp; omega)))))); rintro e w' ⟨rfl, rfl⟩) | ((with_reducible refine at_load 28 ?_); refine wpList_load_part rfl 28 _ rfl _ 0 15 rfl _ _ _ _ (by repeat (first | (with_reducible assumption) | ((with_reducible refine blk_new _ _ _ ?_); focus (simp; done)) | ((with_reducible refine blk_old _ _ _ ?_ ?_); focus (simp; done)) | ((with_reducible refine blk_old _ _ _ ?_ ?_); focus (first | omega | (simp; omega))) | ((with_reducible apply blk_set); focus (simp; done)) | ((with_reducible refine blk_off _ _ _ _ ?_ ?_); focus (simp; done)) | ((with_reducible refine blk_offc _ _ _ _ ?_ ?_); focus (first | (simp; done) | omega | (simp; omega))) | ((with_reducible refine blk_off _ _ _ _ ?_ ?_); focus (first | omega | (simp; omega))) | (with_reducible refine blk_drew _ _ ?_) | ((with_reducible refine blk_below (by assumption) ?_ ?_); focus (simp; done)) | ((with_reducible refine blk_below (by assumption) ?_ ?_); focus (first | omega | (simp; omega))))) Tryz.underlying28 rfl (by kernel_rfl) (by simp [row_size]) _ (row_all [_, _, _] 12 _) ?_) | ((with_reducible refine at_store 28 ?_); refine wpList_store_part rfl 28 _ _ rfl _ 0 _ rfl rfl _ _ (by repeat (first | (with_reducible assumption) | ((with_reducible refine blk_new _ _ _ ?_); focus (simp; done)) | ((with_reducible refine blk_old _ _ _ ?_ ?_); focus (simp; done)) | ((with_reducible refine blk_old _ _ _ ?_ ?_); focus (first | omega | (simp; omega))) | ((with_reducible apply blk_set); focus (simp; done)) | ((with_reducible refine blk_off _ _ _ _ ?_ ?_); focus (simp; done)) | ((with_reducible refine blk_offc _ _ _ _ ?_ ?_); focus (first | (simp; done) | omega | (simp; omega))) | ((with_reducible refine blk_off _ _ _ _ ?_ ?_); focus (first | omega | (simp; omega))) | (with_reducible refine blk_drew _ _ ?_) | ((with_reducible refine blk_below (by assumption) ?_ ?_); focus (simp; done)) | ((with_reducible refine blk_below (by assumption) ?_ ?_); focus (first | omega | (simp; omega))))) (by rw [row_size]; kernel_rfl) (by simp [row_size]) (row_cells _ _ _ rfl) _ (row_over _ _ 12 _ _ (by simp)) ?_) | ((with_reducible refine at_load 36 ?_); refine wpList_load_part rfl 36 _ rfl _ 0 3 rfl _ _ _ _ (by repeat (first | (with_reducible assumption) | ((with_reducible refine blk_new _ _ _ ?_); focus (simp; done)) | ((with_reducible refine blk_old _ _ _ ?_ ?_); focus (simp; done)) | ((with_reducible refine blk_old _ _ _ ?_ ?_); focus (first | omega | (simp; omega))) | ((with_reducible apply blk_set); focus (simp; done)) | ((with_reducible refine blk_off _ _ _ _ ?_ ?_); focus (simp; done)) | ((with_reducible refine blk_offc _ _ _ _ ?_ ?_); focus (first | (simp; done) | omega | (simp; omega))) | ((with_reducible refine blk_off _ _ _ _ ?_ ?_); focus (first | omega | (simp; omega))) | (with_reducible refine blk_drew _ _ ?_) | ((with_reducible refine blk_below (by assumption) ?_ ?_); focus (simp; done)) | ((with_reducible refine blk_below (by assumption) ?_ ?_); focus (first | omega | (simp; omega))))) Tryz.underlying36 rfl (by kernel_rfl) (by simp) _ (three_all _ _ _) ?_) | ((with_reducible refine at_store 36 ?_); refine wpList_store_part rfl 36 _ _ rfl _ 0 _ rfl rfl _ _ (by repeat (first | (with_reducible assumption) | ((with_reducible refine blk_new _ _ _ ?_); focus (simp; done)) | ((with_reducible refine blk_old _ _ _ ?_ ?_); focus (simp; done)) | ((with_reducible refine blk_old _ _ _ ?_ ?_); focus (first | omega | (simp; omega))) | ((with_reducible apply blk_set); focus (simp; done)) | ((with_reducible refine blk_off _ _ _ _ ?_ ?_); focus (simp; done)) | ((with_reducible refine blk_offc _ _ _ _ ?_ ?_); focus (first | (simp; done) | omega | (simp; omega))) | ((with_reducible refine blk_off _ _ _ _ ?_ ?_); focus (first | omega | (simp; omega))) | (with_reducible refine blk_drew _ _ ?_) | ((with_reducible refine blk_below (by assumption) ?_ ?_); focus (simp; done)) | ((with_reducible refine blk_below (by assumption) ?_ ?_); focus (first | omega | (simp; omega))))) (by kernel_rfl) (by simp) (by kernel_rfl) _ (three_over _ _ _ _ _ _) ?_) | go_in)
    exact bodyPost_ret (results_rows Tryz.results11 _ _ _ 28 (train 0 0 0 (fun _ => 0)) (0, 0) _ _ 36 #[.float .f32 0, .float .f32 0, .float .f32 0] (0, 0) _ (.int .i64 c) rfl rfl rfl (by repeat (first | (with_reducible assumption) | ((with_reducible refine blk_new _ _ _ ?_); focus (simp; done)) | ((with_reducible refine blk_old _ _ _ ?_ ?_); focus (simp; done)) | ((with_reducible refine blk_old _ _ _ ?_ ?_); focus (first | omega | (simp; omega))) | ((with_reducible apply blk_set); focus (simp; done)) | ((with_reducible refine blk_off _ _ _ _ ?_ ?_); focus (simp; done)) | ((with_reducible refine blk_offc _ _ _ _ ?_ ?_); focus (first | (simp; done) | omega | (simp; omega))) | ((with_reducible refine blk_off _ _ _ _ ?_ ?_); focus (first | omega | (simp; omega))) | (with_reducible refine blk_drew _ _ ?_) | ((with_reducible refine blk_below (by assumption) ?_ ?_); focus (simp; done)) | ((with_reducible refine blk_below (by assumption) ?_ ?_); focus (first | omega | (simp; omega))))) (by repeat (first | (with_reducible assumption) | ((with_reducible refine blk_new _ _ _ ?_); focus (simp; done)) | ((with_reducible refine blk_old _ _ _ ?_ ?_); focus (simp; done)) | ((with_reducible refine blk_old _ _ _ ?_ ?_); focus (first | omega | (simp; omega))) | ((with_reducible apply blk_set); focus (simp; done)) | ((with_reducible refine blk_off _ _ _ _ ?_ ?_); focus (simp; done)) | ((with_reducible refine blk_offc _ _ _ _ ?_ ?_); focus (first | (simp; done) | omega | (simp; omega))) | ((with_reducible refine blk_off _ _ _ _ ?_ ?_); focus (first | omega | (simp; omega))) | (with_reducible refine blk_drew _ _ ?_) | ((with_reducible refine blk_below (by assumption) ?_ ?_); focus (simp; done)) | ((with_reducible refine blk_below (by assumption) ?_ ?_); focus (first | omega | (simp; omega))))) Tryz.underlying28 rfl (by simp only [row_size]; kernel_rfl) Tryz.underlying36 rfl (by kernel_rfl)) rfl (by exact ⟨rfl, (by repeat (first | (with_reducible assumption) | (with_reducible exact Below.refl _ _) | ((with_reducible refine bel_alloc _ ?_ ?_); focus (first | omega | (simp; done) | (simp; omega))) | ((with_reducible refine bel_row _ ?_ ?_); focus (first | omega | (simp; done) | (simp; omega))) | ((with_reducible refine bel_cell _ ?_ ?_); focus (first | omega | (simp; done) | (simp; omega))) | (with_reducible refine Below.drew ?_) | (with_reducible refine below_wideW _ ?_) | ((with_reducible refine bel_next (by assumption) ?_ ?_); focus (first | omega | (simp; done) | (simp; omega)))))⟩)
  · have hok := ts_ok hb
    have HP := Lib.hid (ts_lst (r := r) (s := s) (t := t) (F := F) (fed := fed) (cover := cover) (q := q))
    have HFD := Lib.hid (ts_fed (r := r) (s := s) (t := t) (F := F) (fed := fed) (cover := cover) (q := q))
    obtain ⟨hC, hN⟩ := ts_yes hb
    rw [hb, hC] at hT
    rw [hC]
    obtain ⟨G, hG⟩ : ∃ G, itF r s t fed cover F q.toNat = G := ⟨_, rfl⟩
    rw [hG] at hT hok ⊢
    obtain ⟨n, hn⟩ : ∃ n, tsN r s t F fed cover q = n := ⟨_, rfl⟩
    rw [hn] at hT HP HFD hle ⊢
    obtain ⟨P, hP⟩ : ∃ P, prF r s t fed cover F = P := ⟨_, rfl⟩
    rw [hP] at hT HP ⊢
    clear hb hC hN hG hn hP
    show Calls _ _ _ _ fun e w' => e = .returned (.tuple #[.agg (train r s t G), .agg #[.float .f32 (sumTo (fun _ => fed) n), .float .f32 (sumTo P n), .float .f32 (sumTo G r.toNat)], .int .i64 0]) ∧ Below w.heap.size w w'
    obtain ⟨K, hK0⟩ : ∃ K, sumTo G r.toNat = K := ⟨_, rfl⟩
    have hn0 : (0 : Int) ≤ n := by omega
    have hn2 : (n : Int) ≤ 2000 := by omega
    obtain ⟨h2, h12, _, _, hfl, _⟩ := trainB_facts hok
    have HF := Lib.hid (film_upto hfl h12)
    clear hfl
    have hsl : ∀ b w, (Instr.sliceAt 26 (.pointer (some ⟨b, 3, none⟩)) none (some (.int .i8 r)) none).run Tryz.prog w = .ok (.slice (some ⟨b, 3, none⟩) r.toNat 12) w := by
      intro b w
      have := run_sliceAt_h (P := Tryz.prog) w 26 25 12 b 3 Tryz.underlying26 (by kernel_rfl) .i8 r.toNat (by omega)
      rwa [show ((r.toNat : Nat) : Int) = r by omega] at this
    have HSL := Lib.hid hsl
    clear hsl hK0
    obtain ⟨i0, ih, iz0, iz1, iz2⟩ := info_parts Tryz.info_f32
    go_enter Tryz.func11, Tryz.ntmps11
    go_upto_region 4 with (first | (go_at_call 35; (with_reducible refine (hT _).mono ?_); rintro e w2 ⟨v, rfl, hF, hb2⟩; have hz2 := hb2.size; (try simp at hz2); obtain ⟨ao, cap, rfl, hown⟩ := hF; have HOW := Lib.hid hown; clear hown) | (go_at_call 38; (with_reducible refine (specInk_any r s t G _ lr ur hok _ ?_).mono ?_); (focus (repeat (first | (with_reducible assumption) | ((with_reducible refine blk_new _ _ _ ?_); focus (simp; done)) | ((with_reducible refine blk_old _ _ _ ?_ ?_); focus (simp; done)) | ((with_reducible refine blk_old _ _ _ ?_ ?_); focus (first | omega | (simp; omega))) | ((with_reducible apply blk_set); focus (simp; done)) | ((with_reducible refine blk_off _ _ _ _ ?_ ?_); focus (simp; done)) | ((with_reducible refine blk_offc _ _ _ _ ?_ ?_); focus (first | (simp; done) | omega | (simp; omega))) | ((with_reducible refine blk_off _ _ _ _ ?_ ?_); focus (first | omega | (simp; omega))) | (with_reducible refine blk_drew _ _ ?_) | ((with_reducible refine blk_below (by assumption) ?_ ?_); focus (simp; done)) | ((with_reducible refine blk_below (by assumption) ?_ ?_); focus (first | omega | (simp; omega)))))); rintro e w' ⟨rfl, rfl⟩) | ((with_reducible refine at_load 28 ?_); refine wpList_load_part rfl 28 _ rfl _ 0 15 rfl _ _ _ _ (by repeat (first | (with_reducible assumption) | ((with_reducible refine blk_new _ _ _ ?_); focus (simp; done)) | ((with_reducible refine blk_old _ _ _ ?_ ?_); focus (simp; done)) | ((with_reducible refine blk_old _ _ _ ?_ ?_); focus (first | omega | (simp; omega))) | ((with_reducible apply blk_set); focus (simp; done)) | ((with_reducible refine blk_off _ _ _ _ ?_ ?_); focus (simp; done)) | ((with_reducible refine blk_offc _ _ _ _ ?_ ?_); focus (first | (simp; done) | omega | (simp; omega))) | ((with_reducible refine blk_off _ _ _ _ ?_ ?_); focus (first | omega | (simp; omega))) | (with_reducible refine blk_drew _ _ ?_) | ((with_reducible refine blk_below (by assumption) ?_ ?_); focus (simp; done)) | ((with_reducible refine blk_below (by assumption) ?_ ?_); focus (first | omega | (simp; omega))))) Tryz.underlying28 rfl (by kernel_rfl) (by simp [row_size]) _ (row_all [_, _, _] 12 _) ?_) | ((with_reducible refine at_store 28 ?_); refine wpList_store_part rfl 28 _ _ rfl _ 0 _ rfl rfl _ _ (by repeat (first | (with_reducible assumption) | ((with_reducible refine blk_new _ _ _ ?_); focus (simp; done)) | ((with_reducible refine blk_old _ _ _ ?_ ?_); focus (simp; done)) | ((with_reducible refine blk_old _ _ _ ?_ ?_); focus (first | omega | (simp; omega))) | ((with_reducible apply blk_set); focus (simp; done)) | ((with_reducible refine blk_off _ _ _ _ ?_ ?_); focus (simp; done)) | ((with_reducible refine blk_offc _ _ _ _ ?_ ?_); focus (first | (simp; done) | omega | (simp; omega))) | ((with_reducible refine blk_off _ _ _ _ ?_ ?_); focus (first | omega | (simp; omega))) | (with_reducible refine blk_drew _ _ ?_) | ((with_reducible refine blk_below (by assumption) ?_ ?_); focus (simp; done)) | ((with_reducible refine blk_below (by assumption) ?_ ?_); focus (first | omega | (simp; omega))))) (by rw [row_size]; kernel_rfl) (by simp [row_size]) (row_cells _ _ _ rfl) _ (row_over _ _ 12 _ _ (by simp)) ?_) | ((with_reducible refine at_load 36 ?_); refine wpList_load_part rfl 36 _ rfl _ 0 3 rfl _ _ _ _ (by repeat (first | (with_reducible assumption) | ((with_reducible refine blk_new _ _ _ ?_); focus (simp; done)) | ((with_reducible refine blk_old _ _ _ ?_ ?_); focus (simp; done)) | ((with_reducible refine blk_old _ _ _ ?_ ?_); focus (first | omega | (simp; omega))) | ((with_reducible apply blk_set); focus (simp; done)) | ((with_reducible refine blk_off _ _ _ _ ?_ ?_); focus (simp; done)) | ((with_reducible refine blk_offc _ _ _ _ ?_ ?_); focus (first | (simp; done) | omega | (simp; omega))) | ((with_reducible refine blk_off _ _ _ _ ?_ ?_); focus (first | omega | (simp; omega))) | (with_reducible refine blk_drew _ _ ?_) | ((with_reducible refine blk_below (by assumption) ?_ ?_); focus (simp; done)) | ((with_reducible refine blk_below (by assumption) ?_ ?_); focus (first | omega | (simp; omega))))) Tryz.underlying36 rfl (by kernel_rfl) (by simp) _ (three_all _ _ _) ?_) | ((with_reducible refine at_store 36 ?_); refine wpList_store_part rfl 36 _ _ rfl _ 0 _ rfl rfl _ _ (by repeat (first | (with_reducible assumption) | ((with_reducible refine blk_new _ _ _ ?_); focus (simp; done)) | ((with_reducible refine blk_old _ _ _ ?_ ?_); focus (simp; done)) | ((with_reducible refine blk_old _ _ _ ?_ ?_); focus (first | omega | (simp; omega))) | ((with_reducible apply blk_set); focus (simp; done)) | ((with_reducible refine blk_off _ _ _ _ ?_ ?_); focus (simp; done)) | ((with_reducible refine blk_offc _ _ _ _ ?_ ?_); focus (first | (simp; done) | omega | (simp; omega))) | ((with_reducible refine blk_off _ _ _ _ ?_ ?_); focus (first | omega | (simp; omega))) | (with_reducible refine blk_drew _ _ ?_) | ((with_reducible refine blk_below (by assumption) ?_ ?_); focus (simp; done)) | ((with_reducible refine blk_below (by assumption) ?_ ?_); focus (first | omega | (simp; omega))))) (by kernel_rfl) (by simp) (by kernel_rfl) _ (three_over _ _ _ _ _ _) ?_) | go_in)
    refine wp_name (fun W => W.heap[w.heap.size + 1]? = some (.cells (train 0 0 0 (fun _ => 0)) 28 (0, 0)) ∧ W.heap[w.heap.size + 2]? = some (.cells #[.float .f32 0, .float .f32 0, .float .f32 0] 36 (0, 0)) ∧ W.heap[w2.heap.size]? = some (.cells (train r s t G) 28 (0, 0)) ∧ (∀ i, w.heap.size + 3 ≤ i → i < w2.heap.size → W.heap[i]? = w2.heap[i]?) ∧ Below w.heap.size w W ∧ w2.heap.size + 1 ≤ W.heap.size) ⟨(by repeat (first | (with_reducible assumption) | ((with_reducible refine blk_new _ _ _ ?_); focus (simp; done)) | ((with_reducible refine blk_old _ _ _ ?_ ?_); focus (simp; done)) | ((with_reducible refine blk_old _ _ _ ?_ ?_); focus (first | omega | (simp; omega))) | ((with_reducible apply blk_set); focus (simp; done)) | ((with_reducible refine blk_off _ _ _ _ ?_ ?_); focus (simp; done)) | ((with_reducible refine blk_offc _ _ _ _ ?_ ?_); focus (first | (simp; done) | omega | (simp; omega))) | ((with_reducible refine blk_off _ _ _ _ ?_ ?_); focus (first | omega | (simp; omega))) | (with_reducible refine blk_drew _ _ ?_) | ((with_reducible refine blk_below (by assumption) ?_ ?_); focus (simp; done)) | ((with_reducible refine blk_below (by assumption) ?_ ?_); focus (first | omega | (simp; omega))))), (by repeat (first | (with_reducible assumption) | ((with_reducible refine blk_new _ _ _ ?_); focus (simp; done)) | ((with_reducible refine blk_old _ _ _ ?_ ?_); focus (simp; done)) | ((with_reducible refine blk_old _ _ _ ?_ ?_); focus (first | omega | (simp; omega))) | ((with_reducible apply blk_set); focus (simp; done)) | ((with_reducible refine blk_off _ _ _ _ ?_ ?_); focus (simp; done)) | ((with_reducible refine blk_offc _ _ _ _ ?_ ?_); focus (first | (simp; done) | omega | (simp; omega))) | ((with_reducible refine blk_off _ _ _ _ ?_ ?_); focus (first | omega | (simp; omega))) | (with_reducible refine blk_drew _ _ ?_) | ((with_reducible refine blk_below (by assumption) ?_ ?_); focus (simp; done)) | ((with_reducible refine blk_below (by assumption) ?_ ?_); focus (first | omega | (simp; omega))))), (by repeat (first | (with_reducible assumption) | ((with_reducible refine blk_new _ _ _ ?_); focus (simp; done)) | ((with_reducible refine blk_old _ _ _ ?_ ?_); focus (simp; done)) | ((with_reducible refine blk_old _ _ _ ?_ ?_); focus (first | omega | (simp; omega))) | ((with_reducible apply blk_set); focus (simp; done)) | ((with_reducible refine blk_off _ _ _ _ ?_ ?_); focus (simp; done)) | ((with_reducible refine blk_offc _ _ _ _ ?_ ?_); focus (first | (simp; done) | omega | (simp; omega))) | ((with_reducible refine blk_off _ _ _ _ ?_ ?_); focus (first | omega | (simp; omega))) | (with_reducible refine blk_drew _ _ ?_) | ((with_reducible refine blk_below (by assumption) ?_ ?_); focus (simp; done)) | ((with_reducible refine blk_below (by assumption) ?_ ?_); focus (first | omega | (simp; omega))))), fun i hi1 hi2 => (by repeat (first | (with_reducible rfl) | ((with_reducible refine blk_new _ _ _ ?_); focus (simp; done)) | ((with_reducible refine blk_old _ _ _ ?_ ?_); focus (simp; done)) | ((with_reducible refine blk_old _ _ _ ?_ ?_); focus (first | omega | (simp; omega))) | ((with_reducible apply blk_set); focus (simp; done)) | ((with_reducible refine blk_off _ _ _ _ ?_ ?_); focus (simp; done)) | ((with_reducible refine blk_offc _ _ _ _ ?_ ?_); focus (first | (simp; done) | omega | (simp; omega))) | ((with_reducible refine blk_off _ _ _ _ ?_ ?_); focus (first | omega | (simp; omega))) | (with_reducible refine blk_drew _ _ ?_) | ((with_reducible refine blk_below (by assumption) ?_ ?_); focus (simp; done)) | ((with_reducible refine blk_below (by assumption) ?_ ?_); focus (first | omega | (simp; omega))))), (by repeat (first | (with_reducible assumption) | (with_reducible exact Below.refl _ _) | ((with_reducible refine bel_alloc _ ?_ ?_); focus (first | omega | (simp; done) | (simp; omega))) | ((with_reducible refine bel_row _ ?_ ?_); focus (first | omega | (simp; done) | (simp; omega))) | ((with_reducible refine bel_cell _ ?_ ?_); focus (first | omega | (simp; done) | (simp; omega))) | (with_reducible refine Below.drew ?_) | (with_reducible refine below_wideW _ ?_) | ((with_reducible refine bel_next (by assumption) ?_ ?_); focus (first | omega | (simp; done) | (simp; omega))))), by first | (simp; done) | omega | (simp; omega)⟩ (fun W ⟨b1, b2, b3, b5, b6, b7⟩ => ?_)
    have hz3 : w.heap.size + 3 ≤ w2.heap.size := by first | omega | (simp at hz2; omega)
    obtain ⟨bt, hbt⟩ : ∃ bt, w2.heap.size = bt := ⟨_, rfl⟩
    rw [hbt] at b3
    try rw [hbt]
    have B1 := Lib.hid b1
    have B2 := Lib.hid b2
    have B3 := Lib.hid b3
    have B5 := Lib.hid b5
    have B6 := Lib.hid b6
    clear b1 b2 b3 b5 b6 hb2
    go_wp2
    go_loopw [14, 32] (fun v i wr => ∃ k : Nat, k ≤ n ∧ i = .int .i64 k ∧ wr.ownsRow W.heap.size 25 1 v k (floatsV (fun _ => fed) k) ∧ Below W.heap.size W wr) (fun _ i _ => n - (intOf i).toNat)
    case atStart => exact ⟨0, by omega, rfl, own_new (by repeat (first | (with_reducible assumption) | ((with_reducible refine blk_new _ _ _ ?_); focus (simp; done)) | ((with_reducible refine blk_old _ _ _ ?_ ?_); focus (simp; done)) | ((with_reducible refine blk_old _ _ _ ?_ ?_); focus (first | omega | (simp; omega))) | ((with_reducible apply blk_set); focus (simp; done)) | ((with_reducible refine blk_off _ _ _ _ ?_ ?_); focus (simp; done)) | ((with_reducible refine blk_offc _ _ _ _ ?_ ?_); focus (first | (simp; done) | omega | (simp; omega))) | ((with_reducible refine blk_off _ _ _ _ ?_ ?_); focus (first | omega | (simp; omega))) | (with_reducible refine blk_drew _ _ ?_) | ((with_reducible refine blk_below (by assumption) ?_ ?_); focus (simp; done)) | ((with_reducible refine blk_below (by assumption) ?_ ?_); focus (first | omega | (simp; omega))))) (by first | omega | (simp; done) | (simp; omega)), (by repeat (first | (with_reducible assumption) | (with_reducible exact Below.refl _ _) | ((with_reducible refine bel_alloc _ ?_ ?_); focus (first | omega | (simp; done) | (simp; omega))) | ((with_reducible refine bel_row _ ?_ ?_); focus (first | omega | (simp; done) | (simp; omega))) | ((with_reducible refine bel_cell _ ?_ ?_); focus (first | omega | (simp; done) | (simp; omega))) | (with_reducible refine Below.drew ?_) | (with_reducible refine below_wideW _ ?_) | ((with_reducible refine bel_next (by assumption) ?_ ?_); focus (first | omega | (simp; done) | (simp; omega)))))⟩
    case round =>
      obtain ⟨k, hk, rfl, hown, h5⟩ := hrel
      by_cases hlt : k < n
      · have k0 : (0 : Int) ≤ k := by omega
        have kn : (k : Int) < n := by omega
        have hsz := h5.size
        go_wp2_with (first | (at_builtin; refine wpList_append_own _ rfl _ _ 39 rfl W.heap.size 25 i0 (.float .f32 0) 1 4 Tryz.underlying39 ih iz0 iz1 iz2 rfl (by decide) _ _ _ rfl (hown.alloc _) ⟨wr.heap.size, 0, none⟩ 1 1 [.float .f32 fed] rfl rfl ?c1 ?c2 ?c3 ?c4 ?c5 ?_) | go_in)
        case c1 =>
          intro j u hj
          match j, hj with
          | 0, hj => simp at hj; subst hj; simp [Addr.add]
        case c2 => intro u hu; simp at hu; subst hu; rfl
        case c3 => unfold maxLen; omega
        case c4 => omega
        case c5 => simp; omega
        intro v' w3 hown' hgrow _
        have n5 := own_below hown (by omega) (by omega) h5 hgrow
        have e1 : floatsV (fun _ => fed) k ++ [Value.float .f32 fed] = floatsV (fun _ => fed) (k + 1) := floatsV_snoc (fun _ => fed) k
        rw [e1] at hown'
        have N5 := Lib.hid n5
        have NO := Lib.hid hown'
        clear n5 hown' hown h5 hgrow e1
        go_wp2
        go_roundw
        case rel => exact ⟨k + 1, by omega, by go_num, NO.out, N5.out⟩
        case measure => simp [intOf]; omega
      · obtain rfl : k = n := by omega
        obtain ⟨ao', cap', rfl⟩ := own_form hown
        have hsz := h5.size
        have q1 : wr.heap[w.heap.size + 1]? = some (.cells (train 0 0 0 (fun _ => 0)) 28 (0, 0)) := blk_below h5 (by omega) B1.out
        have q2 : wr.heap[w.heap.size + 2]? = some (.cells #[.float .f32 0, .float .f32 0, .float .f32 0] 36 (0, 0)) := blk_below h5 (by omega) B2.out
        have q3 : wr.heap[bt]? = some (.cells (train r s t G) 28 (0, 0)) := blk_below h5 (by omega) B3.out
        have q5 : Below w.heap.size w wr := Below.trans B6.out (h5.mono (by have := B6.out.size; omega))
        have q6 : 0 < k → wr.ownsRow _ 25 1 (.slice ao k cap) k (floatsV P k) := fun h => own_carry (HOW.out h) (fun i hi1 hi2 => blk_below h5 (by omega) (B5.out i (by first | omega | (simp at hi1; omega)) hi2))
        have Q6 := Lib.hid q6
        have HOWN := Lib.hid hown
        clear h5 hown q6
        go_wp2
        refine wp_name (fun W3 => W3 = wr) rfl (fun W3 hW3 => ?_)
        subst hW3
        have hsA := sum_own (fun _ => fed) k cap' _ ao' W3.drew (by omega) HFD.out (fun _ => HOWN.out.drew)
        have hsB := sum_own P k cap _ ao W3.drew (by omega) HP.out (fun h => (Q6.out h).drew)
        have hsC := sum_lst G r.toNat bt 3 12 W3.drew (by omega) (fun i hi => lst_film (HF.out i hi)) (fun i hi => (cell_of_row _ bt (3 + i) _ _ _ (blk_drew _ _ q3)).trans (row_k3 _ _ _ _ _ (by omega)))
        refine wp_region_held_drew (S := fun w' => w'.heap[bt]? = some (.cells (train r s t G) 28 (0, 0))) (by kernel_rfl) q3 (fun hS => ?_)
        refine held_load 0 rfl rfl (by kernel_rfl) (by kernel_rfl) (by kernel_rfl) (fun _ _ _ _ h => h) 28 _ rfl bt 0 15 rfl _ _ _ _ (fun _ h => h) Tryz.underlying28 rfl (by kernel_rfl) (by simp [row_size]) _ (row_all [_, _, _] 12 _) hS ?_
        refine held_yield 1 rfl rfl (by kernel_rfl) (by kernel_rfl) (by kernel_rfl) (fun _ _ _ _ h => h) (.slice ao' k cap') (fun w' hw' => by (first | rfl | go_simp)) hS ?_
        refine held_yield 3 rfl rfl (by kernel_rfl) (by kernel_rfl) (by kernel_rfl) (fun _ _ _ _ h => h) (.slice ao k cap) (fun w' hw' => by (first | rfl | go_simp)) hS ?_
        refine held_yield 5 rfl rfl (by kernel_rfl) (by kernel_rfl) (by kernel_rfl) (fun _ _ _ _ h => h) (.pointer (some ⟨bt, 3, none⟩)) (fun w' hw' => by (first | rfl | go_simp)) hS ?_
        refine held_yield 6 rfl rfl (by kernel_rfl) (by kernel_rfl) (by kernel_rfl) (fun _ _ _ _ h => h) (.pointer (some ⟨bt, 0, none⟩)) (fun w' hw' => by (first | rfl | go_simp)) hS ?_
        refine held_yield 7 rfl rfl (by kernel_rfl) (by kernel_rfl) (by kernel_rfl) (fun _ _ _ _ h => h) (.int .i8 r) (fun w' hw' => by have c0 : w'.cell? ⟨bt, 0, none⟩ = some (.int .i8 r) := (cell_of_row w' bt 0 _ _ _ hw').trans (row_g0 _ _ _ _); go_simp) hS ?_
        refine held_yield 8 rfl rfl (by kernel_rfl) (by kernel_rfl) (by kernel_rfl) (fun _ _ _ _ h => h) (.slice (some ⟨bt, 3, none⟩) r.toNat 12) (fun w' hw' => by have hsl := HSL.out bt w'; go_simp) hS ?_
        refine held_call 2 (by kernel_rfl) rfl rfl 36 #[.slice ao' k cap'] (by go_simp) _ hsA hS ?_
        refine held_call 4 (by kernel_rfl) rfl rfl 36 #[.slice ao k cap] (by go_simp) _ hsB hS ?_
        refine held_call 9 (by kernel_rfl) rfl rfl 36 #[.slice (some ⟨bt, 3, none⟩) r.toNat 12] (by go_simp) _ hsC hS ?_
        refine held_yield 10 rfl rfl (by kernel_rfl) (by kernel_rfl) (by kernel_rfl) (fun _ _ _ _ h => h) (.agg #[.float .f32 (sumTo (fun _ => fed) k), .float .f32 (sumTo P k), .float .f32 (sumTo G r.toNat)]) (fun w' hw' => by (first | rfl | go_simp)) hS ?_
        refine held_store 11 (by kernel_rfl) rfl rfl 28 (.tmp 8) (.tmp 39) rfl (w.heap.size + 1) 0 (train r s t G) (by kernel_rfl) (by kernel_rfl) _ (train 0 0 0 (fun _ => 0)) (blk_drew _ _ q1) (by rw [row_size]; kernel_rfl) (by simp [row_size]) (row_cells _ _ _ rfl) _ (row_over _ _ 12 _ _ (by simp)) (by repeat (first | (with_reducible assumption) | ((with_reducible refine blk_new _ _ _ ?_); focus (simp; done)) | ((with_reducible refine blk_old _ _ _ ?_ ?_); focus (simp; done)) | ((with_reducible refine blk_old _ _ _ ?_ ?_); focus (first | omega | (simp; omega))) | ((with_reducible apply blk_set); focus (simp; done)) | ((with_reducible refine blk_off _ _ _ _ ?_ ?_); focus (simp; done)) | ((with_reducible refine blk_offc _ _ _ _ ?_ ?_); focus (first | (simp; done) | omega | (simp; omega))) | ((with_reducible refine blk_off _ _ _ _ ?_ ?_); focus (first | omega | (simp; omega))) | (with_reducible refine blk_drew _ _ ?_) | ((with_reducible refine blk_below (by assumption) ?_ ?_); focus (simp; done)) | ((with_reducible refine blk_below (by assumption) ?_ ?_); focus (first | omega | (simp; omega))))) ?_
        refine held_store 12 (by kernel_rfl) rfl rfl 36 (.tmp 9) (.tmp 49) rfl (w.heap.size + 2) 0 #[.float .f32 (sumTo (fun _ => fed) k), .float .f32 (sumTo P k), .float .f32 (sumTo G r.toNat)] (by kernel_rfl) (by kernel_rfl) _ #[.float .f32 0, .float .f32 0, .float .f32 0] (by repeat (first | (with_reducible assumption) | ((with_reducible refine blk_new _ _ _ ?_); focus (simp; done)) | ((with_reducible refine blk_old _ _ _ ?_ ?_); focus (simp; done)) | ((with_reducible refine blk_old _ _ _ ?_ ?_); focus (first | omega | (simp; omega))) | ((with_reducible apply blk_set); focus (simp; done)) | ((with_reducible refine blk_off _ _ _ _ ?_ ?_); focus (simp; done)) | ((with_reducible refine blk_offc _ _ _ _ ?_ ?_); focus (first | (simp; done) | omega | (simp; omega))) | ((with_reducible refine blk_off _ _ _ _ ?_ ?_); focus (first | omega | (simp; omega))) | (with_reducible refine blk_drew _ _ ?_) | ((with_reducible refine blk_below (by assumption) ?_ ?_); focus (simp; done)) | ((with_reducible refine blk_below (by assumption) ?_ ?_); focus (first | omega | (simp; omega))))) (by kernel_rfl) (by simp) (by kernel_rfl) _ (three_over _ _ _ _ _ _) (by repeat (first | (with_reducible assumption) | ((with_reducible refine blk_new _ _ _ ?_); focus (simp; done)) | ((with_reducible refine blk_old _ _ _ ?_ ?_); focus (simp; done)) | ((with_reducible refine blk_old _ _ _ ?_ ?_); focus (first | omega | (simp; omega))) | ((with_reducible apply blk_set); focus (simp; done)) | ((with_reducible refine blk_off _ _ _ _ ?_ ?_); focus (simp; done)) | ((with_reducible refine blk_offc _ _ _ _ ?_ ?_); focus (first | (simp; done) | omega | (simp; omega))) | ((with_reducible refine blk_off _ _ _ _ ?_ ?_); focus (first | omega | (simp; omega))) | (with_reducible refine blk_drew _ _ ?_) | ((with_reducible refine blk_below (by assumption) ?_ ?_); focus (simp; done)) | ((with_reducible refine blk_below (by assumption) ?_ ?_); focus (first | omega | (simp; omega))))) ?_
        refine held_yield 13 rfl rfl (by kernel_rfl) (by kernel_rfl) (by kernel_rfl) (fun _ _ _ _ h => h) (.int .i64 0) (fun _ _ => rfl) (by repeat (first | (with_reducible assumption) | ((with_reducible refine blk_new _ _ _ ?_); focus (simp; done)) | ((with_reducible refine blk_old _ _ _ ?_ ?_); focus (simp; done)) | ((with_reducible refine blk_old _ _ _ ?_ ?_); focus (first | omega | (simp; omega))) | ((with_reducible apply blk_set); focus (simp; done)) | ((with_reducible refine blk_off _ _ _ _ ?_ ?_); focus (simp; done)) | ((with_reducible refine blk_offc _ _ _ _ ?_ ?_); focus (first | (simp; done) | omega | (simp; omega))) | ((with_reducible refine blk_off _ _ _ _ ?_ ?_); focus (first | omega | (simp; omega))) | (with_reducible refine blk_drew _ _ ?_) | ((with_reducible refine blk_below (by assumption) ?_ ?_); focus (simp; done)) | ((with_reducible refine blk_below (by assumption) ?_ ?_); focus (first | omega | (simp; omega))))) ?_
        refine wpAnyH_done (by kernel_rfl) ?_ _
        go_wp2
        exact bodyPost_ret (results_rows Tryz.results11 _ _ (w.heap.size + 1) 28 (train r s t G) (0, 0) _ (w.heap.size + 2) 36 #[.float .f32 (sumTo (fun _ => fed) k), .float .f32 (sumTo P k), .float .f32 (sumTo G r.toNat)] (0, 0) _ (.int .i64 0) (by kernel_rfl) (by kernel_rfl) (by kernel_rfl) (by repeat (first | (with_reducible assumption) | ((with_reducible refine blk_new _ _ _ ?_); focus (simp; done)) | ((with_reducible refine blk_old _ _ _ ?_ ?_); focus (simp; done)) | ((with_reducible refine blk_old _ _ _ ?_ ?_); focus (first | omega | (simp; omega))) | ((with_reducible apply blk_set); focus (simp; done)) | ((with_reducible refine blk_off _ _ _ _ ?_ ?_); focus (simp; done)) | ((with_reducible refine blk_offc _ _ _ _ ?_ ?_); focus (first | (simp; done) | omega | (simp; omega))) | ((with_reducible refine blk_off _ _ _ _ ?_ ?_); focus (first | omega | (simp; omega))) | (with_reducible refine blk_drew _ _ ?_) | ((with_reducible refine blk_below (by assumption) ?_ ?_); focus (simp; done)) | ((with_reducible refine blk_below (by assumption) ?_ ?_); focus (first | omega | (simp; omega))))) (by repeat (first | (with_reducible assumption) | ((with_reducible refine blk_new _ _ _ ?_); focus (simp; done)) | ((with_reducible refine blk_old _ _ _ ?_ ?_); focus (simp; done)) | ((with_reducible refine blk_old _ _ _ ?_ ?_); focus (first | omega | (simp; omega))) | ((with_reducible apply blk_set); focus (simp; done)) | ((with_reducible refine blk_off _ _ _ _ ?_ ?_); focus (simp; done)) | ((with_reducible refine blk_offc _ _ _ _ ?_ ?_); focus (first | (simp; done) | omega | (simp; omega))) | ((with_reducible refine blk_off _ _ _ _ ?_ ?_); focus (first | omega | (simp; omega))) | (with_reducible refine blk_drew _ _ ?_) | ((with_reducible refine blk_below (by assumption) ?_ ?_); focus (simp; done)) | ((with_reducible refine blk_below (by assumption) ?_ ?_); focus (first | omega | (simp; omega))))) Tryz.underlying28 rfl (by simp only [row_size]; kernel_rfl) Tryz.underlying36 rfl (by kernel_rfl)) rfl (by exact ⟨rfl, (by repeat (first | (with_reducible assumption) | (with_reducible exact Below.refl _ _) | ((with_reducible refine bel_alloc _ ?_ ?_); focus (first | omega | (simp; done) | (simp; omega))) | ((with_reducible refine bel_row _ ?_ ?_); focus (first | omega | (simp; done) | (simp; omega))) | ((with_reducible refine bel_cell _ ?_ ?_); focus (first | omega | (simp; done) | (simp; omega))) | (with_reducible refine Below.drew ?_) | (with_reducible refine below_wideW _ ?_) | ((with_reducible refine bel_next (by assumption) ?_ ?_); focus (first | omega | (simp; done) | (simp; omega)))))⟩)

end Go.Proofs.YtkokekndiammpaaGreatDoor

/-! Contracts of SameTrain, the reference's and the program's, and the law on it. -/
set_option linter.unusedVariables false
set_option linter.unusedSimpArgs false
namespace Go.Proofs.YtkokekndiammpaaGreatDoor
open Go.RowKit Ieee

def sameTo (F G : Nat → Nat) : Nat → Bool
  | 0 => true
  | k + 1 => sameTo F G k && sameN (F k) (G k)
theorem sameTo_no {F G : Nat → Nat} {k n : Nat} (hk : k < n) (h : sameN (F k) (G k) = false) : sameTo F G n = false := by
  induction n with
  | zero => omega
  | succ n ih =>
    by_cases e : k = n
    · subst e; simp [sameTo, h]
    · simp [sameTo, ih (by omega)]

theorem implSame_q {a b : Nat} {v : Bool} (h : sameN a b = v) (ha : a < 2 ^ 32) (hb : b < 2 ^ 32) (w : World) (n : Nat) : Calls Tryz.prog 39 #[.float .f32 a, .float .f32 b] (w.drewN n) fun e w' => e = .returned (.bool v) ∧ ∃ m, w' = w.drewN m := by
  subst h
  exact quiet_same (implSame_any a b _ ha hb)
theorem specSame_q {a b : Nat} {v : Bool} (h : sameN a b = v) (w : World) (n : Nat) : Calls Tryz.prog 44 #[.float .f32 a, .float .f32 b] (w.drewN n) fun e w' => e = .returned (.bool v) ∧ ∃ m, w' = w.drewN m := by
  subst h
  exact quiet_same (specSame_any a b _)

set_option maxHeartbeats 800000 in
theorem sameNumbers_any (F G : Nat → Nat) (n b o b' o' c c' : Nat) (w : World) (hn : n ≤ 64) (hF : ∀ i, i < n → F i < 2 ^ 32) (hG : ∀ i, i < n → G i < 2 ^ 32)
    (hc : ∀ i, i < n → w.cell? ⟨b, o + i, none⟩ = some (.float .f32 (F i))) (hc' : ∀ i, i < n → w.cell? ⟨b', o' + i, none⟩ = some (.float .f32 (G i))) :
    Calls Tryz.prog 40 #[.slice (some ⟨b, o, none⟩) n c, .slice (some ⟨b', o', none⟩) n c'] w fun e w' => e = .returned (.bool (sameTo F G n)) ∧ ∃ m, w' = w.drewN m := by
  have HC := Lib.hid hc
  have HC' := Lib.hid hc'
  have HF := Lib.hid hF
  have HG := Lib.hid hG
  clear hc hc' hF hG
  go_enter Tryz.func40, Tryz.ntmps40
  go_wp2
  go_loopw [8] (fun i wr => ∃ k m : Nat, k ≤ n ∧ i = .int .i64 k ∧ sameTo F G k = true ∧ wr = w.drewN m) (fun i _ => n - (intOf i).toNat)
  case atStart => exact ⟨0, 0, by omega, rfl, rfl, rfl⟩
  case round =>
    obtain ⟨k, m, hk, rfl, hs, hwr⟩ := hrel
    have HW := Lib.hid hwr
    have HS := Lib.hid hs
    clear hs
    by_cases hlt : k < n
    · have ca : wr.cell? ⟨b, o + k, none⟩ = some (.float .f32 (F k)) := by rw [hwr]; exact HC.out k hlt
      have cb : wr.cell? ⟨b', o' + k, none⟩ = some (.float .f32 (G k)) := by rw [hwr]; exact HC'.out k hlt
      clear hwr
      cases hk2 : sameN (F k) (G k)
      · go_wp2
        go_quiet ((go_at_call 39; exact implSame_q hk2 (HF.out k hlt) (HG.out k hlt) _ _))
        go_wp2
        go_ret
        exact ⟨by rw [sameTo_no hlt hk2]; rfl, _, by rw [HW.out, World.drewN_drewN]⟩
      · go_wp2
        go_quiet ((go_at_call 39; exact implSame_q hk2 (HF.out k hlt) (HG.out k hlt) _ _))
        go_wp2
        go_roundw
        case rel => exact ⟨k + 1, _, by omega, by go_num, by simp [sameTo, HS.out, hk2], by rw [HW.out, World.drewN_drewN]⟩
        case measure => simp [intOf]; omega
    · obtain rfl : k = n := by omega
      clear hwr
      go_wp2
      go_ret
      exact ⟨by rw [HS.out]; rfl, m, HW.out⟩

def sameT (r : Int) (s t : Nat) (F : Nat → Nat) (r' : Int) (s' t' : Nat) (F' : Nat → Nat) : Bool := (r == r') && (sameN s s' && (sameN t t' && sameTo F F' 12))

theorem sameNums_q {r : Int} {s t : Nat} {F : Nat → Nat} {r' : Int} {s' t' : Nat} {F' : Nat → Nat} {v : Bool} {W : World} {B B' : Nat} (h : sameTo F F' 12 = v) (hF : ∀ i, i < 12 → F i < 2 ^ 32) (hF' : ∀ i, i < 12 → F' i < 2 ^ 32)
    (hB : W.heap[B]? = some (.cells (train r s t F) 28 (0, 0))) (hB' : W.heap[B']? = some (.cells (train r' s' t' F') 28 (0, 0))) (c c' n : Nat) :
    Calls Tryz.prog 40 #[.slice (some ⟨B, 3, none⟩) 12 c, .slice (some ⟨B', 3, none⟩) 12 c'] (W.drewN n) fun e w'' => e = .returned (.bool v) ∧ ∃ m, w'' = W.drewN m := by
  subst h
  refine (sameNumbers_any F F' 12 B 3 B' 3 c c' (W.drewN n) (by omega) hF hF' (fun i hi => (cell_of_row (W.drewN n) _ (3 + i) _ _ _ hB).trans (row_k3 _ _ _ _ _ hi)) (fun i hi => (cell_of_row (W.drewN n) _ (3 + i) _ _ _ hB').trans (row_k3 _ _ _ _ _ hi))).mono ?_
  rintro e w' ⟨rfl, m, rfl⟩
  exact ⟨rfl, _, by rw [World.drewN_drewN]⟩

set_option maxHeartbeats 1600000 in
theorem implSameTr_any (r : Int) (s t : Nat) (F : Nat → Nat) (r' : Int) (s' t' : Nat) (F' : Nat → Nat) (w : World) (hs : s < 2 ^ 32) (ht : t < 2 ^ 32) (hF : ∀ i, i < 12 → F i < 2 ^ 32) (hs' : s' < 2 ^ 32) (ht' : t' < 2 ^ 32) (hF' : ∀ i, i < 12 → F' i < 2 ^ 32) :
    Calls Tryz.prog 16 #[.agg (train r s t F), .agg (train r' s' t' F')] w fun e w' => e = .returned (.bool (sameT r s t F r' s' t' F')) ∧ Below w.heap.size w w' := by
  have hB : ((w.alloc (.cells (train r s t F) 28)).alloc (.cells (train r' s' t' F') 28)).heap[w.heap.size]? = some (.cells (train r s t F) 28 (0, 0)) := (by repeat (first | (with_reducible assumption) | ((with_reducible refine blk_new _ _ _ ?_); focus (simp; done)) | ((with_reducible refine blk_old _ _ _ ?_ ?_); focus (simp; done)) | ((with_reducible refine blk_old _ _ _ ?_ ?_); focus (first | omega | (simp; omega))) | ((with_reducible apply blk_set); focus (simp; done)) | ((with_reducible refine blk_off _ _ _ _ ?_ ?_); focus (simp; done)) | ((with_reducible refine blk_off _ _ _ _ ?_ ?_); focus (first | omega | (simp; omega))) | (with_reducible refine blk_drew _ _ ?_) | ((with_reducible refine blk_below (by assumption) ?_ ?_); focus (simp; done)) | ((with_reducible refine blk_below (by assumption) ?_ ?_); focus (first | omega | (simp; omega)))))
  have hB' : ((w.alloc (.cells (train r s t F) 28)).alloc (.cells (train r' s' t' F') 28)).heap[w.heap.size + 1]? = some (.cells (train r' s' t' F') 28 (0, 0)) := (by repeat (first | (with_reducible assumption) | ((with_reducible refine blk_new _ _ _ ?_); focus (simp; done)) | ((with_reducible refine blk_old _ _ _ ?_ ?_); focus (simp; done)) | ((with_reducible refine blk_old _ _ _ ?_ ?_); focus (first | omega | (simp; omega))) | ((with_reducible apply blk_set); focus (simp; done)) | ((with_reducible refine blk_off _ _ _ _ ?_ ?_); focus (simp; done)) | ((with_reducible refine blk_off _ _ _ _ ?_ ?_); focus (first | omega | (simp; omega))) | (with_reducible refine blk_drew _ _ ?_) | ((with_reducible refine blk_below (by assumption) ?_ ?_); focus (simp; done)) | ((with_reducible refine blk_below (by assumption) ?_ ?_); focus (first | omega | (simp; omega)))))
  have hsl := fun b w => run_sliceAt_all (P := Tryz.prog) w 26 25 12 b 3 Tryz.underlying26 (by kernel_rfl)
  by_cases hr : r = r'
  · subst hr
    cases h1 : sameN s s'
    · go_enter Tryz.func16, Tryz.ntmps16
      go_wp2
      go_quiet ((go_at_call 39; with_reducible exact implSame_q h1 hs hs' _ _))
      go_wp2
      go_ret
      exact ⟨by unfold sameT; simp [h1], bel_drewN _ (by repeat (first | (with_reducible assumption) | (with_reducible exact Below.refl _ _) | ((with_reducible refine bel_alloc _ ?_ ?_); focus (first | omega | (simp; done) | (simp; omega))) | ((with_reducible refine bel_row _ ?_ ?_); focus (first | omega | (simp; done) | (simp; omega))) | ((with_reducible refine bel_cell _ ?_ ?_); focus (first | omega | (simp; done) | (simp; omega))) | (with_reducible refine Below.drew ?_) | (with_reducible refine below_wideW _ ?_) | ((with_reducible refine bel_next (by assumption) ?_ ?_); focus (first | omega | (simp; done) | (simp; omega)))))⟩
    · cases h2 : sameN t t'
      · go_enter Tryz.func16, Tryz.ntmps16
        go_wp2
        go_quiet (first | (go_at_call 39; with_reducible exact implSame_q h1 hs hs' _ _) | (go_at_call 39; with_reducible exact implSame_q h2 ht ht' _ _))
        go_wp2
        go_ret
        exact ⟨by unfold sameT; simp [h1, h2], bel_drewN _ (by repeat (first | (with_reducible assumption) | (with_reducible exact Below.refl _ _) | ((with_reducible refine bel_alloc _ ?_ ?_); focus (first | omega | (simp; done) | (simp; omega))) | ((with_reducible refine bel_row _ ?_ ?_); focus (first | omega | (simp; done) | (simp; omega))) | ((with_reducible refine bel_cell _ ?_ ?_); focus (first | omega | (simp; done) | (simp; omega))) | (with_reducible refine Below.drew ?_) | (with_reducible refine below_wideW _ ?_) | ((with_reducible refine bel_next (by assumption) ?_ ?_); focus (first | omega | (simp; done) | (simp; omega)))))⟩
      · cases h3 : sameTo F F' 12
        · go_enter Tryz.func16, Tryz.ntmps16
          go_wp2
          go_quiet (first | (go_at_call 39; with_reducible exact implSame_q h1 hs hs' _ _) | (go_at_call 39; with_reducible exact implSame_q h2 ht ht' _ _) | (go_at_call 40; with_reducible exact sameNums_q h3 hF hF' hB hB' _ _ _))
          go_wp2
          go_ret
          exact ⟨by unfold sameT; simp [h1, h2, h3], bel_drewN _ (by repeat (first | (with_reducible assumption) | (with_reducible exact Below.refl _ _) | ((with_reducible refine bel_alloc _ ?_ ?_); focus (first | omega | (simp; done) | (simp; omega))) | ((with_reducible refine bel_row _ ?_ ?_); focus (first | omega | (simp; done) | (simp; omega))) | ((with_reducible refine bel_cell _ ?_ ?_); focus (first | omega | (simp; done) | (simp; omega))) | (with_reducible refine Below.drew ?_) | (with_reducible refine below_wideW _ ?_) | ((with_reducible refine bel_next (by assumption) ?_ ?_); focus (first | omega | (simp; done) | (simp; omega)))))⟩
        · go_enter Tryz.func16, Tryz.ntmps16
          go_wp2
          go_quiet (first | (go_at_call 39; with_reducible exact implSame_q h1 hs hs' _ _) | (go_at_call 39; with_reducible exact implSame_q h2 ht ht' _ _) | (go_at_call 40; with_reducible exact sameNums_q h3 hF hF' hB hB' _ _ _))
          go_wp2
          go_ret
          exact ⟨by unfold sameT; simp [h1, h2, h3], bel_drewN _ (by repeat (first | (with_reducible assumption) | (with_reducible exact Below.refl _ _) | ((with_reducible refine bel_alloc _ ?_ ?_); focus (first | omega | (simp; done) | (simp; omega))) | ((with_reducible refine bel_row _ ?_ ?_); focus (first | omega | (simp; done) | (simp; omega))) | ((with_reducible refine bel_cell _ ?_ ?_); focus (first | omega | (simp; done) | (simp; omega))) | (with_reducible refine Below.drew ?_) | (with_reducible refine below_wideW _ ?_) | ((with_reducible refine bel_next (by assumption) ?_ ?_); focus (first | omega | (simp; done) | (simp; omega)))))⟩
  · have hrb : (r == r') = false := by simp [hr]
    go_enter Tryz.func16, Tryz.ntmps16
    go_wp2
    go_quiet (fail)
    go_wp2
    go_ret
    exact ⟨by unfold sameT; simp [hr], bel_drewN _ (by repeat (first | (with_reducible assumption) | (with_reducible exact Below.refl _ _) | ((with_reducible refine bel_alloc _ ?_ ?_); focus (first | omega | (simp; done) | (simp; omega))) | ((with_reducible refine bel_row _ ?_ ?_); focus (first | omega | (simp; done) | (simp; omega))) | ((with_reducible refine bel_cell _ ?_ ?_); focus (first | omega | (simp; done) | (simp; omega))) | (with_reducible refine Below.drew ?_) | (with_reducible refine below_wideW _ ?_) | ((with_reducible refine bel_next (by assumption) ?_ ?_); focus (first | omega | (simp; done) | (simp; omega)))))⟩
end Go.Proofs.YtkokekndiammpaaGreatDoor

/-! Contracts of DifferOf, the reference's and the program's, and the law on it. -/
set_option linter.unusedVariables false
set_option linter.unusedSimpArgs false
namespace Go.Proofs.YtkokekndiammpaaGreatDoor
open Go.RowKit Ieee

/-! ### sizes of numbers -/
def absN (a : Nat) : Nat := a % 2 ^ 31
theorem sw_single : single.signWeight = 2 ^ 31 := by decide
theorem absN_rung (a : Nat) : Flt.rung single (absN a) = Flt.rung single a := by
  unfold Flt.rung absN; rw [sw_single, Nat.mod_mod]
theorem absN_neg (a : Nat) : Flt.neg single (absN a) = false := by
  unfold Flt.neg absN; rw [sw_single]
  have : a % 2 ^ 31 / 2 ^ 31 = 0 := Nat.div_eq_of_lt (Nat.mod_lt _ (by decide))
  rw [this]; rfl
theorem absN_num {a : Nat} (h : ¬ Flt.NaN single a) : ¬ Flt.NaN single (absN a) := by unfold Flt.NaN at *; rwa [absN_rung]
theorem absN_Z (a : Nat) : Z32 (absN a) = (Flt.U single (Flt.rung single a) : Nat) := by
  unfold Z32 Flt.Z; rw [absN_neg, absN_rung]; rfl
theorem negF_abs {a : Nat} (ha : a < 2 ^ 32) (h : Flt.neg single a = true) : Op.negFloat .f32 a = absN a := by
  unfold Flt.neg at h; rw [sw_single] at h
  have h1 : a / 2 ^ 31 < 2 := Nat.div_lt_of_lt_mul (by omega)
  have h2 : a / 2 ^ 31 ≠ 0 := fun e => by rw [e] at h; simp at h
  have h3 : a = 2 ^ 31 + a % 2 ^ 31 := by omega
  show a ^^^ 2 ^ 31 = absN a
  unfold absN
  apply Nat.eq_of_testBit_eq
  intro i
  rw [Nat.testBit_xor, Nat.testBit_two_pow, Nat.testBit_mod_two_pow]
  rcases Nat.lt_trichotomy i 31 with h | h | h
  · have : ¬ 31 = i := by omega
    simp [h, this]
  · subst h
    have : a.testBit 31 = true := by
      rw [Nat.testBit_eq_decide_div_mod_eq]
      have : a / 2 ^ 31 = 1 := by omega
      rw [this]; rfl
    simp [this]
  · have h4 : ¬ 31 = i := by omega
    have h5 : ¬ i < 31 := by omega
    have h6 : a.testBit i = false := Nat.testBit_lt_two_pow (Nat.lt_of_lt_of_le ha (Nat.pow_le_pow_right (by omega) (by omega)))
    simp [h4, h5, h6]
/-- The size of a number as the reference has it. -/
def sizeS (a : Nat) : Nat := if FloatKind.f32.format.order a 0 == some .lt then absN a else a
theorem order_Z {a b : Nat} (ha : ¬ Flt.NaN single a) (hb : ¬ Flt.NaN single b) : FloatKind.f32.format.order a b = some (compare (Z32 a) (Z32 b)) := Flt.order_num single (by decide) ha hb
theorem neg_Z {a : Nat} (h : Z32 a < 0) : Flt.neg single a = true := by
  unfold Z32 Flt.Z Flt.sg at h
  split at h
  · assumption
  · omega
theorem abs_Z_pos {a : Nat} (h : 0 ≤ Z32 a) : Z32 (absN a) = Z32 a := by
  rw [absN_Z]
  unfold Z32 Flt.Z Flt.sg at *
  split at h
  · rename_i hn; rw [if_pos hn]; omega
  · rename_i hn; rw [if_neg hn]
theorem fsub_lt {a b : Nat} (ha : Fin32 a) (hb : Fin32 b) : fsub a b < 2 ^ 32 := by
  unfold fsub
  rw [Flt.sub_fin single ha hb]
  simp only [Option.getD_some]
  have := Flt.G_lt single (Flt.Z single a - Flt.Z single b).natAbs 0
  have hsw := sw_single
  unfold Ieee.Format.word
  split <;> omega
theorem specSize_q {v : Nat} (hv : ¬ Flt.NaN single v) (hl : v < 2 ^ 32) (w : World) (n : Nat) : Calls Tryz.prog 45 #[.float .f32 v] (w.drewN n) fun e w' => e = .returned (.float .f32 (sizeS v)) ∧ ∃ m, w' = w.drewN m := by
  refine quiet_same ?_
  unfold sizeS
  cases hc : (FloatKind.f32.format.order v 0 == some .lt)
  · go_enter Tryz.func45, Tryz.ntmps45
    go_wp2
    go_ret
    exact ⟨rfl, rfl⟩
  · have hz : Z32 v < 0 := by
      rw [order_Z hv (by decide)] at hc
      simp only [beq_iff_eq, Option.some.injEq] at hc
      have := Int.compare_eq_lt.1 hc
      rwa [show Z32 0 = 0 from Z_zero] at this
    have hneg := negF_abs hl (neg_Z hz)
    have hru : ∀ w, (Op.unary .neg (.float .f32 v)).run Tryz.prog w = .ok (.float .f32 (absN v)) w := fun w => by rw [← hneg]; rfl
    clear hz hneg hv hl
    go_enter Tryz.func45, Tryz.ntmps45
    go_wp2
    go_ret
    exact ⟨rfl, rfl⟩
end Go.Proofs.YtkokekndiammpaaGreatDoor

/-! Contracts of TurnsUntilSteady, and the law on it. -/
set_option linter.unusedVariables false
set_option linter.unusedSimpArgs false
namespace Go.Proofs.YtkokekndiammpaaGreatDoor
open Go.RowKit Ieee

def leF (a b : Nat) : Bool := FloatKind.f32.format.order a b == some .lt || FloatKind.f32.format.order a b == some .eq
end Go.Proofs.YtkokekndiammpaaGreatDoor

/-! The frame of a law's proof: arguments that were read before the call read so behind it, where below the old heap nothing has turned. -/
namespace Go.Proofs.YtkokekndiammpaaGreatDoor
open Go.ChangeShapes Go.WideShapes Go.ChangeAt Go.RowKit

theorem Tryz.own : ownKnob Tryz.prog.godebug = none := by kernel_rfl
theorem Tryz.laidOut : laidOutB Tryz.prog = true := by kernel_rfl

section
variable {H : Type} {enc : TypeId × Value → H} {P : Program}
theorem carry_all (hl : laidOutB P = true) {W W' : World} (hb : Below W.heap.size W W') : ∀ {ts : List TypeId} {vs : List Value} {ds : List (DataW H)} {ps : List MemPlace},
    (ts.all fun t => P.readableRec t && decide (t < P.types.size)) = true → DataW.TrodAll enc P W 0 (fun _ => true) true ts vs ds ps → (∀ x ∈ ps, x.block < W.heap.size) →
    DataW.TrodAll enc P W' 0 (fun b => decide (b < W.heap.size)) true ts vs ds ps
  | [], vs, ds, ps, _, h, _ => by
    obtain ⟨rfl, rfl, rfl⟩ := trodAll_nil h
    exact trodAll_mk0
  | t :: ts, vs, ds, ps, hr, h, hlt => by
    obtain ⟨v, vs', d, ds', p, q, rfl, rfl, rfl, h1, h2⟩ := trodAll_cons h
    simp only [List.all_cons, Bool.and_eq_true, decide_eq_true_eq] at hr
    exact ⟨p, q, Below.trod hl hr.1.1 hr.1.2 h1 hb (fun x hx => hlt x (by simp [hx])), carry_all hl hb hr.2 h2 (fun x hx => hlt x (by simp [hx])), rfl⟩

theorem law_post {f : Func} {s : ChangeSpec} {W W' : World} {args : Array Value} {ds gs : List (DataW H)} {before : List MemPlace} {tb : TypeId} (hl : laidOutB P = true)
    (hW : DataW.Whole enc P f.params.toList s.vars false W args.toList ds gs before) (hb : Below W.heap.size W W') (hrt : f.resultTypes = #[tb]) (htb : P.underlying tb = some .bool)
    (hvars : s.vars = []) (hs : s.fn H (ds ++ gs) = { results := [.lit (.bool true)], args := ds }) (hts : (f.params.toList.all fun t => P.readableRec t && decide (t < P.types.size)) = true) :
    s.post enc P f false true false false W args (.bool true) W' := by
  have hW' := hW
  obtain ⟨p, q, hA, hV, rfl, hfz, hnd⟩ := hW
  rw [hvars] at hV
  obtain ⟨rfl, rfl⟩ := trodVars_none hV
  refine ⟨ds, [], _, [], p, [], hW', ?_, ?_, ?_, hb.frame _, fun h => by cases h⟩
  · rw [hs, hrt]
    exact trodAll_mk1 (shut_bool htb true)
  · rw [hs]
    exact carry_all hl hb hts hA (fun x hx => hW'.lt x (by simp [hx]))
  · rw [hs, hvars]
    rfl

end
end Go.Proofs.YtkokekndiammpaaGreatDoor

/-! Contracts of a source of numbers: next, pick and one; each under its own premises. -/
set_option linter.unusedVariables false
set_option linter.unusedSimpArgs false
namespace Go.Proofs.YtkokekndiammpaaGreatDoor
open Go.RowKit Ieee

/-- A slice of bytes whose places lie below a block. -/
def BytesAt (w : World) (base : Nat) (ao : Option Addr) (n : Nat) : Prop := n ≤ maxLen ∧ (0 < n → ∃ a : Addr, ao = some a ∧ a.block < base ∧ ∀ i : Nat, i < n → ∃ x : Int, w.cell? (a.add i) = some (.int .u8 x) ∧ 0 ≤ x ∧ x < 256)
/-- A source with at most k numbers taken. -/
def Src (w : World) (b k : Nat) (ao : Option Addr) (n cap : Nat) : Prop := ∃ (p : Nat) (sd : Int), p ≤ k ∧ w.heap[b]? = some (.cells #[.slice ao n cap, .int .i64 p, .int .u64 sd] 81 (0, 0))
/-- Nothing but one block is another. -/
def Moved (b : Nat) (w w' : World) : Prop := Below b w w' ∧ (∀ i, i ≠ b → w'.heap[i]? = w.heap[i]?) ∧ w'.heap.size = w.heap.size

theorem mask_small (y : Nat) (h : y < 2 ^ 64) : Go.bits .and .u64 (y : Int) 255 = ((y % 256 : Nat) : Int) := by
  have := u64_and_nat y 255 (by omega) (by omega)
  rw [nat_mask8] at this
  exact this
theorem wrap_nat (x : Int) : ∃ y : Nat, IntKind.u64.wrap x = (y : Int) ∧ y < 2 ^ 64 := by
  have h1 : IntKind.u64.wrap x = x % 18446744073709551616 := rfl
  exact ⟨(IntKind.u64.wrap x).toNat, by rw [h1]; omega, by rw [h1]; omega⟩
theorem mask_any (z : Int) : ∃ x : Int, wrap64 (Go.bits .and .u64 (IntKind.u64.wrap z / 1099511627776) 255) = x ∧ 0 ≤ x ∧ x < 256 := by
  obtain ⟨y, hy, hl⟩ := wrap_nat z
  rw [hy, show (y : Int) / 1099511627776 = ((y / 1099511627776 : Nat) : Int) from by omega, mask_small _ (by omega)]
  refine ⟨((y / 1099511627776 % 256 : Nat) : Int), ?_, by omega, by omega⟩
  unfold wrap64
  omega
theorem src_two {b p k n cap : Nat} {ao : Option Addr} {sd : Int} {w : World} (hp : p ≤ k) (hB : w.heap[b]? = some (.cells #[.slice ao n cap, .int .i64 p, .int .u64 sd] 81 (0, 0))) (m1 m2 : Nat) (q : Int) (hq : q = (p : Int) + 1) (y : Int) :
    Src ((((w.drewN m1).setCell ⟨b, 1, none⟩ (.int .i64 q)).setCell ⟨b, 2, none⟩ (.int .u64 y)).drewN m2) b (k + 1) ao n cap ∧ Moved b w ((((w.drewN m1).setCell ⟨b, 1, none⟩ (.int .i64 q)).setCell ⟨b, 2, none⟩ (.int .u64 y)).drewN m2) := by
  subst hq
  have h0 : (w.drewN m1).heap[b]? = some (.cells #[.slice ao n cap, .int .i64 p, .int .u64 sd] 81 (0, 0)) := hB
  have h1 : ((w.drewN m1).setCell ⟨b, 1, none⟩ (.int .i64 (p + 1))).heap[b]? = some (.cells #[.slice ao n cap, .int .i64 (p + 1), .int .u64 sd] 81 (0, 0)) := by
    rw [heap_setCell_same _ b _ _ _ _ h0]; rfl
  have h2 : (((w.drewN m1).setCell ⟨b, 1, none⟩ (.int .i64 (p + 1))).setCell ⟨b, 2, none⟩ (.int .u64 y)).heap[b]? = some (.cells #[.slice ao n cap, .int .i64 (p + 1), .int .u64 y] 81 (0, 0)) := by
    rw [heap_setCell_same _ b _ _ _ _ h1]; rfl
  refine ⟨⟨p + 1, y, by omega, h2⟩, ?_, ?_, ?_⟩
  · exact bel_drewN _ (((bel_drewN m1 (Below.refl b w)).setCell (Nat.le_refl b) _).setCell (Nat.le_refl b) _)
  · intro i hi
    show (((w.drewN m1).setCell ⟨b, 1, none⟩ (.int .i64 (p + 1))).setCell ⟨b, 2, none⟩ (.int .u64 y)).heap[i]? = _
    rw [heap_setCell_other _ _ i _ hi, heap_setCell_other _ _ i _ hi]
    rfl
  · show (((w.drewN m1).setCell ⟨b, 1, none⟩ (.int .i64 (p + 1))).setCell ⟨b, 2, none⟩ (.int .u64 y)).heap.size = _
    simp
theorem next_any (b k : Nat) (ao : Option Addr) (n cap : Nat) (w : World) (hk : k < 4611686018427387904) (hs : Src w b k ao n cap) (hb : BytesAt w b ao n) :
    Calls Tryz.prog 71 #[.pointer (some ⟨b, 0, none⟩)] w fun e w' => ∃ x : Int, e = .returned (.int .i64 x) ∧ 0 ≤ x ∧ x < 256 ∧ Src w' b (k + 1) ao n cap ∧ Moved b w w' := by
  obtain ⟨p, sd, hp, hB⟩ := hs
  obtain ⟨hm, hy⟩ := hb
  have c0 : w.cell? ⟨b, 0, none⟩ = some (.slice ao n cap) := cell_of_row w b 0 _ _ _ hB
  have c1 : w.cell? ⟨b, 1, none⟩ = some (.int .i64 p) := cell_of_row w b 1 _ _ _ hB
  have c2 : w.cell? ⟨b, 2, none⟩ = some (.int .u64 sd) := cell_of_row w b 2 _ _ _ hB
  have f1 : w.frozen? ⟨b, 1, none⟩ = false := by simp [World.frozen?, hB]
  have f2 : w.frozen? ⟨b, 2, none⟩ = false := by simp [World.frozen?, hB]
  by_cases hlt : p < n
  · obtain ⟨a, rfl, hab, hx⟩ := hy (by omega)
    obtain ⟨x, hxc, hx0, hx9⟩ := hx p hlt
    go_enter Tryz.func71, Tryz.ntmps71
    go_wp2
    go_quiet (fail)
    go_wp2
    go_quiet (fail)
    go_wp2
    go_quiet (fail)
    go_wp2
    go_ret
    exact ⟨x, rfl, hx0, hx9, src_two hp hB _ _ _ rfl _⟩
  · go_enter Tryz.func71, Tryz.ntmps71
    go_wp2
    go_quiet (fail)
    go_wp2
    go_quiet (fail)
    go_wp2
    obtain ⟨x, hx, hx0, hx9⟩ := mask_any (IntKind.u64.wrap (IntKind.u64.wrap (sd * 6364136223846793005)) + 1442695040888963407)
    rw [hx]
    go_ret
    exact ⟨x, rfl, hx0, hx9, src_two hp hB _ _ _ rfl _⟩
theorem Src.le {w : World} {b k k' : Nat} {ao : Option Addr} {n cap : Nat} (h : Src w b k ao n cap) (hk : k ≤ k') : Src w b k' ao n cap := by
  obtain ⟨p, sd, h1, h2⟩ := h
  exact ⟨p, sd, by omega, h2⟩
theorem Moved.trans {b : Nat} {w w1 w2 : World} (h : Moved b w w1) (h2 : Moved b w1 w2) : Moved b w w2 :=
  ⟨h.1.trans h2.1, fun i hi => (h2.2.1 i hi).trans (h.2.1 i hi), h2.2.2.trans h.2.2⟩
theorem Moved.bytes {b base : Nat} {w w1 : World} {ao : Option Addr} {n : Nat} (h : Moved b w w1) (hb : BytesAt w base ao n) (hl : base ≤ b) : BytesAt w1 base ao n := by
  refine ⟨hb.1, fun hn => ?_⟩
  obtain ⟨a, ha, hlt, hx⟩ := hb.2 hn
  refine ⟨a, ha, hlt, fun i hi => ?_⟩
  obtain ⟨x, h1, h2⟩ := hx i hi
  refine ⟨x, ?_, h2⟩
  rw [h.1.cell (p := a.add i) (by rw [show (a.add i).block = a.block from by unfold Addr.add; split <;> rfl]; exact Nat.lt_of_lt_of_le hlt hl)]
  exact h1
theorem pick_any (b k : Nat) (ao : Option Addr) (n cap : Nat) (m : Int) (w : World) (h1 : 1 < m) (h9 : m < 1099511627776) (hk : k < 2305843009213693952) (hs : Src w b k ao n cap) (hb : BytesAt w b ao n) :
    Calls Tryz.prog 50 #[.pointer (some ⟨b, 0, none⟩), .int .i64 m] w fun e w' => ∃ x : Int, e = .returned (.int .i64 x) ∧ 0 ≤ x ∧ x < m ∧ Src w' b (k + 2) ao n cap ∧ Moved b w w' := by
  go_enter Tryz.func50, Tryz.ntmps50
  go_wp2_with (fail)
  refine (next_any b k ao n cap _ (by omega) hs hb).mono ?_
  rintro e w1 ⟨x, rfl, hx0, hx9, hs1, hm1⟩
  by_cases hc : 200 < m
  · go_wp2_with (fail)
    refine (next_any b (k + 1) ao n cap _ (by omega) hs1 (hm1.bytes hb (Nat.le_refl _))).mono ?_
    rintro e w2 ⟨y, rfl, hy0, hy9, hs2, hm2⟩
    go_wp2
    go_ret
    exact ⟨_, rfl, Int.emod_nonneg _ (by omega), Int.emod_lt_of_pos _ (by omega), hs2, hm1.trans hm2⟩
  · go_wp2
    go_ret
    exact ⟨_, rfl, Int.emod_nonneg _ (by omega), Int.emod_lt_of_pos _ (by omega), hs1.le (by omega), hm1⟩
theorem one_any (b k : Nat) (ao : Option Addr) (n cap : Nat) (m : Int) (w : World) (h1 : 1 < m) (h9 : m < 1099511627776) (hk : k < 2305843009213693952) (hs : Src w b k ao n cap) (hb : BytesAt w b ao n) :
    Calls Tryz.prog 51 #[.pointer (some ⟨b, 0, none⟩), .int .i64 m] w fun e w' => ∃ v : Bool, e = .returned (.bool v) ∧ Src w' b (k + 2) ao n cap ∧ Moved b w w' := by
  go_enter Tryz.func51, Tryz.ntmps51
  go_wp2_with (fail)
  refine (pick_any b k ao n cap m _ h1 h9 (by omega) hs hb).mono ?_
  rintro e w1 ⟨x, rfl, hx0, hx9, hs1, hm1⟩
  go_wp2
  go_ret
  exact ⟨_, rfl, hs1, hm1⟩
end Go.Proofs.YtkokekndiammpaaGreatDoor

/-! What is true of trains of small films, in plain arithmetic: no turn of the first two thousand makes a train that is not valid; what is steady, washed, thickest, falling, longer, mixed; each under its own premises. -/
set_option linter.unusedVariables false
set_option linter.unusedSimpArgs false
namespace Go.Proofs.YtkokekndiammpaaGreatDoor
open Go.RowKit Ieee

/-- A film of at most eight. -/
abbrev Small (a : Nat) : Prop := Up 1090519040 a
theorem Z_eight : Z32 1090519040 = 2 ^ 152 := by decide +kernel

/-! ### numbers on a grid -/
theorem grid (q e : Nat) (hq : q < 2 ^ 24) (he : e ≤ 200) : ∃ c, Fin32 c ∧ Z32 c = ((q * 2 ^ e : Nat) : Int) := by
  have hb : q < 2 * single.binade := hq
  have hlt : q * 2 ^ e < Flt.U single single.infRung := by
    rw [Flt.single_inf]
    have h1 : q * 2 ^ e ≤ q * 2 ^ 200 := Nat.mul_le_mul_left _ (Nat.pow_le_pow_right (by decide) he)
    have h2 : q * 2 ^ 200 < 2 ^ 24 * 2 ^ 200 := Nat.mul_lt_mul_of_pos_right hq (Nat.two_pow_pos 200)
    have h3 : 2 ^ (24 + 200) ≤ 2 ^ Flt.eS := Nat.pow_le_pow_right (by decide) (by rw [Flt.eS_eq]; omega)
    rw [Nat.pow_add] at h3
    omega
  have hU := Flt.G_short single (q := q) (e := e) hb (Nat.le_of_lt hlt)
  have hG : Flt.G single (q * 2 ^ e) 0 ≤ single.infRung := by unfold Flt.G; omega
  have hne : Flt.G single (q * 2 ^ e) 0 ≠ single.infRung := fun h => by rw [h] at hU; omega
  have hs := Flt.infRung_lt' single
  refine ⟨single.word false (Flt.G single (q * 2 ^ e) 0), ?_, ?_⟩
  · show Flt.rung single _ < _
    rw [Flt.rung_word single false (by omega)]; omega
  · show Flt.Z single _ = _
    rw [Flt.Z_word single false (by omega), hU]
    rfl

/-- The greatest number that a sum of films may reach. -/
def lid : Int := 2 ^ 166
def eps : Int := 2 ^ 143
theorem add_sum {a b : Nat} (ha : Fin32 a) (hb : Fin32 b) (a0 : 0 ≤ Z32 a) (b0 : 0 ≤ Z32 b) (hl : Z32 a + Z32 b < lid) : Fin32 (fadd a b) ∧ 0 ≤ Z32 (fadd a b) ∧ Z32 (fadd a b) ≤ Z32 a + Z32 b + eps := by
  obtain ⟨z, hz⟩ : ∃ z : Nat, (z : Int) = Z32 a + Z32 b := ⟨(Z32 a + Z32 b).toNat, by omega⟩
  have hz2 : z < 2 ^ 166 := by unfold lid at hl; omega
  obtain ⟨c, c1, c2⟩ := grid (z / 2 ^ 143 + 1) 143 (by omega) (by omega)
  have hc : Z32 a + Z32 b ≤ Z32 c := by rw [c2]; omega
  have h1 := fadd_le ha hb c1 hc
  have h2 := fadd_ge ha hb (c := 0) (by decide) (by rw [Z_zero]; omega)
  rw [Z_zero] at h2
  refine ⟨fin_of (num_fadd ha hb) (by omega) (by rw [c2] at h1; omega), h2, ?_⟩
  unfold eps
  rw [c2] at h1
  omega
theorem sub_sum {a b : Nat} (ha : Fin32 a) (hb : Fin32 b) (b0 : 0 ≤ Z32 b) (hab : Z32 b ≤ Z32 a) (hl : Z32 a < lid) : Fin32 (fsub a b) ∧ 0 ≤ Z32 (fsub a b) ∧ Z32 (fsub a b) ≤ Z32 a - Z32 b + eps ∧ Z32 (fsub a b) ≤ Z32 a := by
  obtain ⟨z, hz⟩ : ∃ z : Nat, (z : Int) = Z32 a - Z32 b := ⟨(Z32 a - Z32 b).toNat, by omega⟩
  have hz2 : z < 2 ^ 166 := by unfold lid at hl; omega
  obtain ⟨c, c1, c2⟩ := grid (z / 2 ^ 143 + 1) 143 (by omega) (by omega)
  have hc : Z32 a - Z32 b ≤ Z32 c := by rw [c2]; omega
  have h1 := fsub_le ha hb c1 hc
  have h2 := fsub_ge ha hb (c := 0) (by decide) (by rw [Z_zero]; omega)
  have h3 := fsub_le ha hb ha (by omega)
  rw [Z_zero] at h2
  unfold lid at hl
  refine ⟨fin_of (num_fsub ha hb) (by omega) (by omega), h2, ?_, h3⟩
  unfold eps
  rw [c2] at h1
  omega
theorem half_sum {a b : Nat} (ha : Fin32 a) (hb : Fin32 b) (a0 : 0 ≤ Z32 a) (b0 : 0 ≤ Z32 b) (hl : Z32 a + Z32 b < lid) : Fin32 (halfF a b) ∧ 0 ≤ Z32 (halfF a b) ∧ 2 * Z32 (halfF a b) ≤ Z32 a + Z32 b + eps := by
  obtain ⟨s1, s2, _⟩ := add_sum ha hb a0 b0 hl
  obtain ⟨z, hz⟩ : ∃ z : Nat, (z : Int) = Z32 a + Z32 b := ⟨(Z32 a + Z32 b).toNat, by omega⟩
  have hz2 : z < 2 ^ 166 := by unfold lid at hl; omega
  obtain ⟨c, c1, c2⟩ := grid (z / 2 ^ 143 + 1) 142 (by omega) (by omega)
  obtain ⟨d, d1, d2⟩ := grid (z / 2 ^ 143 + 1) 143 (by omega) (by omega)
  have h1 := fadd_le ha hb d1 (by rw [d2]; omega)
  have hp : 0 < Z32 1073741824 := by rw [Z_two]; decide
  have q1 : Z32 (halfF a b) ≤ Z32 c := fdiv_le s1 two_fin s2 hp c1 (by omega) (by rw [Z_two, c2]; rw [d2] at h1; omega)
  have q0 : 0 ≤ Z32 (halfF a b) := by
    have := fdiv_ge s1 two_fin s2 hp (c := 0) (by decide) (by rw [Z_zero]; omega) (by rw [Z_zero]; omega)
    rwa [Z_zero] at this
  rw [c2] at q1
  refine ⟨fin_of (num_fdiv s1 two_fin two_ne) (by omega) (by omega), q0, ?_⟩
  unfold eps
  omega

/-! ### the sum of the films -/
def sumZ (G : Nat → Nat) : Nat → Int
  | 0 => 0
  | k + 1 => sumZ G k + Z32 (G k)
theorem sumZ_upd_off {G : Nat → Nat} {k v : Nat} : ∀ n, n ≤ k → sumZ (upd G k v) n = sumZ G n
  | 0, _ => rfl
  | n + 1, h => by
    show sumZ (upd G k v) n + Z32 (upd G k v n) = sumZ G n + Z32 (G n)
    rw [sumZ_upd_off n (by omega)]
    have : upd G k v n = G n := by unfold upd; rw [if_neg (by omega)]
    rw [this]
theorem sumZ_upd {G : Nat → Nat} {k v : Nat} : ∀ n, k < n → sumZ (upd G k v) n = sumZ G n + Z32 v - Z32 (G k)
  | 0, h => by omega
  | n + 1, h => by
    show sumZ (upd G k v) n + Z32 (upd G k v n) = sumZ G n + Z32 (G n) + Z32 v - Z32 (G k)
    by_cases e : k = n
    · subst e
      rw [sumZ_upd_off k (Nat.le_refl _)]
      have : upd G k v k = v := by simp [upd]
      rw [this]; omega
    · rw [sumZ_upd n (by omega)]
      have : upd G k v n = G n := by unfold upd; rw [if_neg (by omega)]
      rw [this]; omega
/-- Numbers without a sign. -/
def PosF (n : Nat) (G : Nat → Nat) : Prop := ∀ i, i < n → Fin32 (G i) ∧ 0 ≤ Z32 (G i)
theorem sumZ_pos {G : Nat → Nat} {m : Nat} (h : PosF m G) : ∀ n, n ≤ m → 0 ≤ sumZ G n
  | 0, _ => Int.le_refl _
  | n + 1, hn => by
    have := sumZ_pos h n (by omega)
    have := (h n (by omega)).2
    show 0 ≤ sumZ G n + Z32 (G n)
    omega
theorem sumZ_one {G : Nat → Nat} {m : Nat} (h : PosF m G) : ∀ n, n ≤ m → ∀ i, i < n → Z32 (G i) ≤ sumZ G n
  | 0, _, i, hi => by omega
  | n + 1, hn, i, hi => by
    show _ ≤ sumZ G n + Z32 (G n)
    have := sumZ_pos h n (by omega)
    have h2 := (h n (by omega)).2
    by_cases e : i = n
    · subst e; omega
    · have := sumZ_one h n (by omega) i (by omega); omega
theorem sumZ_two {G : Nat → Nat} {m : Nat} (h : PosF m G) : ∀ n, n ≤ m → ∀ i j, i < j → j < n → Z32 (G i) + Z32 (G j) ≤ sumZ G n
  | 0, _, i, j, _, hj => by omega
  | n + 1, hn, i, j, hij, hj => by
    show _ ≤ sumZ G n + Z32 (G n)
    have h2 := (h n (by omega)).2
    by_cases e : j = n
    · subst e
      have := sumZ_one h j (by omega) i hij; omega
    · have := sumZ_two h n (by omega) i j hij (by omega); omega
theorem posF_upd {n k v : Nat} {G : Nat → Nat} (h : PosF n G) (h1 : Fin32 v) (h2 : 0 ≤ Z32 v) : PosF n (upd G k v) := fun i hi => by
  unfold upd
  split
  · exact ⟨h1, h2⟩
  · exact h i hi

/-! ### turns -/
theorem mul_in {a p : Nat} (hp : partB p = true) (ha : Fin32 a) (h0 : 0 ≤ Z32 a) (hm : Z32 a < lid) : Up a (fmul p a) ∧ Up a (fmul a p) := part_up hp ha h0 (by unfold lid at hm; omega)
theorem turnK_sum {n : Nat} {s : Nat} {F : Nat → Nat} {fed : Nat} (hn : 2 ≤ n) (hs : partB s = true) (hF : PosF n F) (hf : Fin32 fed) (f0 : 0 ≤ Z32 fed) (n12 : n ≤ 12)
    (hl : sumZ F n + Z32 fed + 20 * eps < lid) : ∀ k, k + 2 ≤ n → PosF n (turnK s F fed k) ∧ sumZ (turnK s F fed k) n ≤ sumZ F n + Z32 fed + (3 + (k : Int)) * eps := by
  have e0 : 0 < eps := by decide
  intro k
  induction k with
  | zero =>
    intro _
    obtain ⟨x1, x2⟩ := hF 0 (by omega)
    obtain ⟨y1, y2⟩ := hF 1 (by omega)
    have t01 := sumZ_two hF n (Nat.le_refl _) 0 1 (by omega) (by omega)
    obtain ⟨a1, a2, a3⟩ := add_sum x1 hf x2 f0 (by omega)
    have hA : turnA F fed = fadd (F 0) fed := rfl
    rw [← hA] at a1 a2 a3
    obtain ⟨o1, o2, o3⟩ : Up (turnA F fed) (turnO s F fed) := (mul_in hs a1 a2 (by omega)).1
    obtain ⟨b1, b2, b3, _⟩ := sub_sum a1 o1 o2 o3 (by omega)
    obtain ⟨c1, c2, c3⟩ := add_sum y1 o1 y2 o2 (by omega)
    have p1 : PosF n (upd F 0 (fsub (turnA F fed) (turnO s F fed))) := posF_upd hF b1 b2
    refine ⟨posF_upd p1 c1 c2, ?_⟩
    show sumZ (upd (upd F 0 _) 1 _) n ≤ _
    rw [sumZ_upd n (by omega), sumZ_upd n (by omega)]
    have : upd F 0 (fsub (turnA F fed) (turnO s F fed)) 1 = F 1 := by simp [upd]
    rw [this]
    have : ((0 : Nat) : Int) = 0 := rfl
    rw [this]
    omega
  | succ k ih =>
    intro hk
    obtain ⟨hp, hsum⟩ := ih (by omega)
    obtain ⟨x1, x2⟩ := hp (k + 1) (by omega)
    obtain ⟨y1, y2⟩ := hp (k + 1 + 1) (by omega)
    have t01 := sumZ_two hp n (Nat.le_refl _) (k + 1) (k + 1 + 1) (by omega) (by omega)
    have hk3 : (3 + (k : Int)) * eps ≤ 20 * eps := Int.mul_le_mul_of_nonneg_right (by omega) (Int.le_of_lt e0)
    obtain ⟨h1, h2, h3⟩ := half_sum x1 y1 x2 y2 (by omega)
    have p1 : PosF n (upd (turnK s F fed k) (k + 1) (halfF (turnK s F fed k (k + 1)) (turnK s F fed k (k + 1 + 1)))) := posF_upd hp h1 h2
    refine ⟨posF_upd p1 h1 h2, ?_⟩
    show sumZ (upd (upd (turnK s F fed k) (k + 1) _) (k + 1 + 1) _) n ≤ _
    rw [sumZ_upd n (by omega), sumZ_upd n (by omega)]
    have : upd (turnK s F fed k) (k + 1) (halfF (turnK s F fed k (k + 1)) (turnK s F fed k (k + 1 + 1))) (k + 1 + 1) = turnK s F fed k (k + 1 + 1) := by simp [upd]
    rw [this]
    have hc : (3 + ((k + 1 : Nat) : Int)) * eps = (3 + (k : Int)) * eps + eps := by
      rw [show (3 + ((k + 1 : Nat) : Int)) = (3 + (k : Int)) + 1 from by omega, Int.add_mul, Int.one_mul]
    rw [hc]
    omega
theorem turnK_off {s : Nat} {F : Nat → Nat} {fed : Nat} : ∀ k i, k + 2 ≤ i → turnK s F fed k i = F i
  | 0, i, h => by
    show upd (upd F 0 _) 1 _ i = F i
    unfold upd
    rw [if_neg (by omega), if_neg (by omega)]
  | k + 1, i, h => by
    show upd (upd (turnK s F fed k) (k + 1) _) (k + 1 + 1) _ i = F i
    unfold upd
    rw [if_neg (by omega), if_neg (by omega)]
    exact turnK_off k i (by omega)
theorem turnF_sum {r : Int} {s t : Nat} {F : Nat → Nat} {fed cover : Nat} (h2 : 2 ≤ r) (h12 : r ≤ 12) (hs : partB s = true) (ht : partB t = true) (hc : partB cover = true) (hF : PosF r.toNat F) (hf : Fin32 fed) (f0 : 0 ≤ Z32 fed)
    (hl : sumZ F r.toNat + Z32 fed + 20 * eps < lid) : PosF r.toNat (turnF r s t F fed cover) ∧ sumZ (turnF r s t F fed cover) r.toNat ≤ sumZ F r.toNat + Z32 fed + 20 * eps ∧ ∀ i : Nat, r ≤ (i : Int) → turnF r s t F fed cover i = F i := by
  have e0 : 0 < eps := by decide
  obtain ⟨hp, hsum⟩ := turnK_sum (n := r.toNat) (s := s) (F := F) (fed := fed) (by omega) hs hF hf f0 (by omega) hl (r - 2).toNat (by omega)
  have hk3 : (3 + ((r - 2).toNat : Int)) * eps ≤ 20 * eps := Int.mul_le_mul_of_nonneg_right (by omega) (Int.le_of_lt e0)
  obtain ⟨x1, x2⟩ := hp (r - 1).toNat (by omega)
  have t1 := sumZ_one hp r.toNat (Nat.le_refl _) (r - 1).toNat (by omega)
  have pk := part_mul ht hc
  obtain ⟨o1, o2, o3⟩ : Up (turnE r s F fed (r - 1).toNat) (turnP r s t F fed cover) := (mul_in pk x1 x2 (by omega)).2
  obtain ⟨b1, b2, b3, b4⟩ := sub_sum (a := turnE r s F fed (r - 1).toNat) x1 o1 o2 o3 (Int.lt_of_le_of_lt t1 (by omega))
  refine ⟨posF_upd hp b1 b2, ?_, ?_⟩
  · show sumZ (upd (turnE r s F fed) (r - 1).toNat _) r.toNat ≤ _
    rw [sumZ_upd _ (by omega)]
    have : sumZ (turnE r s F fed) r.toNat = sumZ (turnK s F fed (r - 2).toNat) r.toNat := rfl
    rw [this]
    omega
  · intro i hi
    show upd (turnE r s F fed) (r - 1).toNat _ i = F i
    unfold upd
    rw [if_neg (by omega)]
    exact turnK_off _ i (by omega)
theorem cellsB_yes {r : Int} {F : Nat → Nat} : ∀ n, (∀ i, i < n → cellB r F i = true) → cellsB r F n = true
  | 0, _ => rfl
  | n + 1, h => by
    show (cellsB r F n && cellB r F n) = true
    rw [cellsB_yes n (fun i hi => h i (by omega)), h n (by omega)]
    rfl
theorem trainB_of {r : Int} {s t : Nat} {F : Nat → Nat} (h1 : 2 ≤ r) (h2 : r ≤ 12) (hs : partB s = true) (ht : partB t = true) (hF : PosF r.toNat F) (hl : sumZ F r.toNat < lid) (hz : ∀ i : Nat, i < 12 → r ≤ (i : Int) → zeroB (F i) = true) : trainB r s t F = true := by
  refine trainB_yes h1 h2 hs ht (cellsB_yes 12 fun i hi => ?_)
  unfold cellB
  by_cases h : (i : Int) < r
  · rw [if_pos h]
    obtain ⟨x1, x2⟩ := hF i (by omega)
    have := sumZ_one hF r.toNat (Nat.le_refl _) i (by omega)
    exact (film_iff _).2 ⟨fin_nan x1, x2, by unfold lid at hl; omega⟩
  · rw [if_neg h]
    exact hz i hi (by omega)
/-- A train of small films: what is drawn. -/
structure SmallT (r : Int) (s t : Nat) (F : Nat → Nat) : Prop where
  h2 : 2 ≤ r
  h6 : r ≤ 6
  hs : partB s = true
  ht : partB t = true
  hF : ∀ i : Nat, i < 12 → Small (F i)
  hz : ∀ i : Nat, i < 12 → r ≤ (i : Int) → F i = 0
theorem small_sum {n : Nat} {F : Nat → Nat} (h : ∀ i : Nat, i < n → Small (F i)) : ∀ k, k ≤ n → sumZ F k ≤ (k : Int) * 2 ^ 152
  | 0, _ => by simp [sumZ]
  | k + 1, hk => by
    have h1 := small_sum h k (by omega)
    have h2 := (h k (by omega)).2.2
    rw [Z_eight] at h2
    show sumZ F k + Z32 (F k) ≤ ((k + 1 : Nat) : Int) * 2 ^ 152
    omega
theorem it_sum {r : Int} {s t : Nat} {F : Nat → Nat} {fed cover : Nat} (h : SmallT r s t F) (hf : Small fed) (hc : partB cover = true) :
    ∀ n : Nat, n ≤ 2000 → PosF r.toNat (itF r s t fed cover F n) ∧ sumZ (itF r s t fed cover F n) r.toNat ≤ (96 + 9 * (n : Int)) * 2 ^ 149 ∧ ∀ i : Nat, r ≤ (i : Int) → itF r s t fed cover F n i = F i
  | 0, _ => by
    have h2 := h.h2
    have h6 := h.h6
    have s1 := small_sum (n := r.toNat) (F := F) (fun i hi => h.hF i (by omega)) r.toNat (Nat.le_refl _)
    have s2 : (r.toNat : Int) * 2 ^ 152 ≤ 6 * 2 ^ 152 := Int.mul_le_mul_of_nonneg_right (by omega) (by decide)
    refine ⟨fun i hi => ⟨(h.hF i (by omega)).1, (h.hF i (by omega)).2.1⟩, ?_, fun i hi => rfl⟩
    show sumZ F r.toNat ≤ _
    have : ((0 : Nat) : Int) = 0 := rfl
    rw [this]
    omega
  | n + 1, hn => by
    obtain ⟨p1, p2, p3⟩ := it_sum h hf hc n (by omega)
    have h2 := h.h2
    have h6 := h.h6
    obtain ⟨f1, f2, f3⟩ := hf
    rw [Z_eight] at f3
    have e1 : 20 * eps = 20 * 2 ^ 143 := rfl
    have l1 : lid = 2 ^ 166 := rfl
    obtain ⟨q1, q2, q3⟩ := turnF_sum (r := r) (s := s) (t := t) (F := itF r s t fed cover F n) (fed := fed) (cover := cover) h2 (by omega) h.hs h.ht hc p1 f1 f2 (by rw [e1, l1]; omega)
    refine ⟨q1, ?_, fun i hi => (q3 i hi).trans (p3 i hi)⟩
    show sumZ (turnF r s t (itF r s t fed cover F n) fed cover) r.toNat ≤ _
    rw [e1] at q2
    omega
theorem it_train {r : Int} {s t : Nat} {F : Nat → Nat} {fed cover : Nat} (h : SmallT r s t F) (hf : Small fed) (hc : partB cover = true) (n : Nat) (hn : n ≤ 2000) : trainB r s t (itF r s t fed cover F n) = true := by
  obtain ⟨p1, p2, p3⟩ := it_sum h hf hc n hn
  have h2 := h.h2
  have h6 := h.h6
  refine trainB_of h2 (by omega) h.hs h.ht p1 (by unfold lid; omega) fun i hi hr => ?_
  rw [p3 i hr, h.hz i hi hr]
  decide
theorem it_all {r : Int} {s t : Nat} {F : Nat → Nat} {fed cover : Nat} (h : SmallT r s t F) (hf : Small fed) (hc : partB cover = true) : ∀ n, n ≤ 2000 → allB r s t fed cover F n = true
  | 0, _ => rfl
  | n + 1, hn => by
    show (allB r s t fed cover F n && trainB r s t (itF r s t fed cover F (n + 1))) = true
    rw [it_all h hf hc n (by omega), it_train h hf hc (n + 1) hn]
    rfl
theorem small_film {a : Nat} (h : Small a) : filmB a = true := up_film (up_le (by rw [Z_eight, Z_film]; decide) h)
theorem small_ask {r : Int} {s t : Nat} {F : Nat → Nat} {fed cover : Nat} (h : SmallT r s t F) (hf : Small fed) (hc : partB cover = true) : askB r s t F fed cover = true := by
  unfold askB
  rw [show trainB r s t F = true from it_train (fed := fed) (cover := cover) h hf hc 0 (by omega), small_film hf, hc]
  rfl
theorem small_ts {r : Int} {s t : Nat} {F : Nat → Nat} {fed cover : Nat} (h : SmallT r s t F) (hf : Small fed) (hc : partB cover = true) (q : Int) (q0 : 0 ≤ q) (q2 : q ≤ 2000) : tsB r s t F fed cover q = true := by
  unfold tsB rangeT
  rw [small_ask h hf hc, it_all h hf hc q.toNat (by omega), decide_eq_true q0, decide_eq_true q2]
  rfl
/-! ### steady -/
theorem leF_iff {a b : Nat} (hb : ¬ Flt.NaN single b) : leF a b = true ↔ ¬ Flt.NaN single a ∧ Z32 a ≤ Z32 b := by
  unfold leF
  rw [ord_le hb]
  exact decide_eq_true_iff
end Go.Proofs.YtkokekndiammpaaGreatDoor

/-! Contracts of the draws: a part, a film, a train; each under its own premises. -/
set_option linter.unusedVariables false
set_option linter.unusedSimpArgs false
namespace Go.Proofs.YtkokekndiammpaaGreatDoor
open Go.RowKit Ieee

theorem cvt_Z (n : Nat) (hn : n < 2 ^ 24) : Fin32 (floatOfInt .f32 (n : Int)) ∧ Z32 (floatOfInt .f32 (n : Int)) = ((n * 2 ^ 149 : Nat) : Int) := by
  have hq : n < 2 * single.binade := hn
  have hlt : n * 2 ^ 149 < Flt.U single single.infRung := by
    rw [Flt.single_inf]
    have h2 : n * 2 ^ 149 < 2 ^ 24 * 2 ^ 149 := Nat.mul_lt_mul_of_pos_right hn (Nat.two_pow_pos 149)
    have h3 : 2 ^ (24 + 149) ≤ 2 ^ Flt.eS := Nat.pow_le_pow_right (by decide) (by rw [Flt.eS_eq]; omega)
    rw [Nat.pow_add] at h3
    omega
  have hU := Flt.G_short single (q := n) (e := 149) hq (Nat.le_of_lt hlt)
  have hG : Flt.G single (n * 2 ^ 149) 0 ≤ single.infRung := by unfold Flt.G; omega
  have hne : Flt.G single (n * 2 ^ 149) 0 ≠ single.infRung := fun h => by rw [h] at hU; omega
  have hs := Flt.infRung_lt' single
  have he : floatOfInt .f32 (n : Int) = single.word false (Flt.G single (n * 2 ^ 149) 0) := by
    show single.write (.number (decide ((n : Int) < 0)) (n : Int).natAbs 0) = _
    have hd : decide ((n : Int) < 0) = false := by simp
    have ha : (n : Int).natAbs = n := by simp
    rw [hd, ha]
    simp only [Format.write]
    rw [Flt.nearest_eq single _ _ _ 149 0 (by decide)]
  rw [he]
  refine ⟨?_, ?_⟩
  · show Flt.rung single _ < _
    rw [Flt.rung_word single false (by omega)]; omega
  · show Flt.Z single _ = _
    rw [Flt.Z_word single false (by omega), hU]
    rfl
theorem quo_up {n m y c : Nat} {q : Int} (hn : n < 2 ^ 24) (hy : Fin32 y) (hm : 0 < m) (hZ : Z32 y = ((m * 2 ^ 149 : Nat) : Int)) (hc : Fin32 c) (hq : Z32 c = q * 2 ^ 149) (q0 : 0 ≤ q) (q9 : q ≤ 1024) (hle : (n : Int) ≤ q * m) : Up c (fdiv (floatOfInt .f32 (n : Int)) y) := by
  obtain ⟨f, z⟩ := cvt_Z n hn
  have hp : 0 < Z32 y := by rw [hZ]; have := Nat.two_pow_pos 149; exact_mod_cast Nat.mul_pos hm this
  have n0 : Z32 y ≠ 0 := by omega
  have z0 : 0 ≤ Z32 (floatOfInt .f32 (n : Int)) := by rw [z]; omega
  have c0 : 0 ≤ Z32 c := by rw [hq]; exact Int.mul_nonneg q0 (by decide)
  have h1 : Z32 (fdiv (floatOfInt .f32 (n : Int)) y) ≤ Z32 c := by
    refine fdiv_le f hy z0 hp hc c0 ?_
    rw [z, hZ, hq]
    have h := Int.mul_le_mul_of_nonneg_right hle (show (0 : Int) ≤ 2 ^ 149 * 2 ^ 149 by decide)
    have e1 : ((n * 2 ^ 149 : Nat) : Int) * 2 ^ 149 = (n : Int) * (2 ^ 149 * 2 ^ 149) := by rw [Int.natCast_mul, Int.natCast_pow, Int.mul_assoc]; rfl
    have e2 : q * 2 ^ 149 * ((m * 2 ^ 149 : Nat) : Int) = q * (m : Int) * (2 ^ 149 * 2 ^ 149) := by
      rw [Int.natCast_mul, Int.natCast_pow]
      show q * 2 ^ 149 * ((m : Int) * 2 ^ 149) = _
      ac_rfl
    rw [e1, e2]
    exact h
  have h0 : 0 ≤ Z32 (fdiv (floatOfInt .f32 (n : Int)) y) := by
    have := fdiv_ge f hy z0 hp (c := 0) (by decide) (by rw [Z_zero]; omega) (by rw [Z_zero, Int.zero_mul]; omega)
    rwa [Z_zero] at this
  have hc9 : Z32 c ≤ 2 ^ 159 := by rw [hq]; omega
  exact ⟨fin_of (num_fdiv f hy n0) (by omega) (by omega), h0, h1⟩
theorem quo_fin {n : Nat} (hn : n < 2 ^ 24) : Fin32 (floatOfInt .f32 (n : Int)) := (cvt_Z n hn).1
theorem Z_16 : Z32 1098907648 = ((16 * 2 ^ 149 : Nat) : Int) := by decide +kernel
theorem Z_1000 : Z32 1148846080 = ((1000 * 2 ^ 149 : Nat) : Int) := by decide +kernel
theorem Z_meg : Z32 1233125376 = ((1048576 * 2 ^ 149 : Nat) : Int) := by decide +kernel
theorem Z_4 : Z32 1082130432 = ((4 * 2 ^ 149 : Nat) : Int) := by decide +kernel
theorem Z_1 : Z32 1065353216 = 1 * 2 ^ 149 := by decide +kernel
theorem Z_8 : Z32 1090519040 = 8 * 2 ^ 149 := by decide +kernel
theorem up_part {a : Nat} (h : Up 1065353216 a) : partB a = true := (part_iff a).2 ⟨fin_nan h.1, h.2.1, by rw [← Z_one]; exact h.2.2⟩
theorem ne_16 : Z32 1098907648 ≠ 0 := by decide +kernel
theorem ne_1000 : Z32 1148846080 ≠ 0 := by decide +kernel
theorem ne_meg : Z32 1233125376 ≠ 0 := by decide +kernel
theorem ne_4 : Z32 1082130432 ≠ 0 := by decide +kernel

theorem tone_any (b k : Nat) (ao : Option Addr) (n cap : Nat) (w : World) (hk : k < 1152921504606846976) (hs : Src w b k ao n cap) (hb : BytesAt w b ao n) :
    Calls Tryz.prog 27 #[.pointer (some ⟨b, 0, none⟩)] w fun e w' => ∃ v : Nat, e = .returned (.float .f32 v) ∧ partB v = true ∧ Src w' b (k + 4) ao n cap ∧ Moved b w w' := by
  have cv : ∀ (m : Nat) (w : World), (convert 2 25 (.int .i64 (m : Int))).run Tryz.prog w = .ok (.float .f32 (floatOfInt .f32 (m : Int))) w := fun m w => by kernel_rfl
  have dv : ∀ (x y : Nat) (hx : Fin32 x) (hy : Fin32 y) (h0 : Z32 y ≠ 0) (w : World), (binOp .quo 25 (.float .f32 x) (.float .f32 y)).run Tryz.prog w = .ok (.float .f32 (fdiv x y)) w := fun x y hx hy h0 w => run_fdiv w 25 hx hy h0
  go_enter Tryz.func27, Tryz.ntmps27
  go_wp2_with (fail)
  refine (pick_any b k ao n cap 4 _ (by omega) (by omega) (by omega) hs hb).mono ?_
  rintro e w1 ⟨x, rfl, hx0, hx9, hs1, hm1⟩
  have hb1 := hm1.bytes hb (Nat.le_refl _)
  by_cases h0 : x = 0
  · subst h0
    go_wp2_with (fail)
    refine (pick_any b (k + 2) ao n cap 17 _ (by omega) (by omega) (by omega) hs1 hb1).mono ?_
    rintro e w2 ⟨y, rfl, hy0, hy9, hs2, hm2⟩
    obtain ⟨y, rfl⟩ := Int.eq_ofNat_of_zero_le hy0
    have d := fun w => dv (floatOfInt .f32 (y : Int)) 1098907648 (quo_fin (by omega)) (by decide) ne_16 w
    have c := cv y
    go_wp2
    go_ret
    exact ⟨_, rfl, up_part (quo_up (m := 16) (q := 1) (by omega) (by decide) (by omega) Z_16 (by decide) Z_1 (by omega) (by omega) (by omega)), hs2, hm1.trans hm2⟩
  · by_cases h1 : x = 1
    · subst h1
      go_wp2_with (fail)
      refine (pick_any b (k + 2) ao n cap 1001 _ (by omega) (by omega) (by omega) hs1 hb1).mono ?_
      rintro e w2 ⟨y, rfl, hy0, hy9, hs2, hm2⟩
      obtain ⟨y, rfl⟩ := Int.eq_ofNat_of_zero_le hy0
      have d := fun w => dv (floatOfInt .f32 (y : Int)) 1148846080 (quo_fin (by omega)) (by decide) ne_1000 w
      have c := cv y
      go_wp2
      go_ret
      exact ⟨_, rfl, up_part (quo_up (m := 1000) (q := 1) (by omega) (by decide) (by omega) Z_1000 (by decide) Z_1 (by omega) (by omega) (by omega)), hs2, hm1.trans hm2⟩
    · have e0 : (x == 0) = false := by simp [h0]
      have e1 : (x == 1) = false := by simp [h1]
      go_wp2_with (fail)
      refine (pick_any b (k + 2) ao n cap 1048576 _ (by omega) (by omega) (by omega) hs1 hb1).mono ?_
      rintro e w2 ⟨y, rfl, hy0, hy9, hs2, hm2⟩
      obtain ⟨y, rfl⟩ := Int.eq_ofNat_of_zero_le hy0
      have d := fun w => dv (floatOfInt .f32 (y : Int)) 1233125376 (quo_fin (by omega)) (by decide) ne_meg w
      have c := cv y
      go_wp2
      go_ret
      exact ⟨_, rfl, up_part (quo_up (m := 1048576) (q := 1) (by omega) (by decide) (by omega) Z_meg (by decide) Z_1 (by omega) (by omega) (by omega)), hs2, hm1.trans hm2⟩
theorem thick_any (b k : Nat) (ao : Option Addr) (n cap : Nat) (w : World) (hk : k < 1152921504606846976) (hs : Src w b k ao n cap) (hb : BytesAt w b ao n) :
    Calls Tryz.prog 26 #[.pointer (some ⟨b, 0, none⟩)] w fun e w' => ∃ v : Nat, e = .returned (.float .f32 v) ∧ Small v ∧ Src w' b (k + 4) ao n cap ∧ Moved b w w' := by
  have cv : ∀ (m : Nat) (w : World), (convert 2 25 (.int .i64 (m : Int))).run Tryz.prog w = .ok (.float .f32 (floatOfInt .f32 (m : Int))) w := fun m w => by kernel_rfl
  have dv : ∀ (x y : Nat) (hx : Fin32 x) (hy : Fin32 y) (h0 : Z32 y ≠ 0) (w : World), (binOp .quo 25 (.float .f32 x) (.float .f32 y)).run Tryz.prog w = .ok (.float .f32 (fdiv x y)) w := fun x y hx hy h0 w => run_fdiv w 25 hx hy h0
  go_enter Tryz.func26, Tryz.ntmps26
  go_wp2_with (fail)
  refine (one_any b k ao n cap 3 _ (by omega) (by omega) (by omega) hs hb).mono ?_
  rintro e w1 ⟨v, rfl, hs1, hm1⟩
  have hb1 := hm1.bytes hb (Nat.le_refl _)
  cases v
  · go_wp2_with (fail)
    refine (pick_any b (k + 2) ao n cap 5000 _ (by omega) (by omega) (by omega) hs1 hb1).mono ?_
    rintro e w2 ⟨y, rfl, hy0, hy9, hs2, hm2⟩
    obtain ⟨y, rfl⟩ := Int.eq_ofNat_of_zero_le hy0
    have d := fun w => dv (floatOfInt .f32 (y : Int)) 1148846080 (quo_fin (by omega)) (by decide) ne_1000 w
    have c := cv y
    go_wp2
    go_ret
    exact ⟨_, rfl, quo_up (m := 1000) (q := 8) (by omega) (by decide) (by omega) Z_1000 (by decide) Z_8 (by omega) (by omega) (by omega), hs2, hm1.trans hm2⟩
  · go_wp2_with (fail)
    refine (pick_any b (k + 2) ao n cap 33 _ (by omega) (by omega) (by omega) hs1 hb1).mono ?_
    rintro e w2 ⟨y, rfl, hy0, hy9, hs2, hm2⟩
    obtain ⟨y, rfl⟩ := Int.eq_ofNat_of_zero_le hy0
    have d := fun w => dv (floatOfInt .f32 (y : Int)) 1082130432 (quo_fin (by omega)) (by decide) ne_4 w
    have c := cv y
    go_wp2
    go_ret
    exact ⟨_, rfl, quo_up (m := 4) (q := 8) (by omega) (by decide) (by omega) Z_4 (by decide) Z_8 (by omega) (by omega) (by omega), hs2, hm1.trans hm2⟩
end Go.Proofs.YtkokekndiammpaaGreatDoor
