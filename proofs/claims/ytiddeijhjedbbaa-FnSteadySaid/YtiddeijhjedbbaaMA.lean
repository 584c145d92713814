/- What FnSteady's walk rests on: contracts of what it calls, draws, and plain laws of small films; each under its own premises. -/
import Derived.Test.YtiddeijhjedbbaaTSteady
import Derived.Test.YtiddeijhjedbbaaTTimes
import Derived.Test.YtiddeijhjedbbaaTLaw4
import Derived.Test.YtiddeijhjedbbaaPOk
import Derived.StillTailTactics
import Derived.Laws.CopyOwn
import Derived.Test.YtiddeijhjedbbaaTZoneS
import Derived.Test.YtiddeijhjedbbaaTZoneI
import Derived.Test.YtiddeijhjedbbaaTTurns
import Derived.Laws.BitsAllLaws
import Derived.Deep.QuietTactic
import Derived.BigQuiet
import Derived.Test.YtiddeijhjedbbaaTZoneA
import Derived.Test.YtiddeijhjedbbaaTMix
import Derived.Test.YtiddeijhjedbbaaTSame
import Derived.Test.YtiddeijhjedbbaaTwo
import Derived.Test.YtiddeijhjedbbaaTWalk

/- The contract of the program's TurnsUntilSteady, and the law on it. -/
set_option linter.unusedVariables false
set_option linter.unusedSimpArgs false
namespace Go.Proofs.Ytiddeijhjedbbaa
open Go.RowKit Ieee

set_option maxRecDepth 100000 in
set_option maxHeartbeats 3200000 in
theorem implUntil_any (r : Int) (s t : Nat) (F : Nat → Nat) (fed cover wi : Nat) (O : Bool × Nat × Int) (hO : stAll r s t F fed cover wi = O) (w : World) (lr : -128 ≤ r) (ur : r ≤ 127) : Calls Try.prog 8 #[.agg (train r s t F), .float .f32 fed, .float .f32 cover, .float .f32 wi] w fun e w' => e = .returned (.tuple #[.agg (if O.1 then train r s t (itF r s t fed cover F O.2.1) else train 0 0 0 (fun _ => 0)), .int .i64 (O.2.1 : Nat), .int .i64 O.2.2]) ∧ Below w.heap.size w w' := by
  have hz : (#[Value.int IntKind.i8 0, Value.float FloatKind.f32 0, Value.float FloatKind.f32 0, Value.float FloatKind.f32 0, Value.float FloatKind.f32 0, Value.float FloatKind.f32 0, Value.float FloatKind.f32 0, Value.float FloatKind.f32 0, Value.float FloatKind.f32 0, Value.float FloatKind.f32 0, Value.float FloatKind.f32 0, Value.float FloatKind.f32 0, Value.float FloatKind.f32 0, Value.float FloatKind.f32 0, Value.float FloatKind.f32 0] : Array Value) = row [Value.int IntKind.i8 0, Value.float FloatKind.f32 0, Value.float FloatKind.f32 0] 12 (fun _ => 0) := rfl
  unfold stAll at hO
  cases ha : askB r s t F fed cover
  · have hAsk := fun (w : World) => implAsked_any r s t F fed cover w lr ur
    obtain ⟨c, hcc⟩ : ∃ c, askC r s t F fed cover = c := ⟨_, rfl⟩
    have hne : ¬ c = 0 := by rw [← hcc]; exact ask_no ha
    have hnb : (c != 0) = true := by simp [hne]
    rw [ha] at hO
    rw [hcc] at hAsk hO
    simp only [Bool.false_eq_true, if_false] at hO
    subst hO
    clear hcc ha
    go_enter Try.func8, Try.ntmps8
    go_wp2_with (first | (go_at_call 36; (with_reducible refine (hAsk _).mono ?_); rintro e w1 ⟨rfl, hb1⟩; have hz1 := hb1.size; (try simp at hz1); obtain ⟨hc1, hf1⟩ := bcell hb1) | (go_at_call 37; (with_reducible refine (implFilm_any _ _).mono ?_); rintro e w' ⟨rfl, rfl⟩) | (go_at_call 38; (with_reducible refine (hTurn _).mono ?_); rintro e w2 ⟨rfl, hb2⟩; have hz2 := hb2.size; (try simp at hz2); obtain ⟨hc2, hf2⟩ := bcell hb2) | ((with_reducible refine at_load 28 ?_); refine wpList_load_part rfl 28 _ rfl _ 0 15 rfl _ _ _ _ (by repeat (first | (with_reducible assumption) | ((with_reducible refine blk_new _ _ _ ?_); focus (simp; done)) | ((with_reducible refine blk_old _ _ _ ?_ ?_); focus (simp; done)) | ((with_reducible refine blk_old _ _ _ ?_ ?_); focus (first | omega | (simp; omega))) | ((with_reducible apply blk_set); focus (simp; done)) | ((with_reducible refine blk_off _ _ _ _ ?_ ?_); focus (simp; done)) | ((with_reducible refine blk_offc _ _ _ _ ?_ ?_); focus (first | (simp; done) | omega | (simp; omega))) | ((with_reducible refine blk_off _ _ _ _ ?_ ?_); focus (first | omega | (simp; omega))) | (with_reducible refine blk_drew _ _ ?_) | ((with_reducible refine blk_below (by assumption) ?_ ?_); focus (simp; done)) | ((with_reducible refine blk_below (by assumption) ?_ ?_); focus (first | omega | (simp; omega))))) Try.underlying28 rfl (by kernel_rfl) (by simp [row_size]) _ (row_all [_, _, _] 12 _) ?_) | ((with_reducible refine at_store 28 ?_); refine wpList_store_part rfl 28 _ _ rfl _ 0 _ rfl rfl _ _ (by repeat (first | (with_reducible assumption) | ((with_reducible refine blk_new _ _ _ ?_); focus (simp; done)) | ((with_reducible refine blk_old _ _ _ ?_ ?_); focus (simp; done)) | ((with_reducible refine blk_old _ _ _ ?_ ?_); focus (first | omega | (simp; omega))) | ((with_reducible apply blk_set); focus (simp; done)) | ((with_reducible refine blk_off _ _ _ _ ?_ ?_); focus (simp; done)) | ((with_reducible refine blk_offc _ _ _ _ ?_ ?_); focus (first | (simp; done) | omega | (simp; omega))) | ((with_reducible refine blk_off _ _ _ _ ?_ ?_); focus (first | omega | (simp; omega))) | (with_reducible refine blk_drew _ _ ?_) | ((with_reducible refine blk_below (by assumption) ?_ ?_); focus (simp; done)) | ((with_reducible refine blk_below (by assumption) ?_ ?_); focus (first | omega | (simp; omega))))) (by rw [row_size]; kernel_rfl) (by simp [row_size]) (row_cells _ _ _ rfl) _ (row_over _ _ 12 _ _ (by simp)) ?_) | go_in)
    exact bodyPost_ret (results_row_tmp2 Try.results8 _ _ _ 28 (train 0 0 0 (fun _ => 0)) (0, 0) _ (.int .i64 0) (.int .i64 c) rfl rfl rfl (by repeat (first | (with_reducible assumption) | ((with_reducible refine blk_new _ _ _ ?_); focus (simp; done)) | ((with_reducible refine blk_old _ _ _ ?_ ?_); focus (simp; done)) | ((with_reducible refine blk_old _ _ _ ?_ ?_); focus (first | omega | (simp; omega))) | ((with_reducible apply blk_set); focus (simp; done)) | ((with_reducible refine blk_off _ _ _ _ ?_ ?_); focus (simp; done)) | ((with_reducible refine blk_offc _ _ _ _ ?_ ?_); focus (first | (simp; done) | omega | (simp; omega))) | ((with_reducible refine blk_off _ _ _ _ ?_ ?_); focus (first | omega | (simp; omega))) | (with_reducible refine blk_drew _ _ ?_) | ((with_reducible refine blk_below (by assumption) ?_ ?_); focus (simp; done)) | ((with_reducible refine blk_below (by assumption) ?_ ?_); focus (first | omega | (simp; omega))))) Try.underlying28 rfl (by simp only [row_size]; kernel_rfl)) rfl (by exact ⟨rfl, (by repeat (first | (with_reducible assumption) | (with_reducible exact Below.refl _ _) | ((with_reducible refine bel_alloc _ ?_ ?_); focus (first | omega | (simp; done) | (simp; omega))) | ((with_reducible refine bel_row _ ?_ ?_); focus (first | omega | (simp; done) | (simp; omega))) | ((with_reducible refine bel_cell _ ?_ ?_); focus (first | omega | (simp; done) | (simp; omega))) | (with_reducible refine Below.drew ?_) | (with_reducible refine below_wideW _ ?_) | ((with_reducible refine bel_next (by assumption) ?_ ?_); focus (first | omega | (simp; done) | (simp; omega)))))⟩)
  · obtain ⟨ho, hf, hc, hC⟩ := ask_yes ha
    have hAsk := fun (w : World) => implAsked_any r s t F fed cover w lr ur
    rw [hC] at hAsk
    rw [ha] at hO
    simp only [if_true] at hO
    cases hw : filmB wi
    · rw [hw] at hO
      simp only [Bool.false_eq_true, if_false] at hO
      subst hO
      clear ha ho hf hc hC
      go_enter Try.func8, Try.ntmps8
      go_wp2_with (first | (go_at_call 36; (with_reducible refine (hAsk _).mono ?_); rintro e w1 ⟨rfl, hb1⟩; have hz1 := hb1.size; (try simp at hz1); obtain ⟨hc1, hf1⟩ := bcell hb1) | (go_at_call 37; (with_reducible refine (implFilm_any _ _).mono ?_); rintro e w' ⟨rfl, rfl⟩) | (go_at_call 38; (with_reducible refine (hTurn _).mono ?_); rintro e w2 ⟨rfl, hb2⟩; have hz2 := hb2.size; (try simp at hz2); obtain ⟨hc2, hf2⟩ := bcell hb2) | ((with_reducible refine at_load 28 ?_); refine wpList_load_part rfl 28 _ rfl _ 0 15 rfl _ _ _ _ (by repeat (first | (with_reducible assumption) | ((with_reducible refine blk_new _ _ _ ?_); focus (simp; done)) | ((with_reducible refine blk_old _ _ _ ?_ ?_); focus (simp; done)) | ((with_reducible refine blk_old _ _ _ ?_ ?_); focus (first | omega | (simp; omega))) | ((with_reducible apply blk_set); focus (simp; done)) | ((with_reducible refine blk_off _ _ _ _ ?_ ?_); focus (simp; done)) | ((with_reducible refine blk_offc _ _ _ _ ?_ ?_); focus (first | (simp; done) | omega | (simp; omega))) | ((with_reducible refine blk_off _ _ _ _ ?_ ?_); focus (first | omega | (simp; omega))) | (with_reducible refine blk_drew _ _ ?_) | ((with_reducible refine blk_below (by assumption) ?_ ?_); focus (simp; done)) | ((with_reducible refine blk_below (by assumption) ?_ ?_); focus (first | omega | (simp; omega))))) Try.underlying28 rfl (by kernel_rfl) (by simp [row_size]) _ (row_all [_, _, _] 12 _) ?_) | ((with_reducible refine at_store 28 ?_); refine wpList_store_part rfl 28 _ _ rfl _ 0 _ rfl rfl _ _ (by repeat (first | (with_reducible assumption) | ((with_reducible refine blk_new _ _ _ ?_); focus (simp; done)) | ((with_reducible refine blk_old _ _ _ ?_ ?_); focus (simp; done)) | ((with_reducible refine blk_old _ _ _ ?_ ?_); focus (first | omega | (simp; omega))) | ((with_reducible apply blk_set); focus (simp; done)) | ((with_reducible refine blk_off _ _ _ _ ?_ ?_); focus (simp; done)) | ((with_reducible refine blk_offc _ _ _ _ ?_ ?_); focus (first | (simp; done) | omega | (simp; omega))) | ((with_reducible refine blk_off _ _ _ _ ?_ ?_); focus (first | omega | (simp; omega))) | (with_reducible refine blk_drew _ _ ?_) | ((with_reducible refine blk_below (by assumption) ?_ ?_); focus (simp; done)) | ((with_reducible refine blk_below (by assumption) ?_ ?_); focus (first | omega | (simp; omega))))) (by rw [row_size]; kernel_rfl) (by simp [row_size]) (row_cells _ _ _ rfl) _ (row_over _ _ 12 _ _ (by simp)) ?_) | go_in)
      exact bodyPost_ret (results_row_tmp2 Try.results8 _ _ _ 28 (train 0 0 0 (fun _ => 0)) (0, 0) _ (.int .i64 0) (.int .i64 2) rfl rfl rfl (by repeat (first | (with_reducible assumption) | ((with_reducible refine blk_new _ _ _ ?_); focus (simp; done)) | ((with_reducible refine blk_old _ _ _ ?_ ?_); focus (simp; done)) | ((with_reducible refine blk_old _ _ _ ?_ ?_); focus (first | omega | (simp; omega))) | ((with_reducible apply blk_set); focus (simp; done)) | ((with_reducible refine blk_off _ _ _ _ ?_ ?_); focus (simp; done)) | ((with_reducible refine blk_offc _ _ _ _ ?_ ?_); focus (first | (simp; done) | omega | (simp; omega))) | ((with_reducible refine blk_off _ _ _ _ ?_ ?_); focus (first | omega | (simp; omega))) | (with_reducible refine blk_drew _ _ ?_) | ((with_reducible refine blk_below (by assumption) ?_ ?_); focus (simp; done)) | ((with_reducible refine blk_below (by assumption) ?_ ?_); focus (first | omega | (simp; omega))))) Try.underlying28 rfl (by simp only [row_size]; kernel_rfl)) rfl (by exact ⟨rfl, (by repeat (first | (with_reducible assumption) | (with_reducible exact Below.refl _ _) | ((with_reducible refine bel_alloc _ ?_ ?_); focus (first | omega | (simp; done) | (simp; omega))) | ((with_reducible refine bel_row _ ?_ ?_); focus (first | omega | (simp; done) | (simp; omega))) | ((with_reducible refine bel_cell _ ?_ ?_); focus (first | omega | (simp; done) | (simp; omega))) | (with_reducible refine Below.drew ?_) | (with_reducible refine below_wideW _ ?_) | ((with_reducible refine bel_next (by assumption) ?_ ?_); focus (first | omega | (simp; done) | (simp; omega)))))⟩)
    · rw [hw] at hO
      simp only [if_true] at hO
      have HO := Lib.hid ho
      have HOO := Lib.hid hO
      clear ho ha hC hO
      go_enter Try.func8, Try.ntmps8
      go_wp2_with (first | (go_at_call 36; (with_reducible refine (hAsk _).mono ?_); rintro e w1 ⟨rfl, hb1⟩; have hz1 := hb1.size; (try simp at hz1); obtain ⟨hc1, hf1⟩ := bcell hb1) | (go_at_call 37; (with_reducible refine (implFilm_any _ _).mono ?_); rintro e w' ⟨rfl, rfl⟩) | (go_at_call 38; (with_reducible refine (hTurn _).mono ?_); rintro e w2 ⟨rfl, hb2⟩; have hz2 := hb2.size; (try simp at hz2); obtain ⟨hc2, hf2⟩ := bcell hb2) | ((with_reducible refine at_load 28 ?_); refine wpList_load_part rfl 28 _ rfl _ 0 15 rfl _ _ _ _ (by repeat (first | (with_reducible assumption) | ((with_reducible refine blk_new _ _ _ ?_); focus (simp; done)) | ((with_reducible refine blk_old _ _ _ ?_ ?_); focus (simp; done)) | ((with_reducible refine blk_old _ _ _ ?_ ?_); focus (first | omega | (simp; omega))) | ((with_reducible apply blk_set); focus (simp; done)) | ((with_reducible refine blk_off _ _ _ _ ?_ ?_); focus (simp; done)) | ((with_reducible refine blk_offc _ _ _ _ ?_ ?_); focus (first | (simp; done) | omega | (simp; omega))) | ((with_reducible refine blk_off _ _ _ _ ?_ ?_); focus (first | omega | (simp; omega))) | (with_reducible refine blk_drew _ _ ?_) | ((with_reducible refine blk_below (by assumption) ?_ ?_); focus (simp; done)) | ((with_reducible refine blk_below (by assumption) ?_ ?_); focus (first | omega | (simp; omega))))) Try.underlying28 rfl (by kernel_rfl) (by simp [row_size]) _ (row_all [_, _, _] 12 _) ?_) | ((with_reducible refine at_store 28 ?_); refine wpList_store_part rfl 28 _ _ rfl _ 0 _ rfl rfl _ _ (by repeat (first | (with_reducible assumption) | ((with_reducible refine blk_new _ _ _ ?_); focus (simp; done)) | ((with_reducible refine blk_old _ _ _ ?_ ?_); focus (simp; done)) | ((with_reducible refine blk_old _ _ _ ?_ ?_); focus (first | omega | (simp; omega))) | ((with_reducible apply blk_set); focus (simp; done)) | ((with_reducible refine blk_off _ _ _ _ ?_ ?_); focus (simp; done)) | ((with_reducible refine blk_offc _ _ _ _ ?_ ?_); focus (first | (simp; done) | omega | (simp; omega))) | ((with_reducible refine blk_off _ _ _ _ ?_ ?_); focus (first | omega | (simp; omega))) | (with_reducible refine blk_drew _ _ ?_) | ((with_reducible refine blk_below (by assumption) ?_ ?_); focus (simp; done)) | ((with_reducible refine blk_below (by assumption) ?_ ?_); focus (first | omega | (simp; omega))))) (by rw [row_size]; kernel_rfl) (by simp [row_size]) (row_cells _ _ _ rfl) _ (row_over _ _ 12 _ _ (by simp)) ?_) | go_in)
      go_loopw [12] (fun i wr => ∃ j : Nat, j ≤ 2000 ∧ i = .int .i64 ((j : Int) + 1) ∧ stOut r s t F fed cover wi (2000 - j) j = O ∧ trainB r s t (itF r s t fed cover F j) = true ∧ wr.heap[w.heap.size]? = some (.cells (train r s t (itF r s t fed cover F j)) 28 (0, 0)) ∧ wr.heap[w.heap.size + 1]? = some (.cells (train 0 0 0 (fun _ => 0)) 28 (0, 0)) ∧ Below w.heap.size w wr ∧ w.heap.size + 2 ≤ wr.heap.size) (fun i _ => 2001 - (intOf i).toNat)
      case atStart => exact ⟨0, by omega, rfl, HOO.out, HO.out, by rw [show itF r s t fed cover F 0 = F from rfl]; exact (by repeat (first | (with_reducible assumption) | ((with_reducible refine blk_new _ _ _ ?_); focus (simp; done)) | ((with_reducible refine blk_old _ _ _ ?_ ?_); focus (simp; done)) | ((with_reducible refine blk_old _ _ _ ?_ ?_); focus (first | omega | (simp; omega))) | ((with_reducible apply blk_set); focus (simp; done)) | ((with_reducible refine blk_off _ _ _ _ ?_ ?_); focus (simp; done)) | ((with_reducible refine blk_offc _ _ _ _ ?_ ?_); focus (first | (simp; done) | omega | (simp; omega))) | ((with_reducible refine blk_off _ _ _ _ ?_ ?_); focus (first | omega | (simp; omega))) | (with_reducible refine blk_drew _ _ ?_) | ((with_reducible refine blk_below (by assumption) ?_ ?_); focus (simp; done)) | ((with_reducible refine blk_below (by assumption) ?_ ?_); focus (first | omega | (simp; omega))))), (by repeat (first | (with_reducible assumption) | ((with_reducible refine blk_new _ _ _ ?_); focus (simp; done)) | ((with_reducible refine blk_old _ _ _ ?_ ?_); focus (simp; done)) | ((with_reducible refine blk_old _ _ _ ?_ ?_); focus (first | omega | (simp; omega))) | ((with_reducible apply blk_set); focus (simp; done)) | ((with_reducible refine blk_off _ _ _ _ ?_ ?_); focus (simp; done)) | ((with_reducible refine blk_offc _ _ _ _ ?_ ?_); focus (first | (simp; done) | omega | (simp; omega))) | ((with_reducible refine blk_off _ _ _ _ ?_ ?_); focus (first | omega | (simp; omega))) | (with_reducible refine blk_drew _ _ ?_) | ((with_reducible refine blk_below (by assumption) ?_ ?_); focus (simp; done)) | ((with_reducible refine blk_below (by assumption) ?_ ?_); focus (first | omega | (simp; omega))))), (by repeat (first | (with_reducible assumption) | (with_reducible exact Below.refl _ _) | ((with_reducible refine bel_alloc _ ?_ ?_); focus (first | omega | (simp; done) | (simp; omega))) | ((with_reducible refine bel_row _ ?_ ?_); focus (first | omega | (simp; done) | (simp; omega))) | ((with_reducible refine bel_cell _ ?_ ?_); focus (first | omega | (simp; done) | (simp; omega))) | (with_reducible refine Below.drew ?_) | (with_reducible refine below_wideW _ ?_) | ((with_reducible refine bel_next (by assumption) ?_ ?_); focus (first | omega | (simp; done) | (simp; omega))))), by first | (simp; done) | omega | (simp; omega)⟩
      case round =>
        obtain ⟨j, hj, rfl, hO, hGo, h1, h2, h5, h6⟩ := hrel
        by_cases hlt : j < 2000
        · obtain ⟨f', hf'⟩ : ∃ f', 2000 - j = f' + 1 := ⟨2000 - j - 1, by omega⟩
          rw [hf'] at hO
          have hO2 : (if trainB r s t (itF r s t fed cover F (j + 1)) then (if leF (mostK (itF r s t fed cover F (j + 1)) (itF r s t fed cover F j) r.toNat) wi then (true, j + 1, 0) else stOut r s t F fed cover wi f' (j + 1)) else (false, 0, 3)) = O := hO
          have hG'0 : turnF r s t (itF r s t fed cover F j) fed cover = itF r s t fed cover F (j + 1) := rfl
          obtain ⟨G, hG⟩ : ∃ G, itF r s t fed cover F j = G := ⟨_, rfl⟩
          obtain ⟨G', hG'1⟩ : ∃ G', itF r s t fed cover F (j + 1) = G' := ⟨_, rfl⟩
          rw [hG, hG'1] at hO2 hG'0
          rw [hG] at hGo h1
          have hG' := hG'0
          obtain ⟨p, hp'⟩ : ∃ p, turnP r s t G fed cover = p := ⟨_, rfl⟩
          have HG := Lib.hid hG
          have HG' := Lib.hid hG'1
          have j0 : (0 : Int) ≤ j := by omega
          have j1 : (j : Int) + 1 ≤ 2000 := by omega
          clear hO hG hG'1 hG'0
          cases hk' : trainB r s t G'
          · rw [hk'] at hO2
            simp only [Bool.false_eq_true, if_false] at hO2
            subst hO2
            rw [← hG'] at hk'
            have hTurn : ∀ w : World, Calls Try.prog 38 #[.agg (train r s t G), .float .f32 fed, .float .f32 cover] w fun e w' => e = .returned (.tuple #[.agg (train r s t G'), .float .f32 p, .bool false]) ∧ Below w.heap.size w w' := fun w => by have := implTurn_any r s t G fed cover w lr ur hGo hf hc; rwa [hk', hG', hp'] at this
            clear hGo hG' hp' hk'
            go_wp2_with (first | (go_at_call 36; (with_reducible refine (hAsk _).mono ?_); rintro e w1 ⟨rfl, hb1⟩; have hz1 := hb1.size; (try simp at hz1); obtain ⟨hc1, hf1⟩ := bcell hb1) | (go_at_call 37; (with_reducible refine (implFilm_any _ _).mono ?_); rintro e w' ⟨rfl, rfl⟩) | (go_at_call 38; (with_reducible refine (hTurn _).mono ?_); rintro e w2 ⟨rfl, hb2⟩; have hz2 := hb2.size; (try simp at hz2); obtain ⟨hc2, hf2⟩ := bcell hb2) | ((with_reducible refine at_load 28 ?_); refine wpList_load_part rfl 28 _ rfl _ 0 15 rfl _ _ _ _ (by repeat (first | (with_reducible assumption) | ((with_reducible refine blk_new _ _ _ ?_); focus (simp; done)) | ((with_reducible refine blk_old _ _ _ ?_ ?_); focus (simp; done)) | ((with_reducible refine blk_old _ _ _ ?_ ?_); focus (first | omega | (simp; omega))) | ((with_reducible apply blk_set); focus (simp; done)) | ((with_reducible refine blk_off _ _ _ _ ?_ ?_); focus (simp; done)) | ((with_reducible refine blk_offc _ _ _ _ ?_ ?_); focus (first | (simp; done) | omega | (simp; omega))) | ((with_reducible refine blk_off _ _ _ _ ?_ ?_); focus (first | omega | (simp; omega))) | (with_reducible refine blk_drew _ _ ?_) | ((with_reducible refine blk_below (by assumption) ?_ ?_); focus (simp; done)) | ((with_reducible refine blk_below (by assumption) ?_ ?_); focus (first | omega | (simp; omega))))) Try.underlying28 rfl (by kernel_rfl) (by simp [row_size]) _ (row_all [_, _, _] 12 _) ?_) | ((with_reducible refine at_store 28 ?_); refine wpList_store_part rfl 28 _ _ rfl _ 0 _ rfl rfl _ _ (by repeat (first | (with_reducible assumption) | ((with_reducible refine blk_new _ _ _ ?_); focus (simp; done)) | ((with_reducible refine blk_old _ _ _ ?_ ?_); focus (simp; done)) | ((with_reducible refine blk_old _ _ _ ?_ ?_); focus (first | omega | (simp; omega))) | ((with_reducible apply blk_set); focus (simp; done)) | ((with_reducible refine blk_off _ _ _ _ ?_ ?_); focus (simp; done)) | ((with_reducible refine blk_offc _ _ _ _ ?_ ?_); focus (first | (simp; done) | omega | (simp; omega))) | ((with_reducible refine blk_off _ _ _ _ ?_ ?_); focus (first | omega | (simp; omega))) | (with_reducible refine blk_drew _ _ ?_) | ((with_reducible refine blk_below (by assumption) ?_ ?_); focus (simp; done)) | ((with_reducible refine blk_below (by assumption) ?_ ?_); focus (first | omega | (simp; omega))))) (by rw [row_size]; kernel_rfl) (by simp [row_size]) (row_cells _ _ _ rfl) _ (row_over _ _ 12 _ _ (by simp)) ?_) | go_in)
            exact bodyPost_ret (results_row_tmp2 Try.results8 _ _ _ 28 (train 0 0 0 (fun _ => 0)) (0, 0) _ (.int .i64 0) (.int .i64 3) rfl rfl rfl (by repeat (first | (with_reducible assumption) | ((with_reducible refine blk_new _ _ _ ?_); focus (simp; done)) | ((with_reducible refine blk_old _ _ _ ?_ ?_); focus (simp; done)) | ((with_reducible refine blk_old _ _ _ ?_ ?_); focus (first | omega | (simp; omega))) | ((with_reducible apply blk_set); focus (simp; done)) | ((with_reducible refine blk_off _ _ _ _ ?_ ?_); focus (simp; done)) | ((with_reducible refine blk_offc _ _ _ _ ?_ ?_); focus (first | (simp; done) | omega | (simp; omega))) | ((with_reducible refine blk_off _ _ _ _ ?_ ?_); focus (first | omega | (simp; omega))) | (with_reducible refine blk_drew _ _ ?_) | ((with_reducible refine blk_below (by assumption) ?_ ?_); focus (simp; done)) | ((with_reducible refine blk_below (by assumption) ?_ ?_); focus (first | omega | (simp; omega))))) Try.underlying28 rfl (by simp only [row_size]; kernel_rfl)) rfl (by exact ⟨rfl, (by repeat (first | (with_reducible assumption) | (with_reducible exact Below.refl _ _) | ((with_reducible refine bel_alloc _ ?_ ?_); focus (first | omega | (simp; done) | (simp; omega))) | ((with_reducible refine bel_row _ ?_ ?_); focus (first | omega | (simp; done) | (simp; omega))) | ((with_reducible refine bel_cell _ ?_ ?_); focus (first | omega | (simp; done) | (simp; omega))) | (with_reducible refine Below.drew ?_) | (with_reducible refine below_wideW _ ?_) | ((with_reducible refine bel_next (by assumption) ?_ ?_); focus (first | omega | (simp; done) | (simp; omega)))))⟩)
          · rw [hk'] at hO2
            simp only [if_true] at hO2
            have hGo' := hk'
            rw [← hG'] at hk'
            have hTurn : ∀ w : World, Calls Try.prog 38 #[.agg (train r s t G), .float .f32 fed, .float .f32 cover] w fun e w' => e = .returned (.tuple #[.agg (train r s t G'), .float .f32 p, .bool true]) ∧ Below w.heap.size w w' := fun w => by have := implTurn_any r s t G fed cover w lr ur hGo hf hc; rwa [hk', hG', hp'] at this
            obtain ⟨hr2, hr12, _⟩ := trainB_facts hGo
            have FG := Lib.hid (train_films hGo)
            have FG' := Lib.hid (train_films hGo')
            have HME := Lib.hid (most_end hGo' hGo)
            have HGO := Lib.hid hGo'
            have HO2 := Lib.hid hO2
            clear hGo hGo' hG' hp' hk' hO2
            · skip
              go_upto_region 13 with (first | (go_at_call 36; (with_reducible refine (hAsk _).mono ?_); rintro e w1 ⟨rfl, hb1⟩; have hz1 := hb1.size; (try simp at hz1); obtain ⟨hc1, hf1⟩ := bcell hb1) | (go_at_call 37; (with_reducible refine (implFilm_any _ _).mono ?_); rintro e w' ⟨rfl, rfl⟩) | (go_at_call 38; (with_reducible refine (hTurn _).mono ?_); rintro e w2 ⟨rfl, hb2⟩; have hz2 := hb2.size; (try simp at hz2); obtain ⟨hc2, hf2⟩ := bcell hb2) | ((with_reducible refine at_load 28 ?_); refine wpList_load_part rfl 28 _ rfl _ 0 15 rfl _ _ _ _ (by repeat (first | (with_reducible assumption) | ((with_reducible refine blk_new _ _ _ ?_); focus (simp; done)) | ((with_reducible refine blk_old _ _ _ ?_ ?_); focus (simp; done)) | ((with_reducible refine blk_old _ _ _ ?_ ?_); focus (first | omega | (simp; omega))) | ((with_reducible apply blk_set); focus (simp; done)) | ((with_reducible refine blk_off _ _ _ _ ?_ ?_); focus (simp; done)) | ((with_reducible refine blk_offc _ _ _ _ ?_ ?_); focus (first | (simp; done) | omega | (simp; omega))) | ((with_reducible refine blk_off _ _ _ _ ?_ ?_); focus (first | omega | (simp; omega))) | (with_reducible refine blk_drew _ _ ?_) | ((with_reducible refine blk_below (by assumption) ?_ ?_); focus (simp; done)) | ((with_reducible refine blk_below (by assumption) ?_ ?_); focus (first | omega | (simp; omega))))) Try.underlying28 rfl (by kernel_rfl) (by simp [row_size]) _ (row_all [_, _, _] 12 _) ?_) | ((with_reducible refine at_store 28 ?_); refine wpList_store_part rfl 28 _ _ rfl _ 0 _ rfl rfl _ _ (by repeat (first | (with_reducible assumption) | ((with_reducible refine blk_new _ _ _ ?_); focus (simp; done)) | ((with_reducible refine blk_old _ _ _ ?_ ?_); focus (simp; done)) | ((with_reducible refine blk_old _ _ _ ?_ ?_); focus (first | omega | (simp; omega))) | ((with_reducible apply blk_set); focus (simp; done)) | ((with_reducible refine blk_off _ _ _ _ ?_ ?_); focus (simp; done)) | ((with_reducible refine blk_offc _ _ _ _ ?_ ?_); focus (first | (simp; done) | omega | (simp; omega))) | ((with_reducible refine blk_off _ _ _ _ ?_ ?_); focus (first | omega | (simp; omega))) | (with_reducible refine blk_drew _ _ ?_) | ((with_reducible refine blk_below (by assumption) ?_ ?_); focus (simp; done)) | ((with_reducible refine blk_below (by assumption) ?_ ?_); focus (first | omega | (simp; omega))))) (by rw [row_size]; kernel_rfl) (by simp [row_size]) (row_cells _ _ _ rfl) _ (row_over _ _ 12 _ _ (by simp)) ?_) | go_in)
              refine wp_name (fun W => W.heap[w.heap.size]? = some (.cells (train r s t G) 28 (0, 0)) ∧ W.heap[w.heap.size + 1]? = some (.cells (train 0 0 0 (fun _ => 0)) 28 (0, 0)) ∧ W.heap[w2.heap.size]? = some (.cells (train r s t G') 28 (0, 0)) ∧ Below w.heap.size w W ∧ w2.heap.size + 1 ≤ W.heap.size) ⟨(by repeat (first | (with_reducible assumption) | ((with_reducible refine blk_new _ _ _ ?_); focus (simp; done)) | ((with_reducible refine blk_old _ _ _ ?_ ?_); focus (simp; done)) | ((with_reducible refine blk_old _ _ _ ?_ ?_); focus (first | omega | (simp; omega))) | ((with_reducible apply blk_set); focus (simp; done)) | ((with_reducible refine blk_off _ _ _ _ ?_ ?_); focus (simp; done)) | ((with_reducible refine blk_offc _ _ _ _ ?_ ?_); focus (first | (simp; done) | omega | (simp; omega))) | ((with_reducible refine blk_off _ _ _ _ ?_ ?_); focus (first | omega | (simp; omega))) | (with_reducible refine blk_drew _ _ ?_) | ((with_reducible refine blk_below (by assumption) ?_ ?_); focus (simp; done)) | ((with_reducible refine blk_below (by assumption) ?_ ?_); focus (first | omega | (simp; omega))))), (by repeat (first | (with_reducible assumption) | ((with_reducible refine blk_new _ _ _ ?_); focus (simp; done)) | ((with_reducible refine blk_old _ _ _ ?_ ?_); focus (simp; done)) | ((with_reducible refine blk_old _ _ _ ?_ ?_); focus (first | omega | (simp; omega))) | ((with_reducible apply blk_set); focus (simp; done)) | ((with_reducible refine blk_off _ _ _ _ ?_ ?_); focus (simp; done)) | ((with_reducible refine blk_offc _ _ _ _ ?_ ?_); focus (first | (simp; done) | omega | (simp; omega))) | ((with_reducible refine blk_off _ _ _ _ ?_ ?_); focus (first | omega | (simp; omega))) | (with_reducible refine blk_drew _ _ ?_) | ((with_reducible refine blk_below (by assumption) ?_ ?_); focus (simp; done)) | ((with_reducible refine blk_below (by assumption) ?_ ?_); focus (first | omega | (simp; omega))))), (by repeat (first | (with_reducible assumption) | ((with_reducible refine blk_new _ _ _ ?_); focus (simp; done)) | ((with_reducible refine blk_old _ _ _ ?_ ?_); focus (simp; done)) | ((with_reducible refine blk_old _ _ _ ?_ ?_); focus (first | omega | (simp; omega))) | ((with_reducible apply blk_set); focus (simp; done)) | ((with_reducible refine blk_off _ _ _ _ ?_ ?_); focus (simp; done)) | ((with_reducible refine blk_offc _ _ _ _ ?_ ?_); focus (first | (simp; done) | omega | (simp; omega))) | ((with_reducible refine blk_off _ _ _ _ ?_ ?_); focus (first | omega | (simp; omega))) | (with_reducible refine blk_drew _ _ ?_) | ((with_reducible refine blk_below (by assumption) ?_ ?_); focus (simp; done)) | ((with_reducible refine blk_below (by assumption) ?_ ?_); focus (first | omega | (simp; omega))))), (by repeat (first | (with_reducible assumption) | (with_reducible exact Below.refl _ _) | ((with_reducible refine bel_alloc _ ?_ ?_); focus (first | omega | (simp; done) | (simp; omega))) | ((with_reducible refine bel_row _ ?_ ?_); focus (first | omega | (simp; done) | (simp; omega))) | ((with_reducible refine bel_cell _ ?_ ?_); focus (first | omega | (simp; done) | (simp; omega))) | (with_reducible refine Below.drew ?_) | (with_reducible refine below_wideW _ ?_) | ((with_reducible refine bel_next (by assumption) ?_ ?_); focus (first | omega | (simp; done) | (simp; omega))))), by first | (simp; done) | omega | (simp; omega)⟩ (fun W ⟨b1, b2, b3, b5, b6⟩ => ?_)
              have hz3 : w.heap.size + 2 ≤ w2.heap.size := by first | omega | (simp at hz2; omega)
              obtain ⟨bn, hbn⟩ : ∃ bn, w2.heap.size = bn := ⟨_, rfl⟩
              rw [hbn] at b3 b6 hz3
              rw [hbn]
              have B1 := Lib.hid b1
              have B2 := Lib.hid b2
              have B3 := Lib.hid b3
              have B5 := Lib.hid b5
              clear b5 hb2 hc2 hf2 hTurn h1 h2 h5
              go_wp2_with (first | ((with_reducible refine at_load 28 ?_); refine wpList_load_part rfl 28 _ rfl _ 0 15 rfl _ _ _ _ (by repeat (first | (with_reducible assumption) | ((with_reducible refine blk_new _ _ _ ?_); focus (simp; done)) | ((with_reducible refine blk_old _ _ _ ?_ ?_); focus (simp; done)) | ((with_reducible refine blk_old _ _ _ ?_ ?_); focus (first | omega | (simp; omega))) | ((with_reducible apply blk_set); focus (simp; done)) | ((with_reducible refine blk_off _ _ _ _ ?_ ?_); focus (simp; done)) | ((with_reducible refine blk_offc _ _ _ _ ?_ ?_); focus (first | (simp; done) | omega | (simp; omega))) | ((with_reducible refine blk_off _ _ _ _ ?_ ?_); focus (first | omega | (simp; omega))) | (with_reducible refine blk_drew _ _ ?_) | ((with_reducible refine blk_below (by assumption) ?_ ?_); focus (simp; done)) | ((with_reducible refine blk_below (by assumption) ?_ ?_); focus (first | omega | (simp; omega))))) Try.underlying28 rfl (by kernel_rfl) (by simp [row_size]) _ (row_all [_, _, _] 12 _) ?_) | ((with_reducible refine at_store 28 ?_); refine wpList_store_part rfl 28 _ _ rfl _ 0 _ rfl rfl _ _ (by repeat (first | (with_reducible assumption) | ((with_reducible refine blk_new _ _ _ ?_); focus (simp; done)) | ((with_reducible refine blk_old _ _ _ ?_ ?_); focus (simp; done)) | ((with_reducible refine blk_old _ _ _ ?_ ?_); focus (first | omega | (simp; omega))) | ((with_reducible apply blk_set); focus (simp; done)) | ((with_reducible refine blk_off _ _ _ _ ?_ ?_); focus (simp; done)) | ((with_reducible refine blk_offc _ _ _ _ ?_ ?_); focus (first | (simp; done) | omega | (simp; omega))) | ((with_reducible refine blk_off _ _ _ _ ?_ ?_); focus (first | omega | (simp; omega))) | (with_reducible refine blk_drew _ _ ?_) | ((with_reducible refine blk_below (by assumption) ?_ ?_); focus (simp; done)) | ((with_reducible refine blk_below (by assumption) ?_ ?_); focus (first | omega | (simp; omega))))) (by rw [row_size]; kernel_rfl) (by simp [row_size]) (row_cells _ _ _ rfl) _ (row_over _ _ 12 _ _ (by simp)) ?_) | ((with_reducible refine at_load 26 ?_); refine wpList_load_part rfl 26 _ rfl _ 3 12 rfl _ _ _ _ (by repeat (first | (with_reducible assumption) | ((with_reducible refine blk_new _ _ _ ?_); focus (simp; done)) | ((with_reducible refine blk_old _ _ _ ?_ ?_); focus (simp; done)) | ((with_reducible refine blk_old _ _ _ ?_ ?_); focus (first | omega | (simp; omega))) | ((with_reducible apply blk_set); focus (simp; done)) | ((with_reducible refine blk_off _ _ _ _ ?_ ?_); focus (simp; done)) | ((with_reducible refine blk_offc _ _ _ _ ?_ ?_); focus (first | (simp; done) | omega | (simp; omega))) | ((with_reducible refine blk_off _ _ _ _ ?_ ?_); focus (first | omega | (simp; omega))) | (with_reducible refine blk_drew _ _ ?_) | ((with_reducible refine blk_below (by assumption) ?_ ?_); focus (simp; done)) | ((with_reducible refine blk_below (by assumption) ?_ ?_); focus (first | omega | (simp; omega))))) Try.underlying26 rfl (by kernel_rfl) (by simp [row_size]) _ (row_tail [_, _, _] 12 _) ?_) | go_in)
              go_loop [16, 48] (fun v i => ∃ k : Nat, k ≤ 12 ∧ i = .int .i64 k ∧ v = .float .f32 (mostK G' G k)) (fun _ i => 12 - (intOf i).toNat)
              case atStart => exact ⟨0, by omega, rfl, rfl⟩
              case round =>
                obtain ⟨k, hk, rfl, rfl⟩ := hrel
                by_cases hlk : k < 12
                · have cg : W.cell? ⟨w.heap.size, 3 + k, none⟩ = some (.float .f32 (G k)) := (cell_of_row W _ (3 + k) _ _ _ B1.out).trans (row_k3 _ _ _ _ _ hlk)
                  have ix := fun w => run_index_row (P := Try.prog) w 26 25 12 G' k hlk Try.underlying26 Try.underlying25 (by kernel_rfl)
                  have hv := step_fin (FG'.out k hlk) (FG.out k hlk)
                  have e1 := fun w => run_fsub (P := Try.prog) w 25 (film_Z (FG'.out k hlk)).1 (film_Z (FG.out k hlk)).1
                  obtain ⟨m1, m2⟩ := most_num FG'.out FG.out k (by omega)
                  have hnext : maxStep (mostK G' G k) (fsub (G' k) (G k)) = mostK G' G (k + 1) := rfl
                  obtain ⟨v, hvv⟩ : ∃ v, v = fsub (G' k) (G k) := ⟨_, rfl⟩
                  rw [← hvv] at hv e1 hnext
                  obtain ⟨M, hM⟩ : ∃ M, M = mostK G' G k := ⟨_, rfl⟩
                  rw [← hM] at hnext m1 m2 ⊢
                  have hsz := fun w => implSize_any hv w
                  have hmx := fun ts t w => run_max_step (P := Try.prog) ts t (fin_nan hv) m1 m2 w
                  have HN := Lib.hid hnext
                  have k0 : (0 : Int) ≤ k := by omega
                  have k1 : (k : Int) < 12 := by omega
                  clear hvv hM hv m1 m2 hnext
                  go_wp2_with (first | (go_at_call 39; (with_reducible refine (hsz _).mono ?_); rintro e w' ⟨rfl, rfl⟩) | go_in)
                  go_round
                  case rel => exact ⟨k + 1, by omega, by go_num, by rw [← HN.out]⟩
                  case measure => simp [intOf]; omega
                · have hkr : k = 12 := by omega
                  have hX : mostK G' G k = mostK G' G r.toNat := by rw [hkr]; exact HME.out
                  have w1 := B1.out
                  have w3 := B3.out
                  have w4 := B2.out
                  have w5 := B5.out
                  have w6 := b6
                  rw [hX]
                  obtain ⟨M, hM⟩ : ∃ M, M = mostK G' G r.toNat := ⟨_, rfl⟩
                  rw [← hM]
                  have hO2 := HO2.out
                  rw [← hM] at hO2
                  refine wp_name (fun W4 => W4.heap[w.heap.size]? = some (.cells (train r s t G) 28 (0, 0)) ∧ W4.heap[w.heap.size + 1]? = some (.cells (train 0 0 0 (fun _ => 0)) 28 (0, 0)) ∧ W4.heap[bn]? = some (.cells (train r s t G') 28 (0, 0)) ∧ Below w.heap.size w W4 ∧ bn + 1 ≤ W4.heap.size) ⟨w1, w4, w3, w5, w6⟩ (fun W4 ⟨d1, d2, d3, d5, d6⟩ => ?_)
                  have p4 : W4.cell? ⟨w.heap.size, 0, none⟩ = some (.int .i8 r) := (cell_of_row W4 _ 0 _ _ _ d1).trans (row_g0 _ _ _ _)
                  clear w1 w3 w4 w5 w6 hX
                  cases hl : leF M wi
                  · rw [hl] at hO2
                    simp only [Bool.false_eq_true, if_false] at hO2
                    have HO3 := Lib.hid hO2
                    unfold leF at hl
                    have hl2 := hl
                    rw [Bool.or_eq_false_iff] at hl2
                    obtain ⟨l1, l2⟩ := hl2
                    clear hO2 hM
                    go_wp2_with (first | ((with_reducible refine at_load 28 ?_); refine wpList_load_part rfl 28 _ rfl _ 0 15 rfl _ _ _ _ (by repeat (first | (with_reducible assumption) | ((with_reducible refine blk_new _ _ _ ?_); focus (simp; done)) | ((with_reducible refine blk_old _ _ _ ?_ ?_); focus (simp; done)) | ((with_reducible refine blk_old _ _ _ ?_ ?_); focus (first | omega | (simp; omega))) | ((with_reducible apply blk_set); focus (simp; done)) | ((with_reducible refine blk_off _ _ _ _ ?_ ?_); focus (simp; done)) | ((with_reducible refine blk_offc _ _ _ _ ?_ ?_); focus (first | (simp; done) | omega | (simp; omega))) | ((with_reducible refine blk_off _ _ _ _ ?_ ?_); focus (first | omega | (simp; omega))) | (with_reducible refine blk_drew _ _ ?_) | ((with_reducible refine blk_below (by assumption) ?_ ?_); focus (simp; done)) | ((with_reducible refine blk_below (by assumption) ?_ ?_); focus (first | omega | (simp; omega))))) Try.underlying28 rfl (by kernel_rfl) (by simp [row_size]) _ (row_all [_, _, _] 12 _) ?_) | ((with_reducible refine at_store 28 ?_); refine wpList_store_part rfl 28 _ _ rfl _ 0 _ rfl rfl _ _ (by repeat (first | (with_reducible assumption) | ((with_reducible refine blk_new _ _ _ ?_); focus (simp; done)) | ((with_reducible refine blk_old _ _ _ ?_ ?_); focus (simp; done)) | ((with_reducible refine blk_old _ _ _ ?_ ?_); focus (first | omega | (simp; omega))) | ((with_reducible apply blk_set); focus (simp; done)) | ((with_reducible refine blk_off _ _ _ _ ?_ ?_); focus (simp; done)) | ((with_reducible refine blk_offc _ _ _ _ ?_ ?_); focus (first | (simp; done) | omega | (simp; omega))) | ((with_reducible refine blk_off _ _ _ _ ?_ ?_); focus (first | omega | (simp; omega))) | (with_reducible refine blk_drew _ _ ?_) | ((with_reducible refine blk_below (by assumption) ?_ ?_); focus (simp; done)) | ((with_reducible refine blk_below (by assumption) ?_ ?_); focus (first | omega | (simp; omega))))) (by rw [row_size]; kernel_rfl) (by simp [row_size]) (row_cells _ _ _ rfl) _ (row_over _ _ 12 _ _ (by simp)) ?_) | ((with_reducible refine at_load 26 ?_); refine wpList_load_part rfl 26 _ rfl _ 3 12 rfl _ _ _ _ (by repeat (first | (with_reducible assumption) | ((with_reducible refine blk_new _ _ _ ?_); focus (simp; done)) | ((with_reducible refine blk_old _ _ _ ?_ ?_); focus (simp; done)) | ((with_reducible refine blk_old _ _ _ ?_ ?_); focus (first | omega | (simp; omega))) | ((with_reducible apply blk_set); focus (simp; done)) | ((with_reducible refine blk_off _ _ _ _ ?_ ?_); focus (simp; done)) | ((with_reducible refine blk_offc _ _ _ _ ?_ ?_); focus (first | (simp; done) | omega | (simp; omega))) | ((with_reducible refine blk_off _ _ _ _ ?_ ?_); focus (first | omega | (simp; omega))) | (with_reducible refine blk_drew _ _ ?_) | ((with_reducible refine blk_below (by assumption) ?_ ?_); focus (simp; done)) | ((with_reducible refine blk_below (by assumption) ?_ ?_); focus (first | omega | (simp; omega))))) Try.underlying26 rfl (by kernel_rfl) (by simp [row_size]) _ (row_tail [_, _, _] 12 _) ?_) | go_in)
                    go_roundw
                    case rel => exact ⟨j + 1, by omega, by go_num, by rw [show 2000 - (j + 1) = f' by omega]; exact HO3.out, by rw [HG'.out]; exact HGO.out, by rw [HG'.out]; exact (by repeat (first | (with_reducible assumption) | ((with_reducible refine blk_new _ _ _ ?_); focus (simp; done)) | ((with_reducible refine blk_old _ _ _ ?_ ?_); focus (simp; done)) | ((with_reducible refine blk_old _ _ _ ?_ ?_); focus (first | omega | (simp; omega))) | ((with_reducible apply blk_set); focus (simp; done)) | ((with_reducible refine blk_off _ _ _ _ ?_ ?_); focus (simp; done)) | ((with_reducible refine blk_offc _ _ _ _ ?_ ?_); focus (first | (simp; done) | omega | (simp; omega))) | ((with_reducible refine blk_off _ _ _ _ ?_ ?_); focus (first | omega | (simp; omega))) | (with_reducible refine blk_drew _ _ ?_) | ((with_reducible refine blk_below (by assumption) ?_ ?_); focus (simp; done)) | ((with_reducible refine blk_below (by assumption) ?_ ?_); focus (first | omega | (simp; omega))))), (by repeat (first | (with_reducible assumption) | ((with_reducible refine blk_new _ _ _ ?_); focus (simp; done)) | ((with_reducible refine blk_old _ _ _ ?_ ?_); focus (simp; done)) | ((with_reducible refine blk_old _ _ _ ?_ ?_); focus (first | omega | (simp; omega))) | ((with_reducible apply blk_set); focus (simp; done)) | ((with_reducible refine blk_off _ _ _ _ ?_ ?_); focus (simp; done)) | ((with_reducible refine blk_offc _ _ _ _ ?_ ?_); focus (first | (simp; done) | omega | (simp; omega))) | ((with_reducible refine blk_off _ _ _ _ ?_ ?_); focus (first | omega | (simp; omega))) | (with_reducible refine blk_drew _ _ ?_) | ((with_reducible refine blk_below (by assumption) ?_ ?_); focus (simp; done)) | ((with_reducible refine blk_below (by assumption) ?_ ?_); focus (first | omega | (simp; omega))))), (by repeat (first | (with_reducible assumption) | (with_reducible exact Below.refl _ _) | ((with_reducible refine bel_alloc _ ?_ ?_); focus (first | omega | (simp; done) | (simp; omega))) | ((with_reducible refine bel_row _ ?_ ?_); focus (first | omega | (simp; done) | (simp; omega))) | ((with_reducible refine bel_cell _ ?_ ?_); focus (first | omega | (simp; done) | (simp; omega))) | (with_reducible refine Below.drew ?_) | (with_reducible refine below_wideW _ ?_) | ((with_reducible refine bel_next (by assumption) ?_ ?_); focus (first | omega | (simp; done) | (simp; omega))))), by first | (simp; done) | omega | (simp; omega)⟩
                    case measure => simp [intOf]; omega
                  · rw [hl] at hO2
                    simp only [if_true] at hO2
                    subst hO2
                    unfold leF at hl
                    clear hM
                    go_wp2_with (first | ((with_reducible refine at_load 28 ?_); refine wpList_load_part rfl 28 _ rfl _ 0 15 rfl _ _ _ _ (by repeat (first | (with_reducible assumption) | ((with_reducible refine blk_new _ _ _ ?_); focus (simp; done)) | ((with_reducible refine blk_old _ _ _ ?_ ?_); focus (simp; done)) | ((with_reducible refine blk_old _ _ _ ?_ ?_); focus (first | omega | (simp; omega))) | ((with_reducible apply blk_set); focus (simp; done)) | ((with_reducible refine blk_off _ _ _ _ ?_ ?_); focus (simp; done)) | ((with_reducible refine blk_offc _ _ _ _ ?_ ?_); focus (first | (simp; done) | omega | (simp; omega))) | ((with_reducible refine blk_off _ _ _ _ ?_ ?_); focus (first | omega | (simp; omega))) | (with_reducible refine blk_drew _ _ ?_) | ((with_reducible refine blk_below (by assumption) ?_ ?_); focus (simp; done)) | ((with_reducible refine blk_below (by assumption) ?_ ?_); focus (first | omega | (simp; omega))))) Try.underlying28 rfl (by kernel_rfl) (by simp [row_size]) _ (row_all [_, _, _] 12 _) ?_) | ((with_reducible refine at_store 28 ?_); refine wpList_store_part rfl 28 _ _ rfl _ 0 _ rfl rfl _ _ (by repeat (first | (with_reducible assumption) | ((with_reducible refine blk_new _ _ _ ?_); focus (simp; done)) | ((with_reducible refine blk_old _ _ _ ?_ ?_); focus (simp; done)) | ((with_reducible refine blk_old _ _ _ ?_ ?_); focus (first | omega | (simp; omega))) | ((with_reducible apply blk_set); focus (simp; done)) | ((with_reducible refine blk_off _ _ _ _ ?_ ?_); focus (simp; done)) | ((with_reducible refine blk_offc _ _ _ _ ?_ ?_); focus (first | (simp; done) | omega | (simp; omega))) | ((with_reducible refine blk_off _ _ _ _ ?_ ?_); focus (first | omega | (simp; omega))) | (with_reducible refine blk_drew _ _ ?_) | ((with_reducible refine blk_below (by assumption) ?_ ?_); focus (simp; done)) | ((with_reducible refine blk_below (by assumption) ?_ ?_); focus (first | omega | (simp; omega))))) (by rw [row_size]; kernel_rfl) (by simp [row_size]) (row_cells _ _ _ rfl) _ (row_over _ _ 12 _ _ (by simp)) ?_) | ((with_reducible refine at_load 26 ?_); refine wpList_load_part rfl 26 _ rfl _ 3 12 rfl _ _ _ _ (by repeat (first | (with_reducible assumption) | ((with_reducible refine blk_new _ _ _ ?_); focus (simp; done)) | ((with_reducible refine blk_old _ _ _ ?_ ?_); focus (simp; done)) | ((with_reducible refine blk_old _ _ _ ?_ ?_); focus (first | omega | (simp; omega))) | ((with_reducible apply blk_set); focus (simp; done)) | ((with_reducible refine blk_off _ _ _ _ ?_ ?_); focus (simp; done)) | ((with_reducible refine blk_offc _ _ _ _ ?_ ?_); focus (first | (simp; done) | omega | (simp; omega))) | ((with_reducible refine blk_off _ _ _ _ ?_ ?_); focus (first | omega | (simp; omega))) | (with_reducible refine blk_drew _ _ ?_) | ((with_reducible refine blk_below (by assumption) ?_ ?_); focus (simp; done)) | ((with_reducible refine blk_below (by assumption) ?_ ?_); focus (first | omega | (simp; omega))))) Try.underlying26 rfl (by kernel_rfl) (by simp [row_size]) _ (row_tail [_, _, _] 12 _) ?_) | go_in)
                    exact bodyPost_ret (results_row_tmp2 Try.results8 _ _ _ 28 (train r s t G') (0, 0) _ (.int .i64 (↑j + 1)) (.int .i64 0) rfl rfl rfl (by repeat (first | (with_reducible assumption) | ((with_reducible refine blk_new _ _ _ ?_); focus (simp; done)) | ((with_reducible refine blk_old _ _ _ ?_ ?_); focus (simp; done)) | ((with_reducible refine blk_old _ _ _ ?_ ?_); focus (first | omega | (simp; omega))) | ((with_reducible apply blk_set); focus (simp; done)) | ((with_reducible refine blk_off _ _ _ _ ?_ ?_); focus (simp; done)) | ((with_reducible refine blk_offc _ _ _ _ ?_ ?_); focus (first | (simp; done) | omega | (simp; omega))) | ((with_reducible refine blk_off _ _ _ _ ?_ ?_); focus (first | omega | (simp; omega))) | (with_reducible refine blk_drew _ _ ?_) | ((with_reducible refine blk_below (by assumption) ?_ ?_); focus (simp; done)) | ((with_reducible refine blk_below (by assumption) ?_ ?_); focus (first | omega | (simp; omega))))) Try.underlying28 rfl (by simp only [row_size]; kernel_rfl)) rfl (by exact ⟨by have hx := HG'.out; subst hx; rfl, (by repeat (first | (with_reducible assumption) | (with_reducible exact Below.refl _ _) | ((with_reducible refine bel_alloc _ ?_ ?_); focus (first | omega | (simp; done) | (simp; omega))) | ((with_reducible refine bel_row _ ?_ ?_); focus (first | omega | (simp; done) | (simp; omega))) | ((with_reducible refine bel_cell _ ?_ ?_); focus (first | omega | (simp; done) | (simp; omega))) | (with_reducible refine Below.drew ?_) | (with_reducible refine below_wideW _ ?_) | ((with_reducible refine bel_next (by assumption) ?_ ?_); focus (first | omega | (simp; done) | (simp; omega)))))⟩)
        · obtain rfl : j = 2000 := by omega
          have hO2 : (false, 0, 7) = O := hO
          subst hO2
          clear hO
          go_wp2_with (first | ((with_reducible refine at_load 28 ?_); refine wpList_load_part rfl 28 _ rfl _ 0 15 rfl _ _ _ _ (by repeat (first | (with_reducible assumption) | ((with_reducible refine blk_new _ _ _ ?_); focus (simp; done)) | ((with_reducible refine blk_old _ _ _ ?_ ?_); focus (simp; done)) | ((with_reducible refine blk_old _ _ _ ?_ ?_); focus (first | omega | (simp; omega))) | ((with_reducible apply blk_set); focus (simp; done)) | ((with_reducible refine blk_off _ _ _ _ ?_ ?_); focus (simp; done)) | ((with_reducible refine blk_offc _ _ _ _ ?_ ?_); focus (first | (simp; done) | omega | (simp; omega))) | ((with_reducible refine blk_off _ _ _ _ ?_ ?_); focus (first | omega | (simp; omega))) | (with_reducible refine blk_drew _ _ ?_) | ((with_reducible refine blk_below (by assumption) ?_ ?_); focus (simp; done)) | ((with_reducible refine blk_below (by assumption) ?_ ?_); focus (first | omega | (simp; omega))))) Try.underlying28 rfl (by kernel_rfl) (by simp [row_size]) _ (row_all [_, _, _] 12 _) ?_) | ((with_reducible refine at_store 28 ?_); refine wpList_store_part rfl 28 _ _ rfl _ 0 _ rfl rfl _ _ (by repeat (first | (with_reducible assumption) | ((with_reducible refine blk_new _ _ _ ?_); focus (simp; done)) | ((with_reducible refine blk_old _ _ _ ?_ ?_); focus (simp; done)) | ((with_reducible refine blk_old _ _ _ ?_ ?_); focus (first | omega | (simp; omega))) | ((with_reducible apply blk_set); focus (simp; done)) | ((with_reducible refine blk_off _ _ _ _ ?_ ?_); focus (simp; done)) | ((with_reducible refine blk_offc _ _ _ _ ?_ ?_); focus (first | (simp; done) | omega | (simp; omega))) | ((with_reducible refine blk_off _ _ _ _ ?_ ?_); focus (first | omega | (simp; omega))) | (with_reducible refine blk_drew _ _ ?_) | ((with_reducible refine blk_below (by assumption) ?_ ?_); focus (simp; done)) | ((with_reducible refine blk_below (by assumption) ?_ ?_); focus (first | omega | (simp; omega))))) (by rw [row_size]; kernel_rfl) (by simp [row_size]) (row_cells _ _ _ rfl) _ (row_over _ _ 12 _ _ (by simp)) ?_) | ((with_reducible refine at_load 26 ?_); refine wpList_load_part rfl 26 _ rfl _ 3 12 rfl _ _ _ _ (by repeat (first | (with_reducible assumption) | ((with_reducible refine blk_new _ _ _ ?_); focus (simp; done)) | ((with_reducible refine blk_old _ _ _ ?_ ?_); focus (simp; done)) | ((with_reducible refine blk_old _ _ _ ?_ ?_); focus (first | omega | (simp; omega))) | ((with_reducible apply blk_set); focus (simp; done)) | ((with_reducible refine blk_off _ _ _ _ ?_ ?_); focus (simp; done)) | ((with_reducible refine blk_offc _ _ _ _ ?_ ?_); focus (first | (simp; done) | omega | (simp; omega))) | ((with_reducible refine blk_off _ _ _ _ ?_ ?_); focus (first | omega | (simp; omega))) | (with_reducible refine blk_drew _ _ ?_) | ((with_reducible refine blk_below (by assumption) ?_ ?_); focus (simp; done)) | ((with_reducible refine blk_below (by assumption) ?_ ?_); focus (first | omega | (simp; omega))))) Try.underlying26 rfl (by kernel_rfl) (by simp [row_size]) _ (row_tail [_, _, _] 12 _) ?_) | go_in)
          exact bodyPost_ret (results_row_tmp2 Try.results8 _ _ _ 28 (train 0 0 0 (fun _ => 0)) (0, 0) _ (.int .i64 0) (.int .i64 7) rfl rfl rfl (by repeat (first | (with_reducible assumption) | ((with_reducible refine blk_new _ _ _ ?_); focus (simp; done)) | ((with_reducible refine blk_old _ _ _ ?_ ?_); focus (simp; done)) | ((with_reducible refine blk_old _ _ _ ?_ ?_); focus (first | omega | (simp; omega))) | ((with_reducible apply blk_set); focus (simp; done)) | ((with_reducible refine blk_off _ _ _ _ ?_ ?_); focus (simp; done)) | ((with_reducible refine blk_offc _ _ _ _ ?_ ?_); focus (first | (simp; done) | omega | (simp; omega))) | ((with_reducible refine blk_off _ _ _ _ ?_ ?_); focus (first | omega | (simp; omega))) | (with_reducible refine blk_drew _ _ ?_) | ((with_reducible refine blk_below (by assumption) ?_ ?_); focus (simp; done)) | ((with_reducible refine blk_below (by assumption) ?_ ?_); focus (first | omega | (simp; omega))))) Try.underlying28 rfl (by simp only [row_size]; kernel_rfl)) rfl (by exact ⟨rfl, (by repeat (first | (with_reducible assumption) | (with_reducible exact Below.refl _ _) | ((with_reducible refine bel_alloc _ ?_ ?_); focus (first | omega | (simp; done) | (simp; omega))) | ((with_reducible refine bel_row _ ?_ ?_); focus (first | omega | (simp; done) | (simp; omega))) | ((with_reducible refine bel_cell _ ?_ ?_); focus (first | omega | (simp; done) | (simp; omega))) | (with_reducible refine Below.drew ?_) | (with_reducible refine below_wideW _ ?_) | ((with_reducible refine bel_next (by assumption) ?_ ?_); focus (first | omega | (simp; done) | (simp; omega)))))⟩)

end Go.Proofs.Ytiddeijhjedbbaa

/- The contract of the program's TurnTimes, and the law on it. -/
set_option linter.unusedVariables false
set_option linter.unusedSimpArgs false
namespace Go.Proofs.Ytiddeijhjedbbaa
open Go.RowKit Ieee

set_option maxRecDepth 100000 in
set_option maxHeartbeats 6400000 in
theorem implTimes_any (r : Int) (s t : Nat) (F : Nat → Nat) (fed cover : Nat) (q : Int) (w : World) (lr : -128 ≤ r) (ur : r ≤ 127) (lq : -9223372036854775808 ≤ q) (uq : q ≤ 9223372036854775807) : Calls Try.prog 12 #[.agg (train r s t F), .float .f32 fed, .float .f32 cover, .int .i64 q] w fun e w' => e = .returned (.tuple #[.agg (if tsB r s t F fed cover q then train r s t (itF r s t fed cover F q.toNat) else train 0 0 0 (fun _ => 0)), .agg #[.float .f32 (sumTo (fun _ => fed) (tsN r s t F fed cover q)), .float .f32 (sumTo (prF r s t fed cover F) (tsN r s t F fed cover q)), .float .f32 (keptT r s t F fed cover q)], .int .i64 (tsC r s t F fed cover q)]) ∧ Below w.heap.size w w' := by
  have hz : (#[Value.int IntKind.i8 0, Value.float FloatKind.f32 0, Value.float FloatKind.f32 0, Value.float FloatKind.f32 0, Value.float FloatKind.f32 0, Value.float FloatKind.f32 0, Value.float FloatKind.f32 0, Value.float FloatKind.f32 0, Value.float FloatKind.f32 0, Value.float FloatKind.f32 0, Value.float FloatKind.f32 0, Value.float FloatKind.f32 0, Value.float FloatKind.f32 0, Value.float FloatKind.f32 0, Value.float FloatKind.f32 0] : Array Value) = row [Value.int IntKind.i8 0, Value.float FloatKind.f32 0, Value.float FloatKind.f32 0] 12 (fun _ => 0) := rfl
  have hT := fun w => implTurns_any r s t F fed cover q w lr ur lq uq
  have hle : tsN r s t F fed cover q ≤ 2000 := ts_le
  unfold keptT
  cases hb : tsB r s t F fed cover q
  · obtain ⟨hne, hN⟩ := ts_no hb
    rw [hb, hN] at hT
    rw [hN]
    obtain ⟨c, hcc⟩ : ∃ c, tsC r s t F fed cover q = c := ⟨_, rfl⟩
    rw [hcc] at hT hne ⊢
    have hnb : (c != 0) = true := by simp [hne]
    clear hcc hb hN hle
    go_enter Try.func12, Try.ntmps12
    go_wp2_with (first | (go_at_call 47; (with_reducible refine (hT _).mono ?_); rintro e w2 ⟨v, rfl, hF, hb2⟩; have hz2 := hb2.size; (try simp at hz2); obtain ⟨ao, cap, rfl, hown⟩ := hF; have HOW := Lib.hid hown; clear hown) | (go_at_call 46; (with_reducible refine (specInk_any r s t G _ lr ur hok _ ?_).mono ?_); (focus (repeat (first | (with_reducible assumption) | ((with_reducible refine blk_new _ _ _ ?_); focus (simp; done)) | ((with_reducible refine blk_old _ _ _ ?_ ?_); focus (simp; done)) | ((with_reducible refine blk_old _ _ _ ?_ ?_); focus (first | omega | (simp; omega))) | ((with_reducible apply blk_set); focus (simp; done)) | ((with_reducible refine blk_off _ _ _ _ ?_ ?_); focus (simp; done)) | ((with_reducible refine blk_offc _ _ _ _ ?_ ?_); focus (first | (simp; done) | omega | (simp; omega))) | ((with_reducible refine blk_off _ _ _ _ ?_ ?_); focus (first | omega | (simp; omega))) | (with_reducible refine blk_drew _ _ ?_) | ((with_reducible refine blk_below (by assumption) ?_ ?_); focus (simp; done)) | ((with_reducible refine blk_below (by assumption) ?_ ?_); focus (first | omega | (simp; omega)))))); rintro e w' ⟨rfl, rfl⟩) | ((with_reducible refine at_load 28 ?_); refine wpList_load_part rfl 28 _ rfl _ 0 15 rfl _ _ _ _ (by repeat (first | (with_reducible assumption) | ((with_reducible refine blk_new _ _ _ ?_); focus (simp; done)) | ((with_reducible refine blk_old _ _ _ ?_ ?_); focus (simp; done)) | ((with_reducible refine blk_old _ _ _ ?_ ?_); focus (first | omega | (simp; omega))) | ((with_reducible apply blk_set); focus (simp; done)) | ((with_reducible refine blk_off _ _ _ _ ?_ ?_); focus (simp; done)) | ((with_reducible refine blk_offc _ _ _ _ ?_ ?_); focus (first | (simp; done) | omega | (simp; omega))) | ((with_reducible refine blk_off _ _ _ _ ?_ ?_); focus (first | omega | (simp; omega))) | (with_reducible refine blk_drew _ _ ?_) | ((with_reducible refine blk_below (by assumption) ?_ ?_); focus (simp; done)) | ((with_reducible refine blk_below (by assumption) ?_ ?_); focus (first | omega | (simp; omega))))) Try.underlying28 rfl (by kernel_rfl) (by simp [row_size]) _ (row_all [_, _, _] 12 _) ?_) | ((with_reducible refine at_store 28 ?_); refine wpList_store_part rfl 28 _ _ rfl _ 0 _ rfl rfl _ _ (by repeat (first | (with_reducible assumption) | ((with_reducible refine blk_new _ _ _ ?_); focus (simp; done)) | ((with_reducible refine blk_old _ _ _ ?_ ?_); focus (simp; done)) | ((with_reducible refine blk_old _ _ _ ?_ ?_); focus (first | omega | (simp; omega))) | ((with_reducible apply blk_set); focus (simp; done)) | ((with_reducible refine blk_off _ _ _ _ ?_ ?_); focus (simp; done)) | ((with_reducible refine blk_offc _ _ _ _ ?_ ?_); focus (first | (simp; done) | omega | (simp; omega))) | ((with_reducible refine blk_off _ _ _ _ ?_ ?_); focus (first | omega | (simp; omega))) | (with_reducible refine blk_drew _ _ ?_) | ((with_reducible refine blk_below (by assumption) ?_ ?_); focus (simp; done)) | ((with_reducible refine blk_below (by assumption) ?_ ?_); focus (first | omega | (simp; omega))))) (by rw [row_size]; kernel_rfl) (by simp [row_size]) (row_cells _ _ _ rfl) _ (row_over _ _ 12 _ _ (by simp)) ?_) | ((with_reducible refine at_load 35 ?_); refine wpList_load_part rfl 35 _ rfl _ 0 3 rfl _ _ _ _ (by repeat (first | (with_reducible assumption) | ((with_reducible refine blk_new _ _ _ ?_); focus (simp; done)) | ((with_reducible refine blk_old _ _ _ ?_ ?_); focus (simp; done)) | ((with_reducible refine blk_old _ _ _ ?_ ?_); focus (first | omega | (simp; omega))) | ((with_reducible apply blk_set); focus (simp; done)) | ((with_reducible refine blk_off _ _ _ _ ?_ ?_); focus (simp; done)) | ((with_reducible refine blk_offc _ _ _ _ ?_ ?_); focus (first | (simp; done) | omega | (simp; omega))) | ((with_reducible refine blk_off _ _ _ _ ?_ ?_); focus (first | omega | (simp; omega))) | (with_reducible refine blk_drew _ _ ?_) | ((with_reducible refine blk_below (by assumption) ?_ ?_); focus (simp; done)) | ((with_reducible refine blk_below (by assumption) ?_ ?_); focus (first | omega | (simp; omega))))) Try.underlying35 rfl (by kernel_rfl) (by simp) _ (three_all _ _ _) ?_) | ((with_reducible refine at_store 35 ?_); refine wpList_store_part rfl 35 _ _ rfl _ 0 _ rfl rfl _ _ (by repeat (first | (with_reducible assumption) | ((with_reducible refine blk_new _ _ _ ?_); focus (simp; done)) | ((with_reducible refine blk_old _ _ _ ?_ ?_); focus (simp; done)) | ((with_reducible refine blk_old _ _ _ ?_ ?_); focus (first | omega | (simp; omega))) | ((with_reducible apply blk_set); focus (simp; done)) | ((with_reducible refine blk_off _ _ _ _ ?_ ?_); focus (simp; done)) | ((with_reducible refine blk_offc _ _ _ _ ?_ ?_); focus (first | (simp; done) | omega | (simp; omega))) | ((with_reducible refine blk_off _ _ _ _ ?_ ?_); focus (first | omega | (simp; omega))) | (with_reducible refine blk_drew _ _ ?_) | ((with_reducible refine blk_below (by assumption) ?_ ?_); focus (simp; done)) | ((with_reducible refine blk_below (by assumption) ?_ ?_); focus (first | omega | (simp; omega))))) (by kernel_rfl) (by simp) (by kernel_rfl) _ (three_over _ _ _ _ _ _) ?_) | go_in)
    exact bodyPost_ret (results_rows Try.results12 _ _ _ 28 (train 0 0 0 (fun _ => 0)) (0, 0) _ _ 35 #[.float .f32 0, .float .f32 0, .float .f32 0] (0, 0) _ (.int .i64 c) rfl rfl rfl (by repeat (first | (with_reducible assumption) | ((with_reducible refine blk_new _ _ _ ?_); focus (simp; done)) | ((with_reducible refine blk_old _ _ _ ?_ ?_); focus (simp; done)) | ((with_reducible refine blk_old _ _ _ ?_ ?_); focus (first | omega | (simp; omega))) | ((with_reducible apply blk_set); focus (simp; done)) | ((with_reducible refine blk_off _ _ _ _ ?_ ?_); focus (simp; done)) | ((with_reducible refine blk_offc _ _ _ _ ?_ ?_); focus (first | (simp; done) | omega | (simp; omega))) | ((with_reducible refine blk_off _ _ _ _ ?_ ?_); focus (first | omega | (simp; omega))) | (with_reducible refine blk_drew _ _ ?_) | ((with_reducible refine blk_below (by assumption) ?_ ?_); focus (simp; done)) | ((with_reducible refine blk_below (by assumption) ?_ ?_); focus (first | omega | (simp; omega))))) (by repeat (first | (with_reducible assumption) | ((with_reducible refine blk_new _ _ _ ?_); focus (simp; done)) | ((with_reducible refine blk_old _ _ _ ?_ ?_); focus (simp; done)) | ((with_reducible refine blk_old _ _ _ ?_ ?_); focus (first | omega | (simp; omega))) | ((with_reducible apply blk_set); focus (simp; done)) | ((with_reducible refine blk_off _ _ _ _ ?_ ?_); focus (simp; done)) | ((with_reducible refine blk_offc _ _ _ _ ?_ ?_); focus (first | (simp; done) | omega | (simp; omega))) | ((with_reducible refine blk_off _ _ _ _ ?_ ?_); focus (first | omega | (simp; omega))) | (with_reducible refine blk_drew _ _ ?_) | ((with_reducible refine blk_below (by assumption) ?_ ?_); focus (simp; done)) | ((with_reducible refine blk_below (by assumption) ?_ ?_); focus (first | omega | (simp; omega))))) Try.underlying28 rfl (by simp only [row_size]; kernel_rfl) Try.underlying35 rfl (by kernel_rfl)) rfl (by exact ⟨rfl, (by repeat (first | (with_reducible assumption) | (with_reducible exact Below.refl _ _) | ((with_reducible refine bel_alloc _ ?_ ?_); focus (first | omega | (simp; done) | (simp; omega))) | ((with_reducible refine bel_row _ ?_ ?_); focus (first | omega | (simp; done) | (simp; omega))) | ((with_reducible refine bel_cell _ ?_ ?_); focus (first | omega | (simp; done) | (simp; omega))) | (with_reducible refine Below.drew ?_) | (with_reducible refine below_wideW _ ?_) | ((with_reducible refine bel_next (by assumption) ?_ ?_); focus (first | omega | (simp; done) | (simp; omega)))))⟩)
  · have hok := ts_ok hb
    have HP := Lib.hid (ts_lst (r := r) (s := s) (t := t) (F := F) (fed := fed) (cover := cover) (q := q))
    have HFD := Lib.hid (ts_fed (r := r) (s := s) (t := t) (F := F) (fed := fed) (cover := cover) (q := q))
    obtain ⟨hC, hN⟩ := ts_yes hb
    rw [hb, hC] at hT
    rw [hC]
    obtain ⟨G, hG⟩ : ∃ G, itF r s t fed cover F q.toNat = G := ⟨_, rfl⟩
    rw [hG] at hT hok ⊢
    obtain ⟨n, hn⟩ : ∃ n, tsN r s t F fed cover q = n := ⟨_, rfl⟩
    rw [hn] at hT HP HFD hle ⊢
    obtain ⟨P, hP⟩ : ∃ P, prF r s t fed cover F = P := ⟨_, rfl⟩
    rw [hP] at hT HP ⊢
    clear hb hC hN hG hn hP
    show Calls _ _ _ _ fun e w' => e = .returned (.tuple #[.agg (train r s t G), .agg #[.float .f32 (sumTo (fun _ => fed) n), .float .f32 (sumTo P n), .float .f32 (sumTo G r.toNat)], .int .i64 0]) ∧ Below w.heap.size w w'
    obtain ⟨K, hK0⟩ : ∃ K, sumTo G r.toNat = K := ⟨_, rfl⟩
    have hn0 : (0 : Int) ≤ n := by omega
    have hn2 : (n : Int) ≤ 2000 := by omega
    obtain ⟨h2, h12, _, _, hfl, _⟩ := trainB_facts hok
    have HF := Lib.hid (film_upto hfl h12)
    clear hfl
    have hsl : ∀ b w, (Instr.sliceAt 26 (.pointer (some ⟨b, 3, none⟩)) none (some (.int .i8 r)) none).run Try.prog w = .ok (.slice (some ⟨b, 3, none⟩) r.toNat 12) w := by
      intro b w
      have := run_sliceAt_h (P := Try.prog) w 26 25 12 b 3 Try.underlying26 (by kernel_rfl) .i8 r.toNat (by omega)
      rwa [show ((r.toNat : Nat) : Int) = r by omega] at this
    have HSL := Lib.hid hsl
    clear hsl hK0
    obtain ⟨i0, ih, iz0, iz1, iz2⟩ := info_parts Try.info_f32
    go_enter Try.func12, Try.ntmps12
    go_upto_region 4 with (first | (go_at_call 47; (with_reducible refine (hT _).mono ?_); rintro e w2 ⟨v, rfl, hF, hb2⟩; have hz2 := hb2.size; (try simp at hz2); obtain ⟨ao, cap, rfl, hown⟩ := hF; have HOW := Lib.hid hown; clear hown) | (go_at_call 46; (with_reducible refine (specInk_any r s t G _ lr ur hok _ ?_).mono ?_); (focus (repeat (first | (with_reducible assumption) | ((with_reducible refine blk_new _ _ _ ?_); focus (simp; done)) | ((with_reducible refine blk_old _ _ _ ?_ ?_); focus (simp; done)) | ((with_reducible refine blk_old _ _ _ ?_ ?_); focus (first | omega | (simp; omega))) | ((with_reducible apply blk_set); focus (simp; done)) | ((with_reducible refine blk_off _ _ _ _ ?_ ?_); focus (simp; done)) | ((with_reducible refine blk_offc _ _ _ _ ?_ ?_); focus (first | (simp; done) | omega | (simp; omega))) | ((with_reducible refine blk_off _ _ _ _ ?_ ?_); focus (first | omega | (simp; omega))) | (with_reducible refine blk_drew _ _ ?_) | ((with_reducible refine blk_below (by assumption) ?_ ?_); focus (simp; done)) | ((with_reducible refine blk_below (by assumption) ?_ ?_); focus (first | omega | (simp; omega)))))); rintro e w' ⟨rfl, rfl⟩) | ((with_reducible refine at_load 28 ?_); refine wpList_load_part rfl 28 _ rfl _ 0 15 rfl _ _ _ _ (by repeat (first | (with_reducible assumption) | ((with_reducible refine blk_new _ _ _ ?_); focus (simp; done)) | ((with_reducible refine blk_old _ _ _ ?_ ?_); focus (simp; done)) | ((with_reducible refine blk_old _ _ _ ?_ ?_); focus (first | omega | (simp; omega))) | ((with_reducible apply blk_set); focus (simp; done)) | ((with_reducible refine blk_off _ _ _ _ ?_ ?_); focus (simp; done)) | ((with_reducible refine blk_offc _ _ _ _ ?_ ?_); focus (first | (simp; done) | omega | (simp; omega))) | ((with_reducible refine blk_off _ _ _ _ ?_ ?_); focus (first | omega | (simp; omega))) | (with_reducible refine blk_drew _ _ ?_) | ((with_reducible refine blk_below (by assumption) ?_ ?_); focus (simp; done)) | ((with_reducible refine blk_below (by assumption) ?_ ?_); focus (first | omega | (simp; omega))))) Try.underlying28 rfl (by kernel_rfl) (by simp [row_size]) _ (row_all [_, _, _] 12 _) ?_) | ((with_reducible refine at_store 28 ?_); refine wpList_store_part rfl 28 _ _ rfl _ 0 _ rfl rfl _ _ (by repeat (first | (with_reducible assumption) | ((with_reducible refine blk_new _ _ _ ?_); focus (simp; done)) | ((with_reducible refine blk_old _ _ _ ?_ ?_); focus (simp; done)) | ((with_reducible refine blk_old _ _ _ ?_ ?_); focus (first | omega | (simp; omega))) | ((with_reducible apply blk_set); focus (simp; done)) | ((with_reducible refine blk_off _ _ _ _ ?_ ?_); focus (simp; done)) | ((with_reducible refine blk_offc _ _ _ _ ?_ ?_); focus (first | (simp; done) | omega | (simp; omega))) | ((with_reducible refine blk_off _ _ _ _ ?_ ?_); focus (first | omega | (simp; omega))) | (with_reducible refine blk_drew _ _ ?_) | ((with_reducible refine blk_below (by assumption) ?_ ?_); focus (simp; done)) | ((with_reducible refine blk_below (by assumption) ?_ ?_); focus (first | omega | (simp; omega))))) (by rw [row_size]; kernel_rfl) (by simp [row_size]) (row_cells _ _ _ rfl) _ (row_over _ _ 12 _ _ (by simp)) ?_) | ((with_reducible refine at_load 35 ?_); refine wpList_load_part rfl 35 _ rfl _ 0 3 rfl _ _ _ _ (by repeat (first | (with_reducible assumption) | ((with_reducible refine blk_new _ _ _ ?_); focus (simp; done)) | ((with_reducible refine blk_old _ _ _ ?_ ?_); focus (simp; done)) | ((with_reducible refine blk_old _ _ _ ?_ ?_); focus (first | omega | (simp; omega))) | ((with_reducible apply blk_set); focus (simp; done)) | ((with_reducible refine blk_off _ _ _ _ ?_ ?_); focus (simp; done)) | ((with_reducible refine blk_offc _ _ _ _ ?_ ?_); focus (first | (simp; done) | omega | (simp; omega))) | ((with_reducible refine blk_off _ _ _ _ ?_ ?_); focus (first | omega | (simp; omega))) | (with_reducible refine blk_drew _ _ ?_) | ((with_reducible refine blk_below (by assumption) ?_ ?_); focus (simp; done)) | ((with_reducible refine blk_below (by assumption) ?_ ?_); focus (first | omega | (simp; omega))))) Try.underlying35 rfl (by kernel_rfl) (by simp) _ (three_all _ _ _) ?_) | ((with_reducible refine at_store 35 ?_); refine wpList_store_part rfl 35 _ _ rfl _ 0 _ rfl rfl _ _ (by repeat (first | (with_reducible assumption) | ((with_reducible refine blk_new _ _ _ ?_); focus (simp; done)) | ((with_reducible refine blk_old _ _ _ ?_ ?_); focus (simp; done)) | ((with_reducible refine blk_old _ _ _ ?_ ?_); focus (first | omega | (simp; omega))) | ((with_reducible apply blk_set); focus (simp; done)) | ((with_reducible refine blk_off _ _ _ _ ?_ ?_); focus (simp; done)) | ((with_reducible refine blk_offc _ _ _ _ ?_ ?_); focus (first | (simp; done) | omega | (simp; omega))) | ((with_reducible refine blk_off _ _ _ _ ?_ ?_); focus (first | omega | (simp; omega))) | (with_reducible refine blk_drew _ _ ?_) | ((with_reducible refine blk_below (by assumption) ?_ ?_); focus (simp; done)) | ((with_reducible refine blk_below (by assumption) ?_ ?_); focus (first | omega | (simp; omega))))) (by kernel_rfl) (by simp) (by kernel_rfl) _ (three_over _ _ _ _ _ _) ?_) | go_in)
    refine wp_name (fun W => W.heap[w.heap.size + 1]? = some (.cells (train 0 0 0 (fun _ => 0)) 28 (0, 0)) ∧ W.heap[w.heap.size + 2]? = some (.cells #[.float .f32 0, .float .f32 0, .float .f32 0] 35 (0, 0)) ∧ W.heap[w2.heap.size]? = some (.cells (train r s t G) 28 (0, 0)) ∧ (∀ i, w.heap.size + 3 ≤ i → i < w2.heap.size → W.heap[i]? = w2.heap[i]?) ∧ Below w.heap.size w W ∧ w2.heap.size + 1 ≤ W.heap.size) ⟨(by repeat (first | (with_reducible assumption) | ((with_reducible refine blk_new _ _ _ ?_); focus (simp; done)) | ((with_reducible refine blk_old _ _ _ ?_ ?_); focus (simp; done)) | ((with_reducible refine blk_old _ _ _ ?_ ?_); focus (first | omega | (simp; omega))) | ((with_reducible apply blk_set); focus (simp; done)) | ((with_reducible refine blk_off _ _ _ _ ?_ ?_); focus (simp; done)) | ((with_reducible refine blk_offc _ _ _ _ ?_ ?_); focus (first | (simp; done) | omega | (simp; omega))) | ((with_reducible refine blk_off _ _ _ _ ?_ ?_); focus (first | omega | (simp; omega))) | (with_reducible refine blk_drew _ _ ?_) | ((with_reducible refine blk_below (by assumption) ?_ ?_); focus (simp; done)) | ((with_reducible refine blk_below (by assumption) ?_ ?_); focus (first | omega | (simp; omega))))), (by repeat (first | (with_reducible assumption) | ((with_reducible refine blk_new _ _ _ ?_); focus (simp; done)) | ((with_reducible refine blk_old _ _ _ ?_ ?_); focus (simp; done)) | ((with_reducible refine blk_old _ _ _ ?_ ?_); focus (first | omega | (simp; omega))) | ((with_reducible apply blk_set); focus (simp; done)) | ((with_reducible refine blk_off _ _ _ _ ?_ ?_); focus (simp; done)) | ((with_reducible refine blk_offc _ _ _ _ ?_ ?_); focus (first | (simp; done) | omega | (simp; omega))) | ((with_reducible refine blk_off _ _ _ _ ?_ ?_); focus (first | omega | (simp; omega))) | (with_reducible refine blk_drew _ _ ?_) | ((with_reducible refine blk_below (by assumption) ?_ ?_); focus (simp; done)) | ((with_reducible refine blk_below (by assumption) ?_ ?_); focus (first | omega | (simp; omega))))), (by repeat (first | (with_reducible assumption) | ((with_reducible refine blk_new _ _ _ ?_); focus (simp; done)) | ((with_reducible refine blk_old _ _ _ ?_ ?_); focus (simp; done)) | ((with_reducible refine blk_old _ _ _ ?_ ?_); focus (first | omega | (simp; omega))) | ((with_reducible apply blk_set); focus (simp; done)) | ((with_reducible refine blk_off _ _ _ _ ?_ ?_); focus (simp; done)) | ((with_reducible refine blk_offc _ _ _ _ ?_ ?_); focus (first | (simp; done) | omega | (simp; omega))) | ((with_reducible refine blk_off _ _ _ _ ?_ ?_); focus (first | omega | (simp; omega))) | (with_reducible refine blk_drew _ _ ?_) | ((with_reducible refine blk_below (by assumption) ?_ ?_); focus (simp; done)) | ((with_reducible refine blk_below (by assumption) ?_ ?_); focus (first | omega | (simp; omega))))), fun i hi1 hi2 => (by repeat (first | (with_reducible rfl) | ((with_reducible refine blk_new _ _ _ ?_); focus (simp; done)) | ((with_reducible refine blk_old _ _ _ ?_ ?_); focus (simp; done)) | ((with_reducible refine blk_old _ _ _ ?_ ?_); focus (first | omega | (simp; omega))) | ((with_reducible apply blk_set); focus (simp; done)) | ((with_reducible refine blk_off _ _ _ _ ?_ ?_); focus (simp; done)) | ((with_reducible refine blk_offc _ _ _ _ ?_ ?_); focus (first | (simp; done) | omega | (simp; omega))) | ((with_reducible refine blk_off _ _ _ _ ?_ ?_); focus (first | omega | (simp; omega))) | (with_reducible refine blk_drew _ _ ?_) | ((with_reducible refine blk_below (by assumption) ?_ ?_); focus (simp; done)) | ((with_reducible refine blk_below (by assumption) ?_ ?_); focus (first | omega | (simp; omega))))), (by repeat (first | (with_reducible assumption) | (with_reducible exact Below.refl _ _) | ((with_reducible refine bel_alloc _ ?_ ?_); focus (first | omega | (simp; done) | (simp; omega))) | ((with_reducible refine bel_row _ ?_ ?_); focus (first | omega | (simp; done) | (simp; omega))) | ((with_reducible refine bel_cell _ ?_ ?_); focus (first | omega | (simp; done) | (simp; omega))) | (with_reducible refine Below.drew ?_) | (with_reducible refine below_wideW _ ?_) | ((with_reducible refine bel_next (by assumption) ?_ ?_); focus (first | omega | (simp; done) | (simp; omega))))), by first | (simp; done) | omega | (simp; omega)⟩ (fun W ⟨b1, b2, b3, b5, b6, b7⟩ => ?_)
    have hz3 : w.heap.size + 3 ≤ w2.heap.size := by first | omega | (simp at hz2; omega)
    obtain ⟨bt, hbt⟩ : ∃ bt, w2.heap.size = bt := ⟨_, rfl⟩
    rw [hbt] at b3
    try rw [hbt]
    have B1 := Lib.hid b1
    have B2 := Lib.hid b2
    have B3 := Lib.hid b3
    have B5 := Lib.hid b5
    have B6 := Lib.hid b6
    clear b1 b2 b3 b5 b6 hb2
    go_wp2
    go_loopw [14, 32] (fun v i wr => ∃ k : Nat, k ≤ n ∧ i = .int .i64 k ∧ wr.ownsRow W.heap.size 25 1 v k (floatsV (fun _ => fed) k) ∧ Below W.heap.size W wr) (fun _ i _ => n - (intOf i).toNat)
    case atStart => exact ⟨0, by omega, rfl, own_new (by repeat (first | (with_reducible assumption) | ((with_reducible refine blk_new _ _ _ ?_); focus (simp; done)) | ((with_reducible refine blk_old _ _ _ ?_ ?_); focus (simp; done)) | ((with_reducible refine blk_old _ _ _ ?_ ?_); focus (first | omega | (simp; omega))) | ((with_reducible apply blk_set); focus (simp; done)) | ((with_reducible refine blk_off _ _ _ _ ?_ ?_); focus (simp; done)) | ((with_reducible refine blk_offc _ _ _ _ ?_ ?_); focus (first | (simp; done) | omega | (simp; omega))) | ((with_reducible refine blk_off _ _ _ _ ?_ ?_); focus (first | omega | (simp; omega))) | (with_reducible refine blk_drew _ _ ?_) | ((with_reducible refine blk_below (by assumption) ?_ ?_); focus (simp; done)) | ((with_reducible refine blk_below (by assumption) ?_ ?_); focus (first | omega | (simp; omega))))) (by first | omega | (simp; done) | (simp; omega)), (by repeat (first | (with_reducible assumption) | (with_reducible exact Below.refl _ _) | ((with_reducible refine bel_alloc _ ?_ ?_); focus (first | omega | (simp; done) | (simp; omega))) | ((with_reducible refine bel_row _ ?_ ?_); focus (first | omega | (simp; done) | (simp; omega))) | ((with_reducible refine bel_cell _ ?_ ?_); focus (first | omega | (simp; done) | (simp; omega))) | (with_reducible refine Below.drew ?_) | (with_reducible refine below_wideW _ ?_) | ((with_reducible refine bel_next (by assumption) ?_ ?_); focus (first | omega | (simp; done) | (simp; omega)))))⟩
    case round =>
      obtain ⟨k, hk, rfl, hown, h5⟩ := hrel
      by_cases hlt : k < n
      · have k0 : (0 : Int) ≤ k := by omega
        have kn : (k : Int) < n := by omega
        have hsz := h5.size
        go_wp2_with (first | (at_builtin; refine wpList_append_own _ rfl _ _ 55 rfl W.heap.size 25 i0 (.float .f32 0) 1 4 Try.underlying55 ih iz0 iz1 iz2 rfl (by decide) _ _ _ rfl (hown.alloc _) ⟨wr.heap.size, 0, none⟩ 1 1 [.float .f32 fed] rfl rfl ?c1 ?c2 ?c3 ?c4 ?c5 ?_) | go_in)
        case c1 =>
          intro j u hj
          match j, hj with
          | 0, hj => simp at hj; subst hj; simp [Addr.add]
        case c2 => intro u hu; simp at hu; subst hu; rfl
        case c3 => unfold maxLen; omega
        case c4 => omega
        case c5 => simp; omega
        intro v' w3 hown' hgrow _
        have n5 := own_below hown (by omega) (by omega) h5 hgrow
        have e1 : floatsV (fun _ => fed) k ++ [Value.float .f32 fed] = floatsV (fun _ => fed) (k + 1) := floatsV_snoc (fun _ => fed) k
        rw [e1] at hown'
        have N5 := Lib.hid n5
        have NO := Lib.hid hown'
        clear n5 hown' hown h5 hgrow e1
        go_wp2
        go_roundw
        case rel => exact ⟨k + 1, by omega, by go_num, NO.out, N5.out⟩
        case measure => simp [intOf]; omega
      · obtain rfl : k = n := by omega
        obtain ⟨ao', cap', rfl⟩ := own_form hown
        have hsz := h5.size
        have q1 : wr.heap[w.heap.size + 1]? = some (.cells (train 0 0 0 (fun _ => 0)) 28 (0, 0)) := blk_below h5 (by omega) B1.out
        have q2 : wr.heap[w.heap.size + 2]? = some (.cells #[.float .f32 0, .float .f32 0, .float .f32 0] 35 (0, 0)) := blk_below h5 (by omega) B2.out
        have q3 : wr.heap[bt]? = some (.cells (train r s t G) 28 (0, 0)) := blk_below h5 (by omega) B3.out
        have q5 : Below w.heap.size w wr := Below.trans B6.out (h5.mono (by have := B6.out.size; omega))
        have q6 : 0 < k → wr.ownsRow _ 25 1 (.slice ao k cap) k (floatsV P k) := fun h => own_carry (HOW.out h) (fun i hi1 hi2 => blk_below h5 (by omega) (B5.out i (by first | omega | (simp at hi1; omega)) hi2))
        have Q6 := Lib.hid q6
        have HOWN := Lib.hid hown
        clear h5 hown q6
        go_wp2
        refine wp_name (fun W3 => W3 = wr) rfl (fun W3 hW3 => ?_)
        subst hW3
        have hsA := sum_own (fun _ => fed) k cap' _ ao' W3.drew (by omega) HFD.out (fun _ => HOWN.out.drew)
        have hsB := sum_own P k cap _ ao W3.drew (by omega) HP.out (fun h => (Q6.out h).drew)
        have hsC := sum_lst G r.toNat bt 3 12 W3.drew (by omega) (fun i hi => lst_film (HF.out i hi)) (fun i hi => (cell_of_row _ bt (3 + i) _ _ _ (blk_drew _ _ q3)).trans (row_k3 _ _ _ _ _ (by omega)))
        refine wp_region_held_drew (S := fun w' => w'.heap[bt]? = some (.cells (train r s t G) 28 (0, 0))) (by kernel_rfl) q3 (fun hS => ?_)
        refine held_load 0 rfl rfl (by kernel_rfl) (by kernel_rfl) (by kernel_rfl) (fun _ _ _ _ h => h) 28 _ rfl bt 0 15 rfl _ _ _ _ (fun _ h => h) Try.underlying28 rfl (by kernel_rfl) (by simp [row_size]) _ (row_all [_, _, _] 12 _) hS ?_
        refine held_yield 1 rfl rfl (by kernel_rfl) (by kernel_rfl) (by kernel_rfl) (fun _ _ _ _ h => h) (.slice ao' k cap') (fun w' hw' => by (first | rfl | go_simp)) hS ?_
        refine held_yield 3 rfl rfl (by kernel_rfl) (by kernel_rfl) (by kernel_rfl) (fun _ _ _ _ h => h) (.slice ao k cap) (fun w' hw' => by (first | rfl | go_simp)) hS ?_
        refine held_yield 5 rfl rfl (by kernel_rfl) (by kernel_rfl) (by kernel_rfl) (fun _ _ _ _ h => h) (.pointer (some ⟨bt, 3, none⟩)) (fun w' hw' => by (first | rfl | go_simp)) hS ?_
        refine held_yield 6 rfl rfl (by kernel_rfl) (by kernel_rfl) (by kernel_rfl) (fun _ _ _ _ h => h) (.pointer (some ⟨bt, 0, none⟩)) (fun w' hw' => by (first | rfl | go_simp)) hS ?_
        refine held_yield 7 rfl rfl (by kernel_rfl) (by kernel_rfl) (by kernel_rfl) (fun _ _ _ _ h => h) (.int .i8 r) (fun w' hw' => by have c0 : w'.cell? ⟨bt, 0, none⟩ = some (.int .i8 r) := (cell_of_row w' bt 0 _ _ _ hw').trans (row_g0 _ _ _ _); go_simp) hS ?_
        refine held_yield 8 rfl rfl (by kernel_rfl) (by kernel_rfl) (by kernel_rfl) (fun _ _ _ _ h => h) (.slice (some ⟨bt, 3, none⟩) r.toNat 12) (fun w' hw' => by have hsl := HSL.out bt w'; go_simp) hS ?_
        refine held_call 2 (by kernel_rfl) rfl rfl 48 #[.slice ao' k cap'] (by go_simp) _ hsA hS ?_
        refine held_call 4 (by kernel_rfl) rfl rfl 48 #[.slice ao k cap] (by go_simp) _ hsB hS ?_
        refine held_call 9 (by kernel_rfl) rfl rfl 48 #[.slice (some ⟨bt, 3, none⟩) r.toNat 12] (by go_simp) _ hsC hS ?_
        refine held_yield 10 rfl rfl (by kernel_rfl) (by kernel_rfl) (by kernel_rfl) (fun _ _ _ _ h => h) (.agg #[.float .f32 (sumTo (fun _ => fed) k), .float .f32 (sumTo P k), .float .f32 (sumTo G r.toNat)]) (fun w' hw' => by (first | rfl | go_simp)) hS ?_
        refine held_store 11 (by kernel_rfl) rfl rfl 28 (.tmp 8) (.tmp 39) rfl (w.heap.size + 1) 0 (train r s t G) (by kernel_rfl) (by kernel_rfl) _ (train 0 0 0 (fun _ => 0)) (blk_drew _ _ q1) (by rw [row_size]; kernel_rfl) (by simp [row_size]) (row_cells _ _ _ rfl) _ (row_over _ _ 12 _ _ (by simp)) (by repeat (first | (with_reducible assumption) | ((with_reducible refine blk_new _ _ _ ?_); focus (simp; done)) | ((with_reducible refine blk_old _ _ _ ?_ ?_); focus (simp; done)) | ((with_reducible refine blk_old _ _ _ ?_ ?_); focus (first | omega | (simp; omega))) | ((with_reducible apply blk_set); focus (simp; done)) | ((with_reducible refine blk_off _ _ _ _ ?_ ?_); focus (simp; done)) | ((with_reducible refine blk_offc _ _ _ _ ?_ ?_); focus (first | (simp; done) | omega | (simp; omega))) | ((with_reducible refine blk_off _ _ _ _ ?_ ?_); focus (first | omega | (simp; omega))) | (with_reducible refine blk_drew _ _ ?_) | ((with_reducible refine blk_below (by assumption) ?_ ?_); focus (simp; done)) | ((with_reducible refine blk_below (by assumption) ?_ ?_); focus (first | omega | (simp; omega))))) ?_
        refine held_store 12 (by kernel_rfl) rfl rfl 35 (.tmp 9) (.tmp 49) rfl (w.heap.size + 2) 0 #[.float .f32 (sumTo (fun _ => fed) k), .float .f32 (sumTo P k), .float .f32 (sumTo G r.toNat)] (by kernel_rfl) (by kernel_rfl) _ #[.float .f32 0, .float .f32 0, .float .f32 0] (by repeat (first | (with_reducible assumption) | ((with_reducible refine blk_new _ _ _ ?_); focus (simp; done)) | ((with_reducible refine blk_old _ _ _ ?_ ?_); focus (simp; done)) | ((with_reducible refine blk_old _ _ _ ?_ ?_); focus (first | omega | (simp; omega))) | ((with_reducible apply blk_set); focus (simp; done)) | ((with_reducible refine blk_off _ _ _ _ ?_ ?_); focus (simp; done)) | ((with_reducible refine blk_offc _ _ _ _ ?_ ?_); focus (first | (simp; done) | omega | (simp; omega))) | ((with_reducible refine blk_off _ _ _ _ ?_ ?_); focus (first | omega | (simp; omega))) | (with_reducible refine blk_drew _ _ ?_) | ((with_reducible refine blk_below (by assumption) ?_ ?_); focus (simp; done)) | ((with_reducible refine blk_below (by assumption) ?_ ?_); focus (first | omega | (simp; omega))))) (by kernel_rfl) (by simp) (by kernel_rfl) _ (three_over _ _ _ _ _ _) (by repeat (first | (with_reducible assumption) | ((with_reducible refine blk_new _ _ _ ?_); focus (simp; done)) | ((with_reducible refine blk_old _ _ _ ?_ ?_); focus (simp; done)) | ((with_reducible refine blk_old _ _ _ ?_ ?_); focus (first | omega | (simp; omega))) | ((with_reducible apply blk_set); focus (simp; done)) | ((with_reducible refine blk_off _ _ _ _ ?_ ?_); focus (simp; done)) | ((with_reducible refine blk_offc _ _ _ _ ?_ ?_); focus (first | (simp; done) | omega | (simp; omega))) | ((with_reducible refine blk_off _ _ _ _ ?_ ?_); focus (first | omega | (simp; omega))) | (with_reducible refine blk_drew _ _ ?_) | ((with_reducible refine blk_below (by assumption) ?_ ?_); focus (simp; done)) | ((with_reducible refine blk_below (by assumption) ?_ ?_); focus (first | omega | (simp; omega))))) ?_
        refine held_yield 13 rfl rfl (by kernel_rfl) (by kernel_rfl) (by kernel_rfl) (fun _ _ _ _ h => h) (.int .i64 0) (fun _ _ => rfl) (by repeat (first | (with_reducible assumption) | ((with_reducible refine blk_new _ _ _ ?_); focus (simp; done)) | ((with_reducible refine blk_old _ _ _ ?_ ?_); focus (simp; done)) | ((with_reducible refine blk_old _ _ _ ?_ ?_); focus (first | omega | (simp; omega))) | ((with_reducible apply blk_set); focus (simp; done)) | ((with_reducible refine blk_off _ _ _ _ ?_ ?_); focus (simp; done)) | ((with_reducible refine blk_offc _ _ _ _ ?_ ?_); focus (first | (simp; done) | omega | (simp; omega))) | ((with_reducible refine blk_off _ _ _ _ ?_ ?_); focus (first | omega | (simp; omega))) | (with_reducible refine blk_drew _ _ ?_) | ((with_reducible refine blk_below (by assumption) ?_ ?_); focus (simp; done)) | ((with_reducible refine blk_below (by assumption) ?_ ?_); focus (first | omega | (simp; omega))))) ?_
        refine wpAnyH_done (by kernel_rfl) ?_ _
        go_wp2
        exact bodyPost_ret (results_rows Try.results12 _ _ (w.heap.size + 1) 28 (train r s t G) (0, 0) _ (w.heap.size + 2) 35 #[.float .f32 (sumTo (fun _ => fed) k), .float .f32 (sumTo P k), .float .f32 (sumTo G r.toNat)] (0, 0) _ (.int .i64 0) (by kernel_rfl) (by kernel_rfl) (by kernel_rfl) (by repeat (first | (with_reducible assumption) | ((with_reducible refine blk_new _ _ _ ?_); focus (simp; done)) | ((with_reducible refine blk_old _ _ _ ?_ ?_); focus (simp; done)) | ((with_reducible refine blk_old _ _ _ ?_ ?_); focus (first | omega | (simp; omega))) | ((with_reducible apply blk_set); focus (simp; done)) | ((with_reducible refine blk_off _ _ _ _ ?_ ?_); focus (simp; done)) | ((with_reducible refine blk_offc _ _ _ _ ?_ ?_); focus (first | (simp; done) | omega | (simp; omega))) | ((with_reducible refine blk_off _ _ _ _ ?_ ?_); focus (first | omega | (simp; omega))) | (with_reducible refine blk_drew _ _ ?_) | ((with_reducible refine blk_below (by assumption) ?_ ?_); focus (simp; done)) | ((with_reducible refine blk_below (by assumption) ?_ ?_); focus (first | omega | (simp; omega))))) (by repeat (first | (with_reducible assumption) | ((with_reducible refine blk_new _ _ _ ?_); focus (simp; done)) | ((with_reducible refine blk_old _ _ _ ?_ ?_); focus (simp; done)) | ((with_reducible refine blk_old _ _ _ ?_ ?_); focus (first | omega | (simp; omega))) | ((with_reducible apply blk_set); focus (simp; done)) | ((with_reducible refine blk_off _ _ _ _ ?_ ?_); focus (simp; done)) | ((with_reducible refine blk_offc _ _ _ _ ?_ ?_); focus (first | (simp; done) | omega | (simp; omega))) | ((with_reducible refine blk_off _ _ _ _ ?_ ?_); focus (first | omega | (simp; omega))) | (with_reducible refine blk_drew _ _ ?_) | ((with_reducible refine blk_below (by assumption) ?_ ?_); focus (simp; done)) | ((with_reducible refine blk_below (by assumption) ?_ ?_); focus (first | omega | (simp; omega))))) Try.underlying28 rfl (by simp only [row_size]; kernel_rfl) Try.underlying35 rfl (by kernel_rfl)) rfl (by exact ⟨rfl, (by repeat (first | (with_reducible assumption) | (with_reducible exact Below.refl _ _) | ((with_reducible refine bel_alloc _ ?_ ?_); focus (first | omega | (simp; done) | (simp; omega))) | ((with_reducible refine bel_row _ ?_ ?_); focus (first | omega | (simp; done) | (simp; omega))) | ((with_reducible refine bel_cell _ ?_ ?_); focus (first | omega | (simp; done) | (simp; omega))) | (with_reducible refine Below.drew ?_) | (with_reducible refine below_wideW _ ?_) | ((with_reducible refine bel_next (by assumption) ?_ ?_); focus (first | omega | (simp; done) | (simp; omega)))))⟩)

theorem ts_train {r : Int} {s t : Nat} {F : Nat → Nat} {fed cover : Nat} {q : Int} (h : tsB r s t F fed cover q = true) : NumT s t (itF r s t fed cover F q.toNat) := trainB_num (ts_ok h)
end Go.Proofs.Ytiddeijhjedbbaa

/- Contracts of DropRoller, the reference's and the program's, and the law on it. -/
set_option linter.unusedVariables false
set_option linter.unusedSimpArgs false
namespace Go.Proofs.Ytiddeijhjedbbaa
open Go.RowKit Ieee

def shiftF (q i : Nat) (F : Nat → Nat) : Nat → Nat := fun j => if q ≤ j ∧ j < i then F (j + 1) else F j
theorem shift_0 (q : Nat) (F : Nat → Nat) (pre : List Value) : row pre 12 (shiftF q q F) = row pre 12 F := row_congr _ _ _ (fun j _ => by
  unfold shiftF; rw [if_neg (by omega)])
theorem shift_step {q i : Nat} (h : q ≤ i) (F : Nat → Nat) (pre : List Value) : row pre 12 (upd (shiftF q i F) i (F (i + 1))) = row pre 12 (shiftF q (i + 1) F) := row_congr _ _ _ (fun j _ => by
  unfold upd shiftF
  by_cases e : j = i
  · subst e; rw [if_pos rfl, if_pos (by omega)]
  · rw [if_neg e]
    by_cases e2 : q ≤ j ∧ j < i
    · rw [if_pos e2, if_pos (by omega)]
    · rw [if_neg e2, if_neg (by omega)])
theorem shift_at (q i : Nat) (F : Nat → Nat) : shiftF q i F (i + 1) = F (i + 1) := by unfold shiftF; rw [if_neg (by omega)]
/-- The films of a train of m + 1 rollers without roller q. -/
def dropF (q m : Nat) (F : Nat → Nat) : Nat → Nat := upd (shiftF q m F) m 0
theorem put_shift {w : World} {g q i : Nat} {F : Nat → Nat} {pre : List Value} {t : TypeId} {o v : Nat} (hi : i < 12) (hq : q ≤ i) (hl : pre.length = o) (hv : v = F (i + 1)) (h : w.heap[g]? = some (.cells (row pre 12 (shiftF q i F)) t (0, 0))) :
    (w.setCell ⟨g, o + i, none⟩ (.float .f32 v)).heap[g]? = some (.cells (row pre 12 (shiftF q (i + 1) F)) t (0, 0)) := by
  subst hl; subst hv
  rw [put_row hi h, shift_step hq]
/-- A copy within a train's films. -/
theorem splice_shift (pre : List Value) {q m : Nat} (hq : q ≤ m) (hm : m < 12) (F : Nat → Nat) (o : Nat) (ho : o = pre.length + q) :
    ((row pre 12 F).toList.take o ++ (((List.range (m - q)).map (fun j => Value.float .f32 (F (q + 1 + j)))) ++ (row pre 12 F).toList.drop (o + ((List.range (m - q)).map (fun j => Value.float .f32 (F (q + 1 + j)))).length))).toArray = row pre 12 (shiftF q m F) := by
  subst ho
  apply Array.ext_getElem?
  intro j
  have hsz : (row pre 12 F).toList.length = pre.length + 12 := by rw [Array.length_toList, row_size]
  rw [List.getElem?_toArray]
  by_cases h1 : j < pre.length + q
  · rw [List.getElem?_append_left (by simp [hsz]; omega), List.getElem?_take, if_pos h1, Array.getElem?_toList]
    by_cases hp : j < pre.length
    · rw [row_pre _ _ _ hp, row_pre _ _ _ hp]
    · obtain ⟨i, rfl⟩ : ∃ i, j = pre.length + i := ⟨j - pre.length, by omega⟩
      rw [row_get _ _ _ (by omega), row_get _ _ _ (by omega)]
      unfold shiftF; rw [if_neg (by omega)]
  · obtain ⟨i, rfl⟩ : ∃ i, j = pre.length + i := ⟨j - pre.length, by omega⟩
    rw [List.getElem?_append_right (by simp [hsz]; omega)]
    have ht : ((row pre 12 F).toList.take (pre.length + q)).length = pre.length + q := by simp [hsz]; omega
    rw [ht]
    by_cases h2 : i < m
    · rw [List.getElem?_append_left (by simp; omega), row_get _ _ _ (by omega)]
      rw [List.getElem?_map, List.getElem?_range (by omega)]
      unfold shiftF
      rw [if_pos (by omega)]
      simp
      congr 1; omega
    · rw [List.getElem?_append_right (by simp; omega)]
      simp only [List.length_map, List.length_range]
      rw [List.getElem?_drop, Array.getElem?_toList]
      rw [show pre.length + q + (m - q) + (pre.length + i - (pre.length + q) - (m - q)) = pre.length + i from by omega]
      by_cases h3 : i < 12
      · rw [row_get _ _ _ h3, row_get _ _ _ h3]
        unfold shiftF; rw [if_neg (by omega)]
      · rw [Array.getElem?_eq_none (by rw [row_size]; omega), Array.getElem?_eq_none (by rw [row_size]; omega)]
theorem run_sliceAt_end {P : Program} (w : World) (t e : TypeId) (n b o : Nat) (ht : P.underlying t = some (.array n e)) (hs : (P.info? e).map (·.size) = some 1) (kl : IntKind) : (Instr.sliceAt t (.pointer (some ⟨b, o, none⟩)) (some (.int kl n)) none none).run P w = .ok (.slice (some ⟨b, o, none⟩) 0 0) w := by
  cases hq : P.info? e with
  | none => simp [hq] at hs
  | some i =>
    have hi : i.size = 1 := by simpa [hq] using hs
    have h1 : (0 : Int) ≤ n ∧ (n : Int) ≤ n := ⟨by omega, by omega⟩
    simp [Instr.sliceAt, run_underlying ht, sizeOf, typeInfo, hq, hi, Instr.sliceBounds, Instr.sureAddr, run_sliceBound w kl n n _ h1.1 h1.2]

set_option maxRecDepth 100000 in
set_option maxHeartbeats 3200000 in
theorem implDrop_any (r : Int) (s t : Nat) (F : Nat → Nat) (q : Int) (w : World) (lr : -128 ≤ r) (ur : r ≤ 127) (lq : -9223372036854775808 ≤ q) (uq : q ≤ 9223372036854775807) : Calls Try.prog 21 #[.agg (train r s t F), .int .i64 q] w fun e w' => e = .returned (.tuple #[.agg (if (trainB r s t F && (decide (0 ≤ q) && decide (q < r))) && !(r == 2) then train (r - 1) s t (dropF q.toNat (r - 1).toNat F) else train 0 0 0 (fun _ => 0)), .int .i64 (if trainB r s t F then (if decide (0 ≤ q) && decide (q < r) then (if r == 2 then 4 else 0) else 2) else 1)]) ∧ Below w.heap.size w w' := by
  have hz : (#[Value.int IntKind.i8 0, Value.float FloatKind.f32 0, Value.float FloatKind.f32 0, Value.float FloatKind.f32 0, Value.float FloatKind.f32 0, Value.float FloatKind.f32 0, Value.float FloatKind.f32 0, Value.float FloatKind.f32 0, Value.float FloatKind.f32 0, Value.float FloatKind.f32 0, Value.float FloatKind.f32 0, Value.float FloatKind.f32 0, Value.float FloatKind.f32 0, Value.float FloatKind.f32 0, Value.float FloatKind.f32 0] : Array Value) = row [Value.int IntKind.i8 0, Value.float FloatKind.f32 0, Value.float FloatKind.f32 0] 12 (fun _ => 0) := rfl
  cases ho : trainB r s t F
  · go_enter Try.func21, Try.ntmps21
    go_wp2_with (first | (go_at_call 49; (with_reducible refine (implOk_any r s t F _ lr ur).mono ?_); rintro e w1 ⟨rfl, hb1⟩; have hz1 := hb1.size; (try simp at hz1); obtain ⟨hc1, hf1⟩ := bcell hb1; (try have hlta : w.heap.size < w1.heap.size := by omega); (try have hltb : w.heap.size + 1 < w1.heap.size := by omega)) | ((with_reducible refine at_load 28 ?_); refine wpList_load_part rfl 28 _ rfl _ 0 15 rfl _ _ _ _ (by repeat (first | (with_reducible assumption) | ((with_reducible refine blk_new _ _ _ ?_); focus (simp; done)) | ((with_reducible refine blk_old _ _ _ ?_ ?_); focus (simp; done)) | ((with_reducible refine blk_old _ _ _ ?_ ?_); focus (first | omega | (simp; omega))) | ((with_reducible apply blk_set); focus (simp; done)) | ((with_reducible refine blk_off _ _ _ _ ?_ ?_); focus (simp; done)) | ((with_reducible refine blk_offc _ _ _ _ ?_ ?_); focus (first | (simp; done) | omega | (simp; omega))) | ((with_reducible refine blk_off _ _ _ _ ?_ ?_); focus (first | omega | (simp; omega))) | (with_reducible refine blk_drew _ _ ?_) | ((with_reducible refine blk_below (by assumption) ?_ ?_); focus (simp; done)) | ((with_reducible refine blk_below (by assumption) ?_ ?_); focus (first | omega | (simp; omega))))) Try.underlying28 rfl (by kernel_rfl) (by simp [row_size]) _ (row_all [_, _, _] 12 _) ?_) | ((with_reducible refine at_store 28 ?_); refine wpList_store_part rfl 28 _ _ rfl _ 0 _ rfl rfl _ _ (by repeat (first | (with_reducible assumption) | ((with_reducible refine blk_new _ _ _ ?_); focus (simp; done)) | ((with_reducible refine blk_old _ _ _ ?_ ?_); focus (simp; done)) | ((with_reducible refine blk_old _ _ _ ?_ ?_); focus (first | omega | (simp; omega))) | ((with_reducible apply blk_set); focus (simp; done)) | ((with_reducible refine blk_off _ _ _ _ ?_ ?_); focus (simp; done)) | ((with_reducible refine blk_offc _ _ _ _ ?_ ?_); focus (first | (simp; done) | omega | (simp; omega))) | ((with_reducible refine blk_off _ _ _ _ ?_ ?_); focus (first | omega | (simp; omega))) | (with_reducible refine blk_drew _ _ ?_) | ((with_reducible refine blk_below (by assumption) ?_ ?_); focus (simp; done)) | ((with_reducible refine blk_below (by assumption) ?_ ?_); focus (first | omega | (simp; omega))))) (by rw [row_size]; kernel_rfl) (by simp [row_size]) (row_cells _ _ _ rfl) _ (row_over _ _ 12 _ _ (by simp)) ?_) | go_in)
    refine bodyPost_ret (v := .tuple #[.agg (train 0 0 0 (fun _ => 0)), .int .i64 1]) ?_ ?_ ?_
    · refine results_row_tmp Try.results21 _ _ _ 28 (train 0 0 0 (fun _ => 0)) (0, 0) _ _ rfl rfl ?_ Try.underlying28 rfl (by simp only [row_size]; kernel_rfl)
      exact (by repeat (first | (with_reducible assumption) | ((with_reducible refine blk_new _ _ _ ?_); focus (simp; done)) | ((with_reducible refine blk_old _ _ _ ?_ ?_); focus (simp; done)) | ((with_reducible refine blk_old _ _ _ ?_ ?_); focus (first | omega | (simp; omega))) | ((with_reducible apply blk_set); focus (simp; done)) | ((with_reducible refine blk_off _ _ _ _ ?_ ?_); focus (simp; done)) | ((with_reducible refine blk_offc _ _ _ _ ?_ ?_); focus (first | (simp; done) | omega | (simp; omega))) | ((with_reducible refine blk_off _ _ _ _ ?_ ?_); focus (first | omega | (simp; omega))) | (with_reducible refine blk_drew _ _ ?_) | ((with_reducible refine blk_below (by assumption) ?_ ?_); focus (simp; done)) | ((with_reducible refine blk_below (by assumption) ?_ ?_); focus (first | omega | (simp; omega)))))
    · rfl
    · exact ⟨rfl, (by repeat (first | (with_reducible assumption) | (with_reducible exact Below.refl _ _) | ((with_reducible refine bel_alloc _ ?_ ?_); focus (first | omega | (simp; done) | (simp; omega))) | ((with_reducible refine bel_row _ ?_ ?_); focus (first | omega | (simp; done) | (simp; omega))) | ((with_reducible refine bel_cell _ ?_ ?_); focus (first | omega | (simp; done) | (simp; omega))) | (with_reducible refine Below.drew ?_) | (with_reducible refine below_wideW _ ?_) | ((with_reducible refine bel_next (by assumption) ?_ ?_); focus (first | omega | (simp; done) | (simp; omega)))))⟩
  · obtain ⟨g2, g12, _, _, _, _⟩ := trainB_facts ho
    by_cases hq0 : 0 ≤ q
    · by_cases hqr : q < r
      · rw [show (decide (0 ≤ q) && decide (q < r)) = true from by simp [hq0, hqr]]
        by_cases hr : r = 2
        · rw [show (r == 2) = true from by simp [hr]]
          have hrb : (r == 2) = true := by simp [hr]
          clear hr
          go_enter Try.func21, Try.ntmps21
          go_wp2_with (first | (go_at_call 49; (with_reducible refine (implOk_any r s t F _ lr ur).mono ?_); rintro e w1 ⟨rfl, hb1⟩; have hz1 := hb1.size; (try simp at hz1); obtain ⟨hc1, hf1⟩ := bcell hb1; (try have hlta : w.heap.size < w1.heap.size := by omega); (try have hltb : w.heap.size + 1 < w1.heap.size := by omega)) | ((with_reducible refine at_load 28 ?_); refine wpList_load_part rfl 28 _ rfl _ 0 15 rfl _ _ _ _ (by repeat (first | (with_reducible assumption) | ((with_reducible refine blk_new _ _ _ ?_); focus (simp; done)) | ((with_reducible refine blk_old _ _ _ ?_ ?_); focus (simp; done)) | ((with_reducible refine blk_old _ _ _ ?_ ?_); focus (first | omega | (simp; omega))) | ((with_reducible apply blk_set); focus (simp; done)) | ((with_reducible refine blk_off _ _ _ _ ?_ ?_); focus (simp; done)) | ((with_reducible refine blk_offc _ _ _ _ ?_ ?_); focus (first | (simp; done) | omega | (simp; omega))) | ((with_reducible refine blk_off _ _ _ _ ?_ ?_); focus (first | omega | (simp; omega))) | (with_reducible refine blk_drew _ _ ?_) | ((with_reducible refine blk_below (by assumption) ?_ ?_); focus (simp; done)) | ((with_reducible refine blk_below (by assumption) ?_ ?_); focus (first | omega | (simp; omega))))) Try.underlying28 rfl (by kernel_rfl) (by simp [row_size]) _ (row_all [_, _, _] 12 _) ?_) | ((with_reducible refine at_store 28 ?_); refine wpList_store_part rfl 28 _ _ rfl _ 0 _ rfl rfl _ _ (by repeat (first | (with_reducible assumption) | ((with_reducible refine blk_new _ _ _ ?_); focus (simp; done)) | ((with_reducible refine blk_old _ _ _ ?_ ?_); focus (simp; done)) | ((with_reducible refine blk_old _ _ _ ?_ ?_); focus (first | omega | (simp; omega))) | ((with_reducible apply blk_set); focus (simp; done)) | ((with_reducible refine blk_off _ _ _ _ ?_ ?_); focus (simp; done)) | ((with_reducible refine blk_offc _ _ _ _ ?_ ?_); focus (first | (simp; done) | omega | (simp; omega))) | ((with_reducible refine blk_off _ _ _ _ ?_ ?_); focus (first | omega | (simp; omega))) | (with_reducible refine blk_drew _ _ ?_) | ((with_reducible refine blk_below (by assumption) ?_ ?_); focus (simp; done)) | ((with_reducible refine blk_below (by assumption) ?_ ?_); focus (first | omega | (simp; omega))))) (by rw [row_size]; kernel_rfl) (by simp [row_size]) (row_cells _ _ _ rfl) _ (row_over _ _ 12 _ _ (by simp)) ?_) | go_in)
          refine bodyPost_ret (v := .tuple #[.agg (train 0 0 0 (fun _ => 0)), .int .i64 4]) ?_ ?_ ?_
          · refine results_row_tmp Try.results21 _ _ _ 28 (train 0 0 0 (fun _ => 0)) (0, 0) _ _ rfl rfl ?_ Try.underlying28 rfl (by simp only [row_size]; kernel_rfl)
            exact (by repeat (first | (with_reducible assumption) | ((with_reducible refine blk_new _ _ _ ?_); focus (simp; done)) | ((with_reducible refine blk_old _ _ _ ?_ ?_); focus (simp; done)) | ((with_reducible refine blk_old _ _ _ ?_ ?_); focus (first | omega | (simp; omega))) | ((with_reducible apply blk_set); focus (simp; done)) | ((with_reducible refine blk_off _ _ _ _ ?_ ?_); focus (simp; done)) | ((with_reducible refine blk_offc _ _ _ _ ?_ ?_); focus (first | (simp; done) | omega | (simp; omega))) | ((with_reducible refine blk_off _ _ _ _ ?_ ?_); focus (first | omega | (simp; omega))) | (with_reducible refine blk_drew _ _ ?_) | ((with_reducible refine blk_below (by assumption) ?_ ?_); focus (simp; done)) | ((with_reducible refine blk_below (by assumption) ?_ ?_); focus (first | omega | (simp; omega)))))
          · rfl
          · exact ⟨rfl, (by repeat (first | (with_reducible assumption) | (with_reducible exact Below.refl _ _) | ((with_reducible refine bel_alloc _ ?_ ?_); focus (first | omega | (simp; done) | (simp; omega))) | ((with_reducible refine bel_row _ ?_ ?_); focus (first | omega | (simp; done) | (simp; omega))) | ((with_reducible refine bel_cell _ ?_ ?_); focus (first | omega | (simp; done) | (simp; omega))) | (with_reducible refine Below.drew ?_) | (with_reducible refine below_wideW _ ?_) | ((with_reducible refine bel_next (by assumption) ?_ ?_); focus (first | omega | (simp; done) | (simp; omega)))))⟩
        · rw [show (r == 2) = false from by simp [hr]]
          have hrb : (r == 2) = false := by simp [hr]
          obtain ⟨m, rfl⟩ : ∃ m : Nat, r = m + 1 := ⟨(r - 1).toNat, by omega⟩
          obtain ⟨p, rfl⟩ : ∃ p : Nat, q = p := ⟨q.toNat, by omega⟩
          have hpm : p ≤ m := by omega
          have hm : m < 12 := by omega
          have hm2 : 2 ≤ m := by omega
          have hwr : IntKind.i8.wrap (m : Int) = m := i8_small (by omega) (by omega)
          rw [show (m : Int) + 1 - 1 = m from by omega, show (p : Int).toNat = p from rfl, show (m : Int).toNat = m from rfl]
          have m0 : (0 : Int) ≤ m := by omega
          have p0 : (0 : Int) ≤ p := by omega
          have m12 : (m : Int) < 12 := by omega
          have pm : (p : Int) ≤ m := by omega
          have hOk : ∀ (w : World), Calls Try.prog 49 #[.agg (train ((m : Int) + 1) s t F)] w fun e w' => e = .returned (.bool true) ∧ Below w.heap.size w w' := fun w => by
            have := implOk_any ((m : Int) + 1) s t F w lr ur
            rwa [ho] at this
          have hsl1 : ∀ b w, (Instr.sliceAt 26 (.pointer (some ⟨b, 3, none⟩)) (some (.int .i64 p)) (some (.int .i8 m)) none).run Try.prog w = .ok (.slice (some ⟨b, 3 + p, none⟩) (m - p : Nat) (12 - p : Nat)) w := fun b w => run_sliceAt_lh (P := Try.prog) w 26 25 12 b 3 Try.underlying26 (by kernel_rfl) .i64 .i8 p m hpm (by omega) (by omega)
          have hwp : IntKind.i64.wrap ((p : Int) + 1) = (p : Int) + 1 := IntWalk.i64_in _ (by omega)
          have hsl2 : ∃ sp sl, (∀ b w, (Instr.sliceAt 26 (.pointer (some ⟨b, 3, none⟩)) (some (.int .i64 ((p : Int) + 1))) none none).run Try.prog w = .ok (.slice (some ⟨b, sp, none⟩) sl sl) w) ∧ (p < m → sp = 3 + (p + 1) ∧ sl = 12 - (p + 1)) := by
            by_cases h : p + 1 < 12
            · exact ⟨3 + (p + 1), 12 - (p + 1), fun b w => run_sliceAt_l (P := Try.prog) w 26 25 12 b 3 Try.underlying26 (by kernel_rfl) .i64 (p + 1) h, fun _ => ⟨rfl, rfl⟩⟩
            · obtain rfl : p = 11 := by omega
              exact ⟨3, 0, fun b w => run_sliceAt_end (P := Try.prog) w 26 25 12 b 3 Try.underlying26 (by kernel_rfl) .i64, fun h => by omega⟩
          obtain ⟨sp, sl, hsl2, hsp⟩ := hsl2
          obtain ⟨d1, hd1⟩ : ∃ d1, d1 = m - p := ⟨_, rfl⟩
          obtain ⟨d2, hd2⟩ : ∃ d2, d2 = 12 - p := ⟨_, rfl⟩
          rw [← hd1, ← hd2] at hsl1
          have HD1 := Lib.hid hd1
          have HSP := Lib.hid hsp
          clear hd1 hd2 hsp
          go_enter Try.func21, Try.ntmps21
          go_wp2_with (first | (go_at_call 49; (with_reducible refine (hOk _).mono ?_); rintro e w1 ⟨rfl, hb1⟩; have hz1 := hb1.size; (try simp at hz1); obtain ⟨hc1, hf1⟩ := bcell hb1; have hlta : w.heap.size < w1.heap.size := by omega) | ((with_reducible refine at_load 28 ?_); refine wpList_load_part rfl 28 _ rfl _ 0 15 rfl _ _ _ _ (by repeat (first | (with_reducible assumption) | ((with_reducible refine blk_new _ _ _ ?_); focus (simp; done)) | ((with_reducible refine blk_old _ _ _ ?_ ?_); focus (simp; done)) | ((with_reducible refine blk_old _ _ _ ?_ ?_); focus (first | omega | (simp; omega))) | ((with_reducible apply blk_set); focus (simp; done)) | ((with_reducible refine blk_off _ _ _ _ ?_ ?_); focus (simp; done)) | ((with_reducible refine blk_offc _ _ _ _ ?_ ?_); focus (first | (simp; done) | omega | (simp; omega))) | ((with_reducible refine blk_off _ _ _ _ ?_ ?_); focus (first | omega | (simp; omega))) | (with_reducible refine blk_drew _ _ ?_) | ((with_reducible refine blk_below (by assumption) ?_ ?_); focus (simp; done)) | ((with_reducible refine blk_below (by assumption) ?_ ?_); focus (first | omega | (simp; omega))))) Try.underlying28 rfl (by kernel_rfl) (by simp [row_size]) _ (row_all [_, _, _] 12 _) ?_) | ((with_reducible refine at_store 28 ?_); refine wpList_store_part rfl 28 _ _ rfl _ 0 _ rfl rfl _ _ (by repeat (first | (with_reducible assumption) | ((with_reducible refine blk_new _ _ _ ?_); focus (simp; done)) | ((with_reducible refine blk_old _ _ _ ?_ ?_); focus (simp; done)) | ((with_reducible refine blk_old _ _ _ ?_ ?_); focus (first | omega | (simp; omega))) | ((with_reducible apply blk_set); focus (simp; done)) | ((with_reducible refine blk_off _ _ _ _ ?_ ?_); focus (simp; done)) | ((with_reducible refine blk_offc _ _ _ _ ?_ ?_); focus (first | (simp; done) | omega | (simp; omega))) | ((with_reducible refine blk_off _ _ _ _ ?_ ?_); focus (first | omega | (simp; omega))) | (with_reducible refine blk_drew _ _ ?_) | ((with_reducible refine blk_below (by assumption) ?_ ?_); focus (simp; done)) | ((with_reducible refine blk_below (by assumption) ?_ ?_); focus (first | omega | (simp; omega))))) (by rw [row_size]; kernel_rfl) (by simp [row_size]) (row_cells _ _ _ rfl) _ (row_over _ _ 12 _ _ (by simp)) ?_) | go_in)
          have b1 : (w1.setCell ⟨w.heap.size, 0, none⟩ (.int .i8 m)).heap[w.heap.size]? = some (.cells (train m s t F) 28 (0, 0)) := put_pre (pre := tpre ((m : Int) + 1) s t) (n := 12) (G := F) (i := 0) (v := .int .i8 m) (by simp) (by repeat (first | (with_reducible assumption) | ((with_reducible refine blk_new _ _ _ ?_); focus (simp; done)) | ((with_reducible refine blk_old _ _ _ ?_ ?_); focus (simp; done)) | ((with_reducible refine blk_old _ _ _ ?_ ?_); focus (first | omega | (simp; omega))) | ((with_reducible apply blk_set); focus (simp; done)) | ((with_reducible refine blk_off _ _ _ _ ?_ ?_); focus (simp; done)) | ((with_reducible refine blk_offc _ _ _ _ ?_ ?_); focus (first | (simp; done) | omega | (simp; omega))) | ((with_reducible refine blk_off _ _ _ _ ?_ ?_); focus (first | omega | (simp; omega))) | (with_reducible refine blk_drew _ _ ?_) | ((with_reducible refine blk_below (by assumption) ?_ ?_); focus (simp; done)) | ((with_reducible refine blk_below (by assumption) ?_ ?_); focus (first | omega | (simp; omega)))))
          have b2 : (w1.setCell ⟨w.heap.size, 0, none⟩ (.int .i8 m)).heap[w.heap.size + 1]? = some (.cells (train 0 0 0 (fun _ => 0)) 28 (0, 0)) := put_off (by omega) (by repeat (first | (with_reducible assumption) | ((with_reducible refine blk_new _ _ _ ?_); focus (simp; done)) | ((with_reducible refine blk_old _ _ _ ?_ ?_); focus (simp; done)) | ((with_reducible refine blk_old _ _ _ ?_ ?_); focus (first | omega | (simp; omega))) | ((with_reducible apply blk_set); focus (simp; done)) | ((with_reducible refine blk_off _ _ _ _ ?_ ?_); focus (simp; done)) | ((with_reducible refine blk_offc _ _ _ _ ?_ ?_); focus (first | (simp; done) | omega | (simp; omega))) | ((with_reducible refine blk_off _ _ _ _ ?_ ?_); focus (first | omega | (simp; omega))) | (with_reducible refine blk_drew _ _ ?_) | ((with_reducible refine blk_below (by assumption) ?_ ?_); focus (simp; done)) | ((with_reducible refine blk_below (by assumption) ?_ ?_); focus (first | omega | (simp; omega)))))
          have b5 : Below w.heap.size w (w1.setCell ⟨w.heap.size, 0, none⟩ (.int .i8 m)) := (by repeat (first | (with_reducible assumption) | (with_reducible exact Below.refl _ _) | ((with_reducible refine bel_alloc _ ?_ ?_); focus (first | omega | (simp; done) | (simp; omega))) | ((with_reducible refine bel_row _ ?_ ?_); focus (first | omega | (simp; done) | (simp; omega))) | ((with_reducible refine bel_cell _ ?_ ?_); focus (first | omega | (simp; done) | (simp; omega))) | (with_reducible refine Below.drew ?_) | (with_reducible refine below_wideW _ ?_) | ((with_reducible refine bel_next (by assumption) ?_ ?_); focus (first | omega | (simp; done) | (simp; omega)))))
          generalize hW1 : w1.setCell ⟨w.heap.size, 0, none⟩ (.int .i8 m) = W1 at *
          have c0 : W1.cell? ⟨w.heap.size, 0, none⟩ = some (.int .i8 m) := (cell_of_row W1 _ 0 _ _ _ b1).trans (row_g0 _ _ _ _)
          have B1 := Lib.hid b1
          have B2 := Lib.hid b2
          have B5 := Lib.hid b5
          clear hW1 b1 b2 b5 hb1 hc1 hf1 hz1 hOk hlta
          go_still_tail 9, (by kernel_rfl)
          by_cases hpm' : p < m
          · obtain ⟨rfl, rfl⟩ := HSP.out hpm'
            obtain rfl := HD1.out
            refine wpList_copy_own rfl (.tmp 35) (.tmp 39) 55 55 rfl 25 Try.underlying55 (by kernel_rfl) w.heap.size (3 + p) (m - p) d2 ⟨w.heap.size, 3 + (p + 1), none⟩ (12 - (p + 1)) _ rfl rfl (train m s t F) 28 B1.out ((List.range (m - p)).map (fun j => Value.float .f32 (F (p + 1 + j)))) (by simp [Nat.min_def]; omega) (fun j v hj => ?_) (by rw [row_size]; simp; omega) (fun v hv => ?_) ?_
            · have hjl : j < m - p := by
                have := (List.getElem?_eq_some_iff.1 hj).1
                simpa using this
              rw [List.getElem?_map, List.getElem?_range hjl] at hj
              simp at hj
              subst hj
              have := (cell_of_row W1 w.heap.size (3 + (p + 1 + j)) _ _ _ B1.out).trans (row_k3 _ _ _ _ _ (by omega))
              show W1.cell? _ = _
              have hadd : (⟨w.heap.size, 3 + (p + 1), none⟩ : Addr).add j = ⟨w.heap.size, 3 + (p + 1 + j), none⟩ := by
                rw [← Nat.add_assoc 3 (p + 1) j]
                unfold Addr.add; split <;> simp_all
              rw [hadd]
              exact this
            · simp only [List.mem_map] at hv
              obtain ⟨j, _, rfl⟩ := hv
              rfl
            rw [show ((train m s t F).toList.take (3 + p) ++ (((List.range (m - p)).map (fun j => Value.float .f32 (F (p + 1 + j)))) ++ (train m s t F).toList.drop (3 + p + ((List.range (m - p)).map (fun j => Value.float .f32 (F (p + 1 + j)))).length))).toArray = train m s t (shiftF p m F) from splice_shift (tpre m s t) hpm hm F (3 + p) rfl]
            have b1 : ((W1.drewN 1).setRow w.heap.size (train m s t (shiftF p m F))).heap[w.heap.size]? = some (.cells (train m s t (shiftF p m F)) 28 (0, 0)) := blk_set _ _ _ _ _ _ _ rfl B1.out
            have b2 : ((W1.drewN 1).setRow w.heap.size (train m s t (shiftF p m F))).heap[w.heap.size + 1]? = some (.cells (train 0 0 0 (fun _ => 0)) 28 (0, 0)) := blk_off _ _ _ _ (by omega) B2.out
            have b5 : Below w.heap.size w ((W1.drewN 1).setRow w.heap.size (train m s t (shiftF p m F))) := bel_row _ (by omega) (bel_drewN 1 B5.out)
            change wpList _ _ _ _ _ ((W1.drewN 1).setRow w.heap.size (train m s t (shiftF p m F)))
            generalize hW2 : (W1.drewN 1).setRow w.heap.size (train m s t (shiftF p m F)) = W2 at *
            clear hW2 B1 B2 B5
            have d0 : W2.cell? ⟨w.heap.size, 0, none⟩ = some (.int .i8 m) := (cell_of_row W2 _ 0 _ _ _ b1).trans (row_g0 _ _ _ _)
            have co : W2.cell? ⟨w.heap.size, 3 + m, none⟩ = some (.float .f32 (shiftF p m F m)) := (cell_of_row W2 _ (3 + m) _ _ _ b1).trans (row_k3 _ _ _ _ _ (by omega))
            have ff : W2.frozen? ⟨w.heap.size, 3 + m, none⟩ = false := frozen_of_row W2 _ _ _ _ b1
            have hblk : (W2.setCell ⟨w.heap.size, 3 + m, none⟩ (.float .f32 0)).heap[w.heap.size]? = some (.cells (train m s t (dropF p m F)) 28 (0, 0)) := put_row (pre := tpre m s t) (by omega) b1
            have hzz := b5.size
            have hsz9 : w.heap.size + 1 < W2.heap.size := by
              cases hlt : decide (w.heap.size + 1 < W2.heap.size)
              · simp only [decide_eq_false_iff_not] at hlt
                rw [Array.getElem?_eq_none (by omega)] at b2
                cases b2
              · simpa using hlt
            have B2 := Lib.hid b2
            have B5 := Lib.hid b5
            clear b5 b1 b2
            have b2 := B2.out
            go_wp2_with (first | ((with_reducible refine at_load 28 ?_); refine wpList_load_part rfl 28 _ rfl _ 0 15 rfl _ _ _ _ (by repeat (first | (with_reducible assumption) | ((with_reducible refine blk_new _ _ _ ?_); focus (simp; done)) | ((with_reducible refine blk_old _ _ _ ?_ ?_); focus (simp; done)) | ((with_reducible refine blk_old _ _ _ ?_ ?_); focus (first | omega | (simp; omega))) | ((with_reducible apply blk_set); focus (simp; done)) | ((with_reducible refine blk_off _ _ _ _ ?_ ?_); focus (simp; done)) | ((with_reducible refine blk_offc _ _ _ _ ?_ ?_); focus (first | (simp; done) | omega | (simp; omega))) | ((with_reducible refine blk_off _ _ _ _ ?_ ?_); focus (first | omega | (simp; omega))) | (with_reducible refine blk_drew _ _ ?_) | ((with_reducible refine blk_below (by assumption) ?_ ?_); focus (simp; done)) | ((with_reducible refine blk_below (by assumption) ?_ ?_); focus (first | omega | (simp; omega))))) Try.underlying28 rfl (by kernel_rfl) (by simp [row_size]) _ (row_all [_, _, _] 12 _) ?_) | ((with_reducible refine at_store 28 ?_); refine wpList_store_part rfl 28 _ _ rfl _ 0 _ rfl rfl _ _ (by repeat (first | (with_reducible assumption) | ((with_reducible refine blk_new _ _ _ ?_); focus (simp; done)) | ((with_reducible refine blk_old _ _ _ ?_ ?_); focus (simp; done)) | ((with_reducible refine blk_old _ _ _ ?_ ?_); focus (first | omega | (simp; omega))) | ((with_reducible apply blk_set); focus (simp; done)) | ((with_reducible refine blk_off _ _ _ _ ?_ ?_); focus (simp; done)) | ((with_reducible refine blk_offc _ _ _ _ ?_ ?_); focus (first | (simp; done) | omega | (simp; omega))) | ((with_reducible refine blk_off _ _ _ _ ?_ ?_); focus (first | omega | (simp; omega))) | (with_reducible refine blk_drew _ _ ?_) | ((with_reducible refine blk_below (by assumption) ?_ ?_); focus (simp; done)) | ((with_reducible refine blk_below (by assumption) ?_ ?_); focus (first | omega | (simp; omega))))) (by rw [row_size]; kernel_rfl) (by simp [row_size]) (row_cells _ _ _ rfl) _ (row_over _ _ 12 _ _ (by simp)) ?_))
            have h5 := B5.out
            refine bodyPost_ret (v := .tuple #[.agg (train m s t (dropF p m F)), .int .i64 0]) ?_ ?_ ?_
            · refine results_row_tmp Try.results21 _ _ _ 28 (train m s t (dropF p m F)) (0, 0) _ _ rfl rfl ?_ Try.underlying28 rfl (by simp only [row_size]; kernel_rfl)
              exact (by repeat (first | (with_reducible assumption) | ((with_reducible refine blk_new _ _ _ ?_); focus (simp; done)) | ((with_reducible refine blk_old _ _ _ ?_ ?_); focus (simp; done)) | ((with_reducible refine blk_old _ _ _ ?_ ?_); focus (first | omega | (simp; omega))) | ((with_reducible apply blk_set); focus (simp; done)) | ((with_reducible refine blk_off _ _ _ _ ?_ ?_); focus (simp; done)) | ((with_reducible refine blk_offc _ _ _ _ ?_ ?_); focus (first | (simp; done) | omega | (simp; omega))) | ((with_reducible refine blk_off _ _ _ _ ?_ ?_); focus (first | omega | (simp; omega))) | (with_reducible refine blk_drew _ _ ?_) | ((with_reducible refine blk_below (by assumption) ?_ ?_); focus (simp; done)) | ((with_reducible refine blk_below (by assumption) ?_ ?_); focus (first | omega | (simp; omega)))))
            · rfl
            · exact ⟨rfl, (by repeat (first | (with_reducible assumption) | (with_reducible exact Below.refl _ _) | ((with_reducible refine bel_alloc _ ?_ ?_); focus (first | omega | (simp; done) | (simp; omega))) | ((with_reducible refine bel_row _ ?_ ?_); focus (first | omega | (simp; done) | (simp; omega))) | ((with_reducible refine bel_cell _ ?_ ?_); focus (first | omega | (simp; done) | (simp; omega))) | (with_reducible refine Below.drew ?_) | (with_reducible refine below_wideW _ ?_) | ((with_reducible refine bel_next (by assumption) ?_ ?_); focus (first | omega | (simp; done) | (simp; omega)))))⟩
          · obtain rfl : p = m := by omega
            obtain rfl := HD1.out
            refine wpList_copy_nothing rfl (.tmp 35) (.tmp 39) 55 55 rfl 25 Try.underlying55 (by kernel_rfl) _ _ (p - p) d2 sl sl rfl rfl (by simp) ?_
            have b1 : (W1.drewN 1).heap[w.heap.size]? = some (.cells (train p s t (shiftF p p F)) 28 (0, 0)) := by
              rw [show train p s t (shiftF p p F) = train p s t F from shift_0 _ _ _]
              exact B1.out
            have b2 : (W1.drewN 1).heap[w.heap.size + 1]? = some (.cells (train 0 0 0 (fun _ => 0)) 28 (0, 0)) := B2.out
            have b5 : Below w.heap.size w (W1.drewN 1) := bel_drewN 1 B5.out
            change wpList _ _ _ _ _ (W1.drewN 1)
            generalize hW2 : W1.drewN 1 = W2 at *
            clear hW2 B1 B2 B5
            have d0 : W2.cell? ⟨w.heap.size, 0, none⟩ = some (.int .i8 p) := (cell_of_row W2 _ 0 _ _ _ b1).trans (row_g0 _ _ _ _)
            have co : W2.cell? ⟨w.heap.size, 3 + p, none⟩ = some (.float .f32 (shiftF p p F p)) := (cell_of_row W2 _ (3 + p) _ _ _ b1).trans (row_k3 _ _ _ _ _ (by omega))
            have ff : W2.frozen? ⟨w.heap.size, 3 + p, none⟩ = false := frozen_of_row W2 _ _ _ _ b1
            have hblk : (W2.setCell ⟨w.heap.size, 3 + p, none⟩ (.float .f32 0)).heap[w.heap.size]? = some (.cells (train p s t (dropF p p F)) 28 (0, 0)) := put_row (pre := tpre p s t) (by omega) b1
            have hzz := b5.size
            have hsz9 : w.heap.size + 1 < W2.heap.size := by
              cases hlt : decide (w.heap.size + 1 < W2.heap.size)
              · simp only [decide_eq_false_iff_not] at hlt
                rw [Array.getElem?_eq_none (by omega)] at b2
                cases b2
              · simpa using hlt
            have B2 := Lib.hid b2
            have B5 := Lib.hid b5
            clear b5 b1 b2
            have b2 := B2.out
            go_wp2_with (first | ((with_reducible refine at_load 28 ?_); refine wpList_load_part rfl 28 _ rfl _ 0 15 rfl _ _ _ _ (by repeat (first | (with_reducible assumption) | ((with_reducible refine blk_new _ _ _ ?_); focus (simp; done)) | ((with_reducible refine blk_old _ _ _ ?_ ?_); focus (simp; done)) | ((with_reducible refine blk_old _ _ _ ?_ ?_); focus (first | omega | (simp; omega))) | ((with_reducible apply blk_set); focus (simp; done)) | ((with_reducible refine blk_off _ _ _ _ ?_ ?_); focus (simp; done)) | ((with_reducible refine blk_offc _ _ _ _ ?_ ?_); focus (first | (simp; done) | omega | (simp; omega))) | ((with_reducible refine blk_off _ _ _ _ ?_ ?_); focus (first | omega | (simp; omega))) | (with_reducible refine blk_drew _ _ ?_) | ((with_reducible refine blk_below (by assumption) ?_ ?_); focus (simp; done)) | ((with_reducible refine blk_below (by assumption) ?_ ?_); focus (first | omega | (simp; omega))))) Try.underlying28 rfl (by kernel_rfl) (by simp [row_size]) _ (row_all [_, _, _] 12 _) ?_) | ((with_reducible refine at_store 28 ?_); refine wpList_store_part rfl 28 _ _ rfl _ 0 _ rfl rfl _ _ (by repeat (first | (with_reducible assumption) | ((with_reducible refine blk_new _ _ _ ?_); focus (simp; done)) | ((with_reducible refine blk_old _ _ _ ?_ ?_); focus (simp; done)) | ((with_reducible refine blk_old _ _ _ ?_ ?_); focus (first | omega | (simp; omega))) | ((with_reducible apply blk_set); focus (simp; done)) | ((with_reducible refine blk_off _ _ _ _ ?_ ?_); focus (simp; done)) | ((with_reducible refine blk_offc _ _ _ _ ?_ ?_); focus (first | (simp; done) | omega | (simp; omega))) | ((with_reducible refine blk_off _ _ _ _ ?_ ?_); focus (first | omega | (simp; omega))) | (with_reducible refine blk_drew _ _ ?_) | ((with_reducible refine blk_below (by assumption) ?_ ?_); focus (simp; done)) | ((with_reducible refine blk_below (by assumption) ?_ ?_); focus (first | omega | (simp; omega))))) (by rw [row_size]; kernel_rfl) (by simp [row_size]) (row_cells _ _ _ rfl) _ (row_over _ _ 12 _ _ (by simp)) ?_))
            have h5 := B5.out
            refine bodyPost_ret (v := .tuple #[.agg (train p s t (dropF p p F)), .int .i64 0]) ?_ ?_ ?_
            · refine results_row_tmp Try.results21 _ _ _ 28 (train p s t (dropF p p F)) (0, 0) _ _ rfl rfl ?_ Try.underlying28 rfl (by simp only [row_size]; kernel_rfl)
              exact (by repeat (first | (with_reducible assumption) | ((with_reducible refine blk_new _ _ _ ?_); focus (simp; done)) | ((with_reducible refine blk_old _ _ _ ?_ ?_); focus (simp; done)) | ((with_reducible refine blk_old _ _ _ ?_ ?_); focus (first | omega | (simp; omega))) | ((with_reducible apply blk_set); focus (simp; done)) | ((with_reducible refine blk_off _ _ _ _ ?_ ?_); focus (simp; done)) | ((with_reducible refine blk_offc _ _ _ _ ?_ ?_); focus (first | (simp; done) | omega | (simp; omega))) | ((with_reducible refine blk_off _ _ _ _ ?_ ?_); focus (first | omega | (simp; omega))) | (with_reducible refine blk_drew _ _ ?_) | ((with_reducible refine blk_below (by assumption) ?_ ?_); focus (simp; done)) | ((with_reducible refine blk_below (by assumption) ?_ ?_); focus (first | omega | (simp; omega)))))
            · rfl
            · exact ⟨rfl, (by repeat (first | (with_reducible assumption) | (with_reducible exact Below.refl _ _) | ((with_reducible refine bel_alloc _ ?_ ?_); focus (first | omega | (simp; done) | (simp; omega))) | ((with_reducible refine bel_row _ ?_ ?_); focus (first | omega | (simp; done) | (simp; omega))) | ((with_reducible refine bel_cell _ ?_ ?_); focus (first | omega | (simp; done) | (simp; omega))) | (with_reducible refine Below.drew ?_) | (with_reducible refine below_wideW _ ?_) | ((with_reducible refine bel_next (by assumption) ?_ ?_); focus (first | omega | (simp; done) | (simp; omega)))))⟩
      · rw [show (decide (0 ≤ q) && decide (q < r)) = false from by simp [hqr]]
        have hqr' : r ≤ q := by omega
        have hqb : decide (q < r) = false := by simpa using hqr
        clear hqr
        go_enter Try.func21, Try.ntmps21
        go_wp2_with (first | (go_at_call 49; (with_reducible refine (implOk_any r s t F _ lr ur).mono ?_); rintro e w1 ⟨rfl, hb1⟩; have hz1 := hb1.size; (try simp at hz1); obtain ⟨hc1, hf1⟩ := bcell hb1; (try have hlta : w.heap.size < w1.heap.size := by omega); (try have hltb : w.heap.size + 1 < w1.heap.size := by omega)) | ((with_reducible refine at_load 28 ?_); refine wpList_load_part rfl 28 _ rfl _ 0 15 rfl _ _ _ _ (by repeat (first | (with_reducible assumption) | ((with_reducible refine blk_new _ _ _ ?_); focus (simp; done)) | ((with_reducible refine blk_old _ _ _ ?_ ?_); focus (simp; done)) | ((with_reducible refine blk_old _ _ _ ?_ ?_); focus (first | omega | (simp; omega))) | ((with_reducible apply blk_set); focus (simp; done)) | ((with_reducible refine blk_off _ _ _ _ ?_ ?_); focus (simp; done)) | ((with_reducible refine blk_offc _ _ _ _ ?_ ?_); focus (first | (simp; done) | omega | (simp; omega))) | ((with_reducible refine blk_off _ _ _ _ ?_ ?_); focus (first | omega | (simp; omega))) | (with_reducible refine blk_drew _ _ ?_) | ((with_reducible refine blk_below (by assumption) ?_ ?_); focus (simp; done)) | ((with_reducible refine blk_below (by assumption) ?_ ?_); focus (first | omega | (simp; omega))))) Try.underlying28 rfl (by kernel_rfl) (by simp [row_size]) _ (row_all [_, _, _] 12 _) ?_) | ((with_reducible refine at_store 28 ?_); refine wpList_store_part rfl 28 _ _ rfl _ 0 _ rfl rfl _ _ (by repeat (first | (with_reducible assumption) | ((with_reducible refine blk_new _ _ _ ?_); focus (simp; done)) | ((with_reducible refine blk_old _ _ _ ?_ ?_); focus (simp; done)) | ((with_reducible refine blk_old _ _ _ ?_ ?_); focus (first | omega | (simp; omega))) | ((with_reducible apply blk_set); focus (simp; done)) | ((with_reducible refine blk_off _ _ _ _ ?_ ?_); focus (simp; done)) | ((with_reducible refine blk_offc _ _ _ _ ?_ ?_); focus (first | (simp; done) | omega | (simp; omega))) | ((with_reducible refine blk_off _ _ _ _ ?_ ?_); focus (first | omega | (simp; omega))) | (with_reducible refine blk_drew _ _ ?_) | ((with_reducible refine blk_below (by assumption) ?_ ?_); focus (simp; done)) | ((with_reducible refine blk_below (by assumption) ?_ ?_); focus (first | omega | (simp; omega))))) (by rw [row_size]; kernel_rfl) (by simp [row_size]) (row_cells _ _ _ rfl) _ (row_over _ _ 12 _ _ (by simp)) ?_) | go_in)
        refine bodyPost_ret (v := .tuple #[.agg (train 0 0 0 (fun _ => 0)), .int .i64 2]) ?_ ?_ ?_
        · refine results_row_tmp Try.results21 _ _ _ 28 (train 0 0 0 (fun _ => 0)) (0, 0) _ _ rfl rfl ?_ Try.underlying28 rfl (by simp only [row_size]; kernel_rfl)
          exact (by repeat (first | (with_reducible assumption) | ((with_reducible refine blk_new _ _ _ ?_); focus (simp; done)) | ((with_reducible refine blk_old _ _ _ ?_ ?_); focus (simp; done)) | ((with_reducible refine blk_old _ _ _ ?_ ?_); focus (first | omega | (simp; omega))) | ((with_reducible apply blk_set); focus (simp; done)) | ((with_reducible refine blk_off _ _ _ _ ?_ ?_); focus (simp; done)) | ((with_reducible refine blk_offc _ _ _ _ ?_ ?_); focus (first | (simp; done) | omega | (simp; omega))) | ((with_reducible refine blk_off _ _ _ _ ?_ ?_); focus (first | omega | (simp; omega))) | (with_reducible refine blk_drew _ _ ?_) | ((with_reducible refine blk_below (by assumption) ?_ ?_); focus (simp; done)) | ((with_reducible refine blk_below (by assumption) ?_ ?_); focus (first | omega | (simp; omega)))))
        · rfl
        · exact ⟨rfl, (by repeat (first | (with_reducible assumption) | (with_reducible exact Below.refl _ _) | ((with_reducible refine bel_alloc _ ?_ ?_); focus (first | omega | (simp; done) | (simp; omega))) | ((with_reducible refine bel_row _ ?_ ?_); focus (first | omega | (simp; done) | (simp; omega))) | ((with_reducible refine bel_cell _ ?_ ?_); focus (first | omega | (simp; done) | (simp; omega))) | (with_reducible refine Below.drew ?_) | (with_reducible refine below_wideW _ ?_) | ((with_reducible refine bel_next (by assumption) ?_ ?_); focus (first | omega | (simp; done) | (simp; omega)))))⟩
    · rw [show (decide (0 ≤ q) && decide (q < r)) = false from by simp [hq0]]
      have hq0' : q < 0 := by omega
      clear hq0
      go_enter Try.func21, Try.ntmps21
      go_wp2_with (first | (go_at_call 49; (with_reducible refine (implOk_any r s t F _ lr ur).mono ?_); rintro e w1 ⟨rfl, hb1⟩; have hz1 := hb1.size; (try simp at hz1); obtain ⟨hc1, hf1⟩ := bcell hb1; (try have hlta : w.heap.size < w1.heap.size := by omega); (try have hltb : w.heap.size + 1 < w1.heap.size := by omega)) | ((with_reducible refine at_load 28 ?_); refine wpList_load_part rfl 28 _ rfl _ 0 15 rfl _ _ _ _ (by repeat (first | (with_reducible assumption) | ((with_reducible refine blk_new _ _ _ ?_); focus (simp; done)) | ((with_reducible refine blk_old _ _ _ ?_ ?_); focus (simp; done)) | ((with_reducible refine blk_old _ _ _ ?_ ?_); focus (first | omega | (simp; omega))) | ((with_reducible apply blk_set); focus (simp; done)) | ((with_reducible refine blk_off _ _ _ _ ?_ ?_); focus (simp; done)) | ((with_reducible refine blk_offc _ _ _ _ ?_ ?_); focus (first | (simp; done) | omega | (simp; omega))) | ((with_reducible refine blk_off _ _ _ _ ?_ ?_); focus (first | omega | (simp; omega))) | (with_reducible refine blk_drew _ _ ?_) | ((with_reducible refine blk_below (by assumption) ?_ ?_); focus (simp; done)) | ((with_reducible refine blk_below (by assumption) ?_ ?_); focus (first | omega | (simp; omega))))) Try.underlying28 rfl (by kernel_rfl) (by simp [row_size]) _ (row_all [_, _, _] 12 _) ?_) | ((with_reducible refine at_store 28 ?_); refine wpList_store_part rfl 28 _ _ rfl _ 0 _ rfl rfl _ _ (by repeat (first | (with_reducible assumption) | ((with_reducible refine blk_new _ _ _ ?_); focus (simp; done)) | ((with_reducible refine blk_old _ _ _ ?_ ?_); focus (simp; done)) | ((with_reducible refine blk_old _ _ _ ?_ ?_); focus (first | omega | (simp; omega))) | ((with_reducible apply blk_set); focus (simp; done)) | ((with_reducible refine blk_off _ _ _ _ ?_ ?_); focus (simp; done)) | ((with_reducible refine blk_offc _ _ _ _ ?_ ?_); focus (first | (simp; done) | omega | (simp; omega))) | ((with_reducible refine blk_off _ _ _ _ ?_ ?_); focus (first | omega | (simp; omega))) | (with_reducible refine blk_drew _ _ ?_) | ((with_reducible refine blk_below (by assumption) ?_ ?_); focus (simp; done)) | ((with_reducible refine blk_below (by assumption) ?_ ?_); focus (first | omega | (simp; omega))))) (by rw [row_size]; kernel_rfl) (by simp [row_size]) (row_cells _ _ _ rfl) _ (row_over _ _ 12 _ _ (by simp)) ?_) | go_in)
      refine bodyPost_ret (v := .tuple #[.agg (train 0 0 0 (fun _ => 0)), .int .i64 2]) ?_ ?_ ?_
      · refine results_row_tmp Try.results21 _ _ _ 28 (train 0 0 0 (fun _ => 0)) (0, 0) _ _ rfl rfl ?_ Try.underlying28 rfl (by simp only [row_size]; kernel_rfl)
        exact (by repeat (first | (with_reducible assumption) | ((with_reducible refine blk_new _ _ _ ?_); focus (simp; done)) | ((with_reducible refine blk_old _ _ _ ?_ ?_); focus (simp; done)) | ((with_reducible refine blk_old _ _ _ ?_ ?_); focus (first | omega | (simp; omega))) | ((with_reducible apply blk_set); focus (simp; done)) | ((with_reducible refine blk_off _ _ _ _ ?_ ?_); focus (simp; done)) | ((with_reducible refine blk_offc _ _ _ _ ?_ ?_); focus (first | (simp; done) | omega | (simp; omega))) | ((with_reducible refine blk_off _ _ _ _ ?_ ?_); focus (first | omega | (simp; omega))) | (with_reducible refine blk_drew _ _ ?_) | ((with_reducible refine blk_below (by assumption) ?_ ?_); focus (simp; done)) | ((with_reducible refine blk_below (by assumption) ?_ ?_); focus (first | omega | (simp; omega)))))
      · rfl
      · exact ⟨rfl, (by repeat (first | (with_reducible assumption) | (with_reducible exact Below.refl _ _) | ((with_reducible refine bel_alloc _ ?_ ?_); focus (first | omega | (simp; done) | (simp; omega))) | ((with_reducible refine bel_row _ ?_ ?_); focus (first | omega | (simp; done) | (simp; omega))) | ((with_reducible refine bel_cell _ ?_ ?_); focus (first | omega | (simp; done) | (simp; omega))) | (with_reducible refine Below.drew ?_) | (with_reducible refine below_wideW _ ?_) | ((with_reducible refine bel_next (by assumption) ?_ ?_); focus (first | omega | (simp; done) | (simp; omega)))))⟩

theorem numDrop {r : Int} {s t : Nat} {F : Nat → Nat} {q : Int} (h : ((trainB r s t F && (decide (0 ≤ q) && decide (q < r))) && !(r == 2)) = true) : NumT s t (dropF q.toNat (r - 1).toNat F) := by
  simp only [Bool.and_eq_true] at h
  obtain ⟨⟨ho, _⟩, _⟩ := h
  obtain ⟨g2, g12, hs, ht, _, _⟩ := trainB_facts ho
  have hn := (trainB_num ho).2.2
  refine ⟨part_num hs, part_num ht, fun i hi => ?_⟩
  unfold dropF upd
  split
  · exact (by decide : ¬ Flt.NaN single 0)
  · unfold shiftF
    split
    · exact hn _ (by omega)
    · exact hn _ hi

end Go.Proofs.Ytiddeijhjedbbaa

/- The law on ZoneTrains. -/
set_option linter.unusedVariables false
set_option linter.unusedSimpArgs false
namespace Go.Proofs.Ytiddeijhjedbbaa
open Go.RowKit Ieee
/-- Behind a piece of a walk all older blocks are as they were. -/
def Kept (B : Nat) (w0 wr w' : World) : Prop := (∀ i, i < wr.heap.size → w'.heap[i]? = wr.heap[i]?) ∧ wr.heap.size ≤ w'.heap.size ∧ Below B w0 w'
theorem norm_act {Q : Exit → Act → World → Prop} {a a1 : Act} {w : World} (h : a = a1) (hq : Q .normal a1 w) : Q .normal a w := h ▸ hq
theorem Kept.refl {B : Nat} {w0 wr : World} (h : Below B w0 wr) : Kept B w0 wr wr := ⟨fun _ _ => rfl, Nat.le_refl _, h⟩
theorem Kept.drew {B : Nat} {w0 wr w' : World} (h : Kept B w0 wr w') : Kept B w0 wr w'.drew := ⟨h.1, h.2.1, Below.drew h.2.2⟩
theorem Kept.call {B : Nat} {w0 wr W W2 : World} (h : Kept B w0 wr W) (hB : B ≤ wr.heap.size) (hb : Below W.heap.size W W2) : Kept B w0 wr W2 :=
  ⟨fun i hi => (hb.block i (Nat.lt_of_lt_of_le hi h.2.1)).trans (h.1 i hi), Nat.le_trans h.2.1 hb.size, bel_next hb (Nat.le_trans hB h.2.1) h.2.2⟩
theorem Kept.alloc {B : Nat} {w0 wr W : World} (h : Kept B w0 wr W) (hB : B ≤ wr.heap.size) (o : Obj) : Kept B w0 wr (W.alloc o) :=
  ⟨fun i hi => blk_old _ _ _ (Nat.lt_of_lt_of_le hi h.2.1) (h.1 i hi), by have := h.2.1; simp; omega, bel_alloc o (Nat.le_trans hB h.2.1) h.2.2⟩
theorem Kept.row {B : Nat} {w0 wr W : World} (h : Kept B w0 wr W) (hB : B ≤ wr.heap.size) {g : Nat} (hg : wr.heap.size ≤ g) (cs : Array Value) : Kept B w0 wr (W.setRow g cs) :=
  ⟨fun i hi => blk_off _ _ _ _ (by omega) (h.1 i hi), by have := h.2.1; simp; omega, bel_row cs (Nat.le_trans hB hg) h.2.2⟩

end Go.Proofs.Ytiddeijhjedbbaa

/- Contracts of a source of numbers: next, pick and one; each under its own premises. -/
set_option linter.unusedVariables false
set_option linter.unusedSimpArgs false
namespace Go.Proofs.Ytiddeijhjedbbaa
open Go.RowKit Ieee

/-- A slice of bytes whose places lie below a block. -/
def BytesAt (w : World) (base : Nat) (ao : Option Addr) (n : Nat) : Prop := n ≤ maxLen ∧ (0 < n → ∃ a : Addr, ao = some a ∧ a.block < base ∧ ∀ i : Nat, i < n → ∃ x : Int, w.cell? (a.add i) = some (.int .u8 x) ∧ 0 ≤ x ∧ x < 256)
/-- A source with at most k numbers taken. -/
def Src (w : World) (b k : Nat) (ao : Option Addr) (n cap : Nat) : Prop := ∃ (p : Nat) (sd : Int), p ≤ k ∧ w.heap[b]? = some (.cells #[.slice ao n cap, .int .i64 p, .int .u64 sd] 83 (0, 0))
/-- Nothing but one block is another. -/
def Moved (b : Nat) (w w' : World) : Prop := Below b w w' ∧ (∀ i, i ≠ b → w'.heap[i]? = w.heap[i]?) ∧ w'.heap.size = w.heap.size

theorem mask_small (y : Nat) (h : y < 2 ^ 64) : Go.bits .and .u64 (y : Int) 255 = ((y % 256 : Nat) : Int) := by
  have := u64_and_nat y 255 (by omega) (by omega)
  rw [nat_mask8] at this
  exact this
theorem wrap_nat (x : Int) : ∃ y : Nat, IntKind.u64.wrap x = (y : Int) ∧ y < 2 ^ 64 := by
  have h1 : IntKind.u64.wrap x = x % 18446744073709551616 := rfl
  exact ⟨(IntKind.u64.wrap x).toNat, by rw [h1]; omega, by rw [h1]; omega⟩
theorem mask_any (z : Int) : ∃ x : Int, wrap64 (Go.bits .and .u64 (IntKind.u64.wrap z / 1099511627776) 255) = x ∧ 0 ≤ x ∧ x < 256 := by
  obtain ⟨y, hy, hl⟩ := wrap_nat z
  rw [hy, show (y : Int) / 1099511627776 = ((y / 1099511627776 : Nat) : Int) from by omega, mask_small _ (by omega)]
  refine ⟨((y / 1099511627776 % 256 : Nat) : Int), ?_, by omega, by omega⟩
  unfold wrap64
  omega
theorem src_two {b p k n cap : Nat} {ao : Option Addr} {sd : Int} {w : World} (hp : p ≤ k) (hB : w.heap[b]? = some (.cells #[.slice ao n cap, .int .i64 p, .int .u64 sd] 83 (0, 0))) (m1 m2 : Nat) (q : Int) (hq : q = (p : Int) + 1) (y : Int) :
    Src ((((w.drewN m1).setCell ⟨b, 1, none⟩ (.int .i64 q)).setCell ⟨b, 2, none⟩ (.int .u64 y)).drewN m2) b (k + 1) ao n cap ∧ Moved b w ((((w.drewN m1).setCell ⟨b, 1, none⟩ (.int .i64 q)).setCell ⟨b, 2, none⟩ (.int .u64 y)).drewN m2) := by
  subst hq
  have h0 : (w.drewN m1).heap[b]? = some (.cells #[.slice ao n cap, .int .i64 p, .int .u64 sd] 83 (0, 0)) := hB
  have h1 : ((w.drewN m1).setCell ⟨b, 1, none⟩ (.int .i64 (p + 1))).heap[b]? = some (.cells #[.slice ao n cap, .int .i64 (p + 1), .int .u64 sd] 83 (0, 0)) := by
    rw [heap_setCell_same _ b _ _ _ _ h0]; rfl
  have h2 : (((w.drewN m1).setCell ⟨b, 1, none⟩ (.int .i64 (p + 1))).setCell ⟨b, 2, none⟩ (.int .u64 y)).heap[b]? = some (.cells #[.slice ao n cap, .int .i64 (p + 1), .int .u64 y] 83 (0, 0)) := by
    rw [heap_setCell_same _ b _ _ _ _ h1]; rfl
  refine ⟨⟨p + 1, y, by omega, h2⟩, ?_, ?_, ?_⟩
  · exact bel_drewN _ (((bel_drewN m1 (Below.refl b w)).setCell (Nat.le_refl b) _).setCell (Nat.le_refl b) _)
  · intro i hi
    show (((w.drewN m1).setCell ⟨b, 1, none⟩ (.int .i64 (p + 1))).setCell ⟨b, 2, none⟩ (.int .u64 y)).heap[i]? = _
    rw [heap_setCell_other _ _ i _ hi, heap_setCell_other _ _ i _ hi]
    rfl
  · show (((w.drewN m1).setCell ⟨b, 1, none⟩ (.int .i64 (p + 1))).setCell ⟨b, 2, none⟩ (.int .u64 y)).heap.size = _
    simp
theorem next_any (b k : Nat) (ao : Option Addr) (n cap : Nat) (w : World) (hk : k < 4611686018427387904) (hs : Src w b k ao n cap) (hb : BytesAt w b ao n) :
    Calls Try.prog 65 #[.pointer (some ⟨b, 0, none⟩)] w fun e w' => ∃ x : Int, e = .returned (.int .i64 x) ∧ 0 ≤ x ∧ x < 256 ∧ Src w' b (k + 1) ao n cap ∧ Moved b w w' := by
  obtain ⟨p, sd, hp, hB⟩ := hs
  obtain ⟨hm, hy⟩ := hb
  have c0 : w.cell? ⟨b, 0, none⟩ = some (.slice ao n cap) := cell_of_row w b 0 _ _ _ hB
  have c1 : w.cell? ⟨b, 1, none⟩ = some (.int .i64 p) := cell_of_row w b 1 _ _ _ hB
  have c2 : w.cell? ⟨b, 2, none⟩ = some (.int .u64 sd) := cell_of_row w b 2 _ _ _ hB
  have f1 : w.frozen? ⟨b, 1, none⟩ = false := by simp [World.frozen?, hB]
  have f2 : w.frozen? ⟨b, 2, none⟩ = false := by simp [World.frozen?, hB]
  by_cases hlt : p < n
  · obtain ⟨a, rfl, hab, hx⟩ := hy (by omega)
    obtain ⟨x, hxc, hx0, hx9⟩ := hx p hlt
    go_enter Try.func65, Try.ntmps65
    go_wp2
    go_quiet (fail)
    go_wp2
    go_quiet (fail)
    go_wp2
    go_quiet (fail)
    go_wp2
    go_ret
    exact ⟨x, rfl, hx0, hx9, src_two hp hB _ _ _ rfl _⟩
  · go_enter Try.func65, Try.ntmps65
    go_wp2
    go_quiet (fail)
    go_wp2
    go_quiet (fail)
    go_wp2
    obtain ⟨x, hx, hx0, hx9⟩ := mask_any (IntKind.u64.wrap (IntKind.u64.wrap (sd * 6364136223846793005)) + 1442695040888963407)
    rw [hx]
    go_ret
    exact ⟨x, rfl, hx0, hx9, src_two hp hB _ _ _ rfl _⟩
theorem Src.le {w : World} {b k k' : Nat} {ao : Option Addr} {n cap : Nat} (h : Src w b k ao n cap) (hk : k ≤ k') : Src w b k' ao n cap := by
  obtain ⟨p, sd, h1, h2⟩ := h
  exact ⟨p, sd, by omega, h2⟩
theorem Moved.trans {b : Nat} {w w1 w2 : World} (h : Moved b w w1) (h2 : Moved b w1 w2) : Moved b w w2 :=
  ⟨h.1.trans h2.1, fun i hi => (h2.2.1 i hi).trans (h.2.1 i hi), h2.2.2.trans h.2.2⟩
theorem Moved.bytes {b base : Nat} {w w1 : World} {ao : Option Addr} {n : Nat} (h : Moved b w w1) (hb : BytesAt w base ao n) (hl : base ≤ b) : BytesAt w1 base ao n := by
  refine ⟨hb.1, fun hn => ?_⟩
  obtain ⟨a, ha, hlt, hx⟩ := hb.2 hn
  refine ⟨a, ha, hlt, fun i hi => ?_⟩
  obtain ⟨x, h1, h2⟩ := hx i hi
  refine ⟨x, ?_, h2⟩
  rw [h.1.cell (p := a.add i) (by rw [show (a.add i).block = a.block from by unfold Addr.add; split <;> rfl]; exact Nat.lt_of_lt_of_le hlt hl)]
  exact h1
theorem pick_any (b k : Nat) (ao : Option Addr) (n cap : Nat) (m : Int) (w : World) (h1 : 1 < m) (h9 : m < 1099511627776) (hk : k < 2305843009213693952) (hs : Src w b k ao n cap) (hb : BytesAt w b ao n) :
    Calls Try.prog 58 #[.pointer (some ⟨b, 0, none⟩), .int .i64 m] w fun e w' => ∃ x : Int, e = .returned (.int .i64 x) ∧ 0 ≤ x ∧ x < m ∧ Src w' b (k + 2) ao n cap ∧ Moved b w w' := by
  go_enter Try.func58, Try.ntmps58
  go_wp2_with (fail)
  refine (next_any b k ao n cap _ (by omega) hs hb).mono ?_
  rintro e w1 ⟨x, rfl, hx0, hx9, hs1, hm1⟩
  by_cases hc : 200 < m
  · go_wp2_with (fail)
    refine (next_any b (k + 1) ao n cap _ (by omega) hs1 (hm1.bytes hb (Nat.le_refl _))).mono ?_
    rintro e w2 ⟨y, rfl, hy0, hy9, hs2, hm2⟩
    go_wp2
    go_ret
    exact ⟨_, rfl, Int.emod_nonneg _ (by omega), Int.emod_lt_of_pos _ (by omega), hs2, hm1.trans hm2⟩
  · go_wp2
    go_ret
    exact ⟨_, rfl, Int.emod_nonneg _ (by omega), Int.emod_lt_of_pos _ (by omega), hs1.le (by omega), hm1⟩
theorem one_any (b k : Nat) (ao : Option Addr) (n cap : Nat) (m : Int) (w : World) (h1 : 1 < m) (h9 : m < 1099511627776) (hk : k < 2305843009213693952) (hs : Src w b k ao n cap) (hb : BytesAt w b ao n) :
    Calls Try.prog 59 #[.pointer (some ⟨b, 0, none⟩), .int .i64 m] w fun e w' => ∃ v : Bool, e = .returned (.bool v) ∧ Src w' b (k + 2) ao n cap ∧ Moved b w w' := by
  go_enter Try.func59, Try.ntmps59
  go_wp2_with (fail)
  refine (pick_any b k ao n cap m _ h1 h9 (by omega) hs hb).mono ?_
  rintro e w1 ⟨x, rfl, hx0, hx9, hs1, hm1⟩
  go_wp2
  go_ret
  exact ⟨_, rfl, hs1, hm1⟩
end Go.Proofs.Ytiddeijhjedbbaa

/- What is true of trains of small films, in plain arithmetic: no turn of the first two thousand makes a train that is not valid; what is steady, washed, thickest, falling, longer, mixed; each under its own premises. -/
set_option linter.unusedVariables false
set_option linter.unusedSimpArgs false
namespace Go.Proofs.Ytiddeijhjedbbaa
open Go.RowKit Ieee

/-- A film of at most eight. -/
abbrev Small (a : Nat) : Prop := Up 1090519040 a
theorem Z_eight : Z32 1090519040 = 2 ^ 152 := by decide +kernel

/-! ### numbers on a grid -/
theorem grid (q e : Nat) (hq : q < 2 ^ 24) (he : e ≤ 200) : ∃ c, Fin32 c ∧ Z32 c = ((q * 2 ^ e : Nat) : Int) := by
  have hb : q < 2 * single.binade := hq
  have hlt : q * 2 ^ e < Flt.U single single.infRung := by
    rw [Flt.single_inf]
    have h1 : q * 2 ^ e ≤ q * 2 ^ 200 := Nat.mul_le_mul_left _ (Nat.pow_le_pow_right (by decide) he)
    have h2 : q * 2 ^ 200 < 2 ^ 24 * 2 ^ 200 := Nat.mul_lt_mul_of_pos_right hq (Nat.two_pow_pos 200)
    have h3 : 2 ^ (24 + 200) ≤ 2 ^ Flt.eS := Nat.pow_le_pow_right (by decide) (by rw [Flt.eS_eq]; omega)
    rw [Nat.pow_add] at h3
    omega
  have hU := Flt.G_short single (q := q) (e := e) hb (Nat.le_of_lt hlt)
  have hG : Flt.G single (q * 2 ^ e) 0 ≤ single.infRung := by unfold Flt.G; omega
  have hne : Flt.G single (q * 2 ^ e) 0 ≠ single.infRung := fun h => by rw [h] at hU; omega
  have hs := Flt.infRung_lt' single
  refine ⟨single.word false (Flt.G single (q * 2 ^ e) 0), ?_, ?_⟩
  · show Flt.rung single _ < _
    rw [Flt.rung_word single false (by omega)]; omega
  · show Flt.Z single _ = _
    rw [Flt.Z_word single false (by omega), hU]
    rfl

/-- The greatest number that a sum of films may reach. -/
def lid : Int := 2 ^ 166
def eps : Int := 2 ^ 143
theorem add_sum {a b : Nat} (ha : Fin32 a) (hb : Fin32 b) (a0 : 0 ≤ Z32 a) (b0 : 0 ≤ Z32 b) (hl : Z32 a + Z32 b < lid) : Fin32 (fadd a b) ∧ 0 ≤ Z32 (fadd a b) ∧ Z32 (fadd a b) ≤ Z32 a + Z32 b + eps := by
  obtain ⟨z, hz⟩ : ∃ z : Nat, (z : Int) = Z32 a + Z32 b := ⟨(Z32 a + Z32 b).toNat, by omega⟩
  have hz2 : z < 2 ^ 166 := by unfold lid at hl; omega
  obtain ⟨c, c1, c2⟩ := grid (z / 2 ^ 143 + 1) 143 (by omega) (by omega)
  have hc : Z32 a + Z32 b ≤ Z32 c := by rw [c2]; omega
  have h1 := fadd_le ha hb c1 hc
  have h2 := fadd_ge ha hb (c := 0) (by decide) (by rw [Z_zero]; omega)
  rw [Z_zero] at h2
  refine ⟨fin_of (num_fadd ha hb) (by omega) (by rw [c2] at h1; omega), h2, ?_⟩
  unfold eps
  rw [c2] at h1
  omega
theorem sub_sum {a b : Nat} (ha : Fin32 a) (hb : Fin32 b) (b0 : 0 ≤ Z32 b) (hab : Z32 b ≤ Z32 a) (hl : Z32 a < lid) : Fin32 (fsub a b) ∧ 0 ≤ Z32 (fsub a b) ∧ Z32 (fsub a b) ≤ Z32 a - Z32 b + eps ∧ Z32 (fsub a b) ≤ Z32 a := by
  obtain ⟨z, hz⟩ : ∃ z : Nat, (z : Int) = Z32 a - Z32 b := ⟨(Z32 a - Z32 b).toNat, by omega⟩
  have hz2 : z < 2 ^ 166 := by unfold lid at hl; omega
  obtain ⟨c, c1, c2⟩ := grid (z / 2 ^ 143 + 1) 143 (by omega) (by omega)
  have hc : Z32 a - Z32 b ≤ Z32 c := by rw [c2]; omega
  have h1 := fsub_le ha hb c1 hc
  have h2 := fsub_ge ha hb (c := 0) (by decide) (by rw [Z_zero]; omega)
  have h3 := fsub_le ha hb ha (by omega)
  rw [Z_zero] at h2
  unfold lid at hl
  refine ⟨fin_of (num_fsub ha hb) (by omega) (by omega), h2, ?_, h3⟩
  unfold eps
  rw [c2] at h1
  omega
theorem half_sum {a b : Nat} (ha : Fin32 a) (hb : Fin32 b) (a0 : 0 ≤ Z32 a) (b0 : 0 ≤ Z32 b) (hl : Z32 a + Z32 b < lid) : Fin32 (halfF a b) ∧ 0 ≤ Z32 (halfF a b) ∧ 2 * Z32 (halfF a b) ≤ Z32 a + Z32 b + eps := by
  obtain ⟨s1, s2, _⟩ := add_sum ha hb a0 b0 hl
  obtain ⟨z, hz⟩ : ∃ z : Nat, (z : Int) = Z32 a + Z32 b := ⟨(Z32 a + Z32 b).toNat, by omega⟩
  have hz2 : z < 2 ^ 166 := by unfold lid at hl; omega
  obtain ⟨c, c1, c2⟩ := grid (z / 2 ^ 143 + 1) 142 (by omega) (by omega)
  obtain ⟨d, d1, d2⟩ := grid (z / 2 ^ 143 + 1) 143 (by omega) (by omega)
  have h1 := fadd_le ha hb d1 (by rw [d2]; omega)
  have hp : 0 < Z32 1073741824 := by rw [Z_two]; decide
  have q1 : Z32 (halfF a b) ≤ Z32 c := fdiv_le s1 two_fin s2 hp c1 (by omega) (by rw [Z_two, c2]; rw [d2] at h1; omega)
  have q0 : 0 ≤ Z32 (halfF a b) := by
    have := fdiv_ge s1 two_fin s2 hp (c := 0) (by decide) (by rw [Z_zero]; omega) (by rw [Z_zero]; omega)
    rwa [Z_zero] at this
  rw [c2] at q1
  refine ⟨fin_of (num_fdiv s1 two_fin two_ne) (by omega) (by omega), q0, ?_⟩
  unfold eps
  omega

/-! ### the sum of the films -/
def sumZ (G : Nat → Nat) : Nat → Int
  | 0 => 0
  | k + 1 => sumZ G k + Z32 (G k)
theorem sumZ_upd_off {G : Nat → Nat} {k v : Nat} : ∀ n, n ≤ k → sumZ (upd G k v) n = sumZ G n
  | 0, _ => rfl
  | n + 1, h => by
    show sumZ (upd G k v) n + Z32 (upd G k v n) = sumZ G n + Z32 (G n)
    rw [sumZ_upd_off n (by omega)]
    have : upd G k v n = G n := by unfold upd; rw [if_neg (by omega)]
    rw [this]
theorem sumZ_upd {G : Nat → Nat} {k v : Nat} : ∀ n, k < n → sumZ (upd G k v) n = sumZ G n + Z32 v - Z32 (G k)
  | 0, h => by omega
  | n + 1, h => by
    show sumZ (upd G k v) n + Z32 (upd G k v n) = sumZ G n + Z32 (G n) + Z32 v - Z32 (G k)
    by_cases e : k = n
    · subst e
      rw [sumZ_upd_off k (Nat.le_refl _)]
      have : upd G k v k = v := by simp [upd]
      rw [this]; omega
    · rw [sumZ_upd n (by omega)]
      have : upd G k v n = G n := by unfold upd; rw [if_neg (by omega)]
      rw [this]; omega
/-- Numbers without a sign. -/
def PosF (n : Nat) (G : Nat → Nat) : Prop := ∀ i, i < n → Fin32 (G i) ∧ 0 ≤ Z32 (G i)
theorem sumZ_pos {G : Nat → Nat} {m : Nat} (h : PosF m G) : ∀ n, n ≤ m → 0 ≤ sumZ G n
  | 0, _ => Int.le_refl _
  | n + 1, hn => by
    have := sumZ_pos h n (by omega)
    have := (h n (by omega)).2
    show 0 ≤ sumZ G n + Z32 (G n)
    omega
theorem sumZ_one {G : Nat → Nat} {m : Nat} (h : PosF m G) : ∀ n, n ≤ m → ∀ i, i < n → Z32 (G i) ≤ sumZ G n
  | 0, _, i, hi => by omega
  | n + 1, hn, i, hi => by
    show _ ≤ sumZ G n + Z32 (G n)
    have := sumZ_pos h n (by omega)
    have h2 := (h n (by omega)).2
    by_cases e : i = n
    · subst e; omega
    · have := sumZ_one h n (by omega) i (by omega); omega
theorem sumZ_two {G : Nat → Nat} {m : Nat} (h : PosF m G) : ∀ n, n ≤ m → ∀ i j, i < j → j < n → Z32 (G i) + Z32 (G j) ≤ sumZ G n
  | 0, _, i, j, _, hj => by omega
  | n + 1, hn, i, j, hij, hj => by
    show _ ≤ sumZ G n + Z32 (G n)
    have h2 := (h n (by omega)).2
    by_cases e : j = n
    · subst e
      have := sumZ_one h j (by omega) i hij; omega
    · have := sumZ_two h n (by omega) i j hij (by omega); omega
theorem posF_upd {n k v : Nat} {G : Nat → Nat} (h : PosF n G) (h1 : Fin32 v) (h2 : 0 ≤ Z32 v) : PosF n (upd G k v) := fun i hi => by
  unfold upd
  split
  · exact ⟨h1, h2⟩
  · exact h i hi

/-! ### turns -/
theorem mul_in {a p : Nat} (hp : partB p = true) (ha : Fin32 a) (h0 : 0 ≤ Z32 a) (hm : Z32 a < lid) : Up a (fmul p a) ∧ Up a (fmul a p) := part_up hp ha h0 (by unfold lid at hm; omega)
theorem turnK_sum {n : Nat} {s : Nat} {F : Nat → Nat} {fed : Nat} (hn : 2 ≤ n) (hs : partB s = true) (hF : PosF n F) (hf : Fin32 fed) (f0 : 0 ≤ Z32 fed) (n12 : n ≤ 12)
    (hl : sumZ F n + Z32 fed + 20 * eps < lid) : ∀ k, k + 2 ≤ n → PosF n (turnK s F fed k) ∧ sumZ (turnK s F fed k) n ≤ sumZ F n + Z32 fed + (3 + (k : Int)) * eps := by
  have e0 : 0 < eps := by decide
  intro k
  induction k with
  | zero =>
    intro _
    obtain ⟨x1, x2⟩ := hF 0 (by omega)
    obtain ⟨y1, y2⟩ := hF 1 (by omega)
    have t01 := sumZ_two hF n (Nat.le_refl _) 0 1 (by omega) (by omega)
    obtain ⟨a1, a2, a3⟩ := add_sum x1 hf x2 f0 (by omega)
    have hA : turnA F fed = fadd (F 0) fed := rfl
    rw [← hA] at a1 a2 a3
    obtain ⟨o1, o2, o3⟩ : Up (turnA F fed) (turnO s F fed) := (mul_in hs a1 a2 (by omega)).1
    obtain ⟨b1, b2, b3, _⟩ := sub_sum a1 o1 o2 o3 (by omega)
    obtain ⟨c1, c2, c3⟩ := add_sum y1 o1 y2 o2 (by omega)
    have p1 : PosF n (upd F 0 (fsub (turnA F fed) (turnO s F fed))) := posF_upd hF b1 b2
    refine ⟨posF_upd p1 c1 c2, ?_⟩
    show sumZ (upd (upd F 0 _) 1 _) n ≤ _
    rw [sumZ_upd n (by omega), sumZ_upd n (by omega)]
    have : upd F 0 (fsub (turnA F fed) (turnO s F fed)) 1 = F 1 := by simp [upd]
    rw [this]
    have : ((0 : Nat) : Int) = 0 := rfl
    rw [this]
    omega
  | succ k ih =>
    intro hk
    obtain ⟨hp, hsum⟩ := ih (by omega)
    obtain ⟨x1, x2⟩ := hp (k + 1) (by omega)
    obtain ⟨y1, y2⟩ := hp (k + 1 + 1) (by omega)
    have t01 := sumZ_two hp n (Nat.le_refl _) (k + 1) (k + 1 + 1) (by omega) (by omega)
    have hk3 : (3 + (k : Int)) * eps ≤ 20 * eps := Int.mul_le_mul_of_nonneg_right (by omega) (Int.le_of_lt e0)
    obtain ⟨h1, h2, h3⟩ := half_sum x1 y1 x2 y2 (by omega)
    have p1 : PosF n (upd (turnK s F fed k) (k + 1) (halfF (turnK s F fed k (k + 1)) (turnK s F fed k (k + 1 + 1)))) := posF_upd hp h1 h2
    refine ⟨posF_upd p1 h1 h2, ?_⟩
    show sumZ (upd (upd (turnK s F fed k) (k + 1) _) (k + 1 + 1) _) n ≤ _
    rw [sumZ_upd n (by omega), sumZ_upd n (by omega)]
    have : upd (turnK s F fed k) (k + 1) (halfF (turnK s F fed k (k + 1)) (turnK s F fed k (k + 1 + 1))) (k + 1 + 1) = turnK s F fed k (k + 1 + 1) := by simp [upd]
    rw [this]
    have hc : (3 + ((k + 1 : Nat) : Int)) * eps = (3 + (k : Int)) * eps + eps := by
      rw [show (3 + ((k + 1 : Nat) : Int)) = (3 + (k : Int)) + 1 from by omega, Int.add_mul, Int.one_mul]
    rw [hc]
    omega
theorem turnK_off {s : Nat} {F : Nat → Nat} {fed : Nat} : ∀ k i, k + 2 ≤ i → turnK s F fed k i = F i
  | 0, i, h => by
    show upd (upd F 0 _) 1 _ i = F i
    unfold upd
    rw [if_neg (by omega), if_neg (by omega)]
  | k + 1, i, h => by
    show upd (upd (turnK s F fed k) (k + 1) _) (k + 1 + 1) _ i = F i
    unfold upd
    rw [if_neg (by omega), if_neg (by omega)]
    exact turnK_off k i (by omega)
theorem turnF_sum {r : Int} {s t : Nat} {F : Nat → Nat} {fed cover : Nat} (h2 : 2 ≤ r) (h12 : r ≤ 12) (hs : partB s = true) (ht : partB t = true) (hc : partB cover = true) (hF : PosF r.toNat F) (hf : Fin32 fed) (f0 : 0 ≤ Z32 fed)
    (hl : sumZ F r.toNat + Z32 fed + 20 * eps < lid) : PosF r.toNat (turnF r s t F fed cover) ∧ sumZ (turnF r s t F fed cover) r.toNat ≤ sumZ F r.toNat + Z32 fed + 20 * eps ∧ ∀ i : Nat, r ≤ (i : Int) → turnF r s t F fed cover i = F i := by
  have e0 : 0 < eps := by decide
  obtain ⟨hp, hsum⟩ := turnK_sum (n := r.toNat) (s := s) (F := F) (fed := fed) (by omega) hs hF hf f0 (by omega) hl (r - 2).toNat (by omega)
  have hk3 : (3 + ((r - 2).toNat : Int)) * eps ≤ 20 * eps := Int.mul_le_mul_of_nonneg_right (by omega) (Int.le_of_lt e0)
  obtain ⟨x1, x2⟩ := hp (r - 1).toNat (by omega)
  have t1 := sumZ_one hp r.toNat (Nat.le_refl _) (r - 1).toNat (by omega)
  have pk := part_mul ht hc
  obtain ⟨o1, o2, o3⟩ : Up (turnE r s F fed (r - 1).toNat) (turnP r s t F fed cover) := (mul_in pk x1 x2 (by omega)).2
  obtain ⟨b1, b2, b3, b4⟩ := sub_sum (a := turnE r s F fed (r - 1).toNat) x1 o1 o2 o3 (Int.lt_of_le_of_lt t1 (by omega))
  refine ⟨posF_upd hp b1 b2, ?_, ?_⟩
  · show sumZ (upd (turnE r s F fed) (r - 1).toNat _) r.toNat ≤ _
    rw [sumZ_upd _ (by omega)]
    have : sumZ (turnE r s F fed) r.toNat = sumZ (turnK s F fed (r - 2).toNat) r.toNat := rfl
    rw [this]
    omega
  · intro i hi
    show upd (turnE r s F fed) (r - 1).toNat _ i = F i
    unfold upd
    rw [if_neg (by omega)]
    exact turnK_off _ i (by omega)
theorem cellsB_yes {r : Int} {F : Nat → Nat} : ∀ n, (∀ i, i < n → cellB r F i = true) → cellsB r F n = true
  | 0, _ => rfl
  | n + 1, h => by
    show (cellsB r F n && cellB r F n) = true
    rw [cellsB_yes n (fun i hi => h i (by omega)), h n (by omega)]
    rfl
theorem trainB_of {r : Int} {s t : Nat} {F : Nat → Nat} (h1 : 2 ≤ r) (h2 : r ≤ 12) (hs : partB s = true) (ht : partB t = true) (hF : PosF r.toNat F) (hl : sumZ F r.toNat < lid) (hz : ∀ i : Nat, i < 12 → r ≤ (i : Int) → zeroB (F i) = true) : trainB r s t F = true := by
  refine trainB_yes h1 h2 hs ht (cellsB_yes 12 fun i hi => ?_)
  unfold cellB
  by_cases h : (i : Int) < r
  · rw [if_pos h]
    obtain ⟨x1, x2⟩ := hF i (by omega)
    have := sumZ_one hF r.toNat (Nat.le_refl _) i (by omega)
    exact (film_iff _).2 ⟨fin_nan x1, x2, by unfold lid at hl; omega⟩
  · rw [if_neg h]
    exact hz i hi (by omega)
/-- A train of small films: what is drawn. -/
structure SmallT (r : Int) (s t : Nat) (F : Nat → Nat) : Prop where
  h2 : 2 ≤ r
  h6 : r ≤ 6
  hs : partB s = true
  ht : partB t = true
  hF : ∀ i : Nat, i < 12 → Small (F i)
  hz : ∀ i : Nat, i < 12 → r ≤ (i : Int) → F i = 0
theorem small_sum {n : Nat} {F : Nat → Nat} (h : ∀ i : Nat, i < n → Small (F i)) : ∀ k, k ≤ n → sumZ F k ≤ (k : Int) * 2 ^ 152
  | 0, _ => by simp [sumZ]
  | k + 1, hk => by
    have h1 := small_sum h k (by omega)
    have h2 := (h k (by omega)).2.2
    rw [Z_eight] at h2
    show sumZ F k + Z32 (F k) ≤ ((k + 1 : Nat) : Int) * 2 ^ 152
    omega
theorem it_sum {r : Int} {s t : Nat} {F : Nat → Nat} {fed cover : Nat} (h : SmallT r s t F) (hf : Small fed) (hc : partB cover = true) :
    ∀ n : Nat, n ≤ 2000 → PosF r.toNat (itF r s t fed cover F n) ∧ sumZ (itF r s t fed cover F n) r.toNat ≤ (96 + 9 * (n : Int)) * 2 ^ 149 ∧ ∀ i : Nat, r ≤ (i : Int) → itF r s t fed cover F n i = F i
  | 0, _ => by
    have h2 := h.h2
    have h6 := h.h6
    have s1 := small_sum (n := r.toNat) (F := F) (fun i hi => h.hF i (by omega)) r.toNat (Nat.le_refl _)
    have s2 : (r.toNat : Int) * 2 ^ 152 ≤ 6 * 2 ^ 152 := Int.mul_le_mul_of_nonneg_right (by omega) (by decide)
    refine ⟨fun i hi => ⟨(h.hF i (by omega)).1, (h.hF i (by omega)).2.1⟩, ?_, fun i hi => rfl⟩
    show sumZ F r.toNat ≤ _
    have : ((0 : Nat) : Int) = 0 := rfl
    rw [this]
    omega
  | n + 1, hn => by
    obtain ⟨p1, p2, p3⟩ := it_sum h hf hc n (by omega)
    have h2 := h.h2
    have h6 := h.h6
    obtain ⟨f1, f2, f3⟩ := hf
    rw [Z_eight] at f3
    have e1 : 20 * eps = 20 * 2 ^ 143 := rfl
    have l1 : lid = 2 ^ 166 := rfl
    obtain ⟨q1, q2, q3⟩ := turnF_sum (r := r) (s := s) (t := t) (F := itF r s t fed cover F n) (fed := fed) (cover := cover) h2 (by omega) h.hs h.ht hc p1 f1 f2 (by rw [e1, l1]; omega)
    refine ⟨q1, ?_, fun i hi => (q3 i hi).trans (p3 i hi)⟩
    show sumZ (turnF r s t (itF r s t fed cover F n) fed cover) r.toNat ≤ _
    rw [e1] at q2
    omega
theorem it_train {r : Int} {s t : Nat} {F : Nat → Nat} {fed cover : Nat} (h : SmallT r s t F) (hf : Small fed) (hc : partB cover = true) (n : Nat) (hn : n ≤ 2000) : trainB r s t (itF r s t fed cover F n) = true := by
  obtain ⟨p1, p2, p3⟩ := it_sum h hf hc n hn
  have h2 := h.h2
  have h6 := h.h6
  refine trainB_of h2 (by omega) h.hs h.ht p1 (by unfold lid; omega) fun i hi hr => ?_
  rw [p3 i hr, h.hz i hi hr]
  decide
theorem it_all {r : Int} {s t : Nat} {F : Nat → Nat} {fed cover : Nat} (h : SmallT r s t F) (hf : Small fed) (hc : partB cover = true) : ∀ n, n ≤ 2000 → allB r s t fed cover F n = true
  | 0, _ => rfl
  | n + 1, hn => by
    show (allB r s t fed cover F n && trainB r s t (itF r s t fed cover F (n + 1))) = true
    rw [it_all h hf hc n (by omega), it_train h hf hc (n + 1) hn]
    rfl
theorem small_film {a : Nat} (h : Small a) : filmB a = true := up_film (up_le (by rw [Z_eight, Z_film]; decide) h)
theorem small_ask {r : Int} {s t : Nat} {F : Nat → Nat} {fed cover : Nat} (h : SmallT r s t F) (hf : Small fed) (hc : partB cover = true) : askB r s t F fed cover = true := by
  unfold askB
  rw [show trainB r s t F = true from it_train (fed := fed) (cover := cover) h hf hc 0 (by omega), small_film hf, hc]
  rfl
theorem small_ts {r : Int} {s t : Nat} {F : Nat → Nat} {fed cover : Nat} (h : SmallT r s t F) (hf : Small fed) (hc : partB cover = true) (q : Int) (q0 : 0 ≤ q) (q2 : q ≤ 2000) : tsB r s t F fed cover q = true := by
  unfold tsB rangeT
  rw [small_ask h hf hc, it_all h hf hc q.toNat (by omega), decide_eq_true q0, decide_eq_true q2]
  rfl
theorem small_out {r : Int} {s t : Nat} {F : Nat → Nat} {fed cover wi : Nat} (h : SmallT r s t F) (hf : Small fed) (hc : partB cover = true) : ∀ f j, j + f = 2000 →
    (∃ m, m < 2000 ∧ stOut r s t F fed cover wi f j = (true, m + 1, 0) ∧ leF (mostK (itF r s t fed cover F (m + 1)) (itF r s t fed cover F m) r.toNat) wi = true) ∨ stOut r s t F fed cover wi f j = (false, 0, 7)
  | 0, j, _ => Or.inr rfl
  | f + 1, j, hj => by
    unfold stOut
    rw [it_train h hf hc (j + 1) (by omega)]
    simp only [if_true]
    cases hl : leF (mostK (itF r s t fed cover F (j + 1)) (itF r s t fed cover F j) r.toNat) wi
    · simp only [Bool.false_eq_true, if_false]
      exact small_out h hf hc f (j + 1) (by omega)
    · simp only [if_true]
      exact Or.inl ⟨j, by omega, rfl, hl⟩

/-! ### steady -/
theorem leF_iff {a b : Nat} (hb : ¬ Flt.NaN single b) : leF a b = true ↔ ¬ Flt.NaN single a ∧ Z32 a ≤ Z32 b := by
  unfold leF
  rw [ord_le hb]
  exact decide_eq_true_iff
theorem most_ge {G' G : Nat → Nat} (h' : ∀ i, i < 12 → filmB (G' i) = true ∨ zeroB (G' i) = true) (h : ∀ i, i < 12 → filmB (G i) = true ∨ zeroB (G i) = true) : ∀ k, k ≤ 12 → ∀ i, i < k → Z32 (absN (fsub (G' i) (G i))) ≤ Z32 (mostK G' G k)
  | 0, _, i, hi => by omega
  | k + 1, hk, i, hi => by
    obtain ⟨m1, m2⟩ := most_num h' h k (by omega)
    have hv := absN_num (fin_nan (step_fin (h' k (by omega)) (h k (by omega))))
    show _ ≤ Z32 (maxStep (mostK G' G k) (fsub (G' k) (G k)))
    unfold maxStep
    by_cases hg : (FloatKind.f32.format.order (absN (fsub (G' k) (G k))) (mostK G' G k) == some .gt) = true
    · rw [if_pos hg]
      have hg2 := (gt_iff hv m1).1 hg
      by_cases e : i = k
      · subst e; exact Int.le_refl _
      · have := most_ge h' h k (by omega) i (by omega); omega
    · rw [if_neg hg]
      have hg2 : ¬ (Z32 (mostK G' G k) < Z32 (absN (fsub (G' k) (G k)))) := fun hh => hg ((gt_iff hv m1).2 hh)
      by_cases e : i = k
      · subst e; omega
      · exact most_ge h' h k (by omega) i (by omega)
/-- Two numbers are near. -/
theorem near_most {r : Int} {s t : Nat} {G' G : Nat → Nat} {wi : Nat} (hw : ¬ Flt.NaN single wi) (h' : trainB r s t G' = true) (h : trainB r s t G = true) (hm : leF (mostK G' G r.toNat) wi = true) : ∀ i, i < 12 → leF (absN (fsub (G' i) (G i))) wi = true := by
  intro i hi
  rw [← most_end h' h] at hm
  have f := train_films h
  have f' := train_films h'
  have := most_ge f' f 12 (by omega) i hi
  have := ((leF_iff hw).1 hm).2
  exact (leF_iff hw).2 ⟨absN_num (fin_nan (step_fin (f' i hi) (f i hi))), by omega⟩
end Go.Proofs.Ytiddeijhjedbbaa

/- Contracts of the draws: a part, a film, a train; each under its own premises. -/
set_option linter.unusedVariables false
set_option linter.unusedSimpArgs false
namespace Go.Proofs.Ytiddeijhjedbbaa
open Go.RowKit Ieee

theorem cvt_Z (n : Nat) (hn : n < 2 ^ 24) : Fin32 (floatOfInt .f32 (n : Int)) ∧ Z32 (floatOfInt .f32 (n : Int)) = ((n * 2 ^ 149 : Nat) : Int) := by
  have hq : n < 2 * single.binade := hn
  have hlt : n * 2 ^ 149 < Flt.U single single.infRung := by
    rw [Flt.single_inf]
    have h2 : n * 2 ^ 149 < 2 ^ 24 * 2 ^ 149 := Nat.mul_lt_mul_of_pos_right hn (Nat.two_pow_pos 149)
    have h3 : 2 ^ (24 + 149) ≤ 2 ^ Flt.eS := Nat.pow_le_pow_right (by decide) (by rw [Flt.eS_eq]; omega)
    rw [Nat.pow_add] at h3
    omega
  have hU := Flt.G_short single (q := n) (e := 149) hq (Nat.le_of_lt hlt)
  have hG : Flt.G single (n * 2 ^ 149) 0 ≤ single.infRung := by unfold Flt.G; omega
  have hne : Flt.G single (n * 2 ^ 149) 0 ≠ single.infRung := fun h => by rw [h] at hU; omega
  have hs := Flt.infRung_lt' single
  have he : floatOfInt .f32 (n : Int) = single.word false (Flt.G single (n * 2 ^ 149) 0) := by
    show single.write (.number (decide ((n : Int) < 0)) (n : Int).natAbs 0) = _
    have hd : decide ((n : Int) < 0) = false := by simp
    have ha : (n : Int).natAbs = n := by simp
    rw [hd, ha]
    simp only [Format.write]
    rw [Flt.nearest_eq single _ _ _ 149 0 (by decide)]
  rw [he]
  refine ⟨?_, ?_⟩
  · show Flt.rung single _ < _
    rw [Flt.rung_word single false (by omega)]; omega
  · show Flt.Z single _ = _
    rw [Flt.Z_word single false (by omega), hU]
    rfl
theorem quo_up {n m y c : Nat} {q : Int} (hn : n < 2 ^ 24) (hy : Fin32 y) (hm : 0 < m) (hZ : Z32 y = ((m * 2 ^ 149 : Nat) : Int)) (hc : Fin32 c) (hq : Z32 c = q * 2 ^ 149) (q0 : 0 ≤ q) (q9 : q ≤ 1024) (hle : (n : Int) ≤ q * m) : Up c (fdiv (floatOfInt .f32 (n : Int)) y) := by
  obtain ⟨f, z⟩ := cvt_Z n hn
  have hp : 0 < Z32 y := by rw [hZ]; have := Nat.two_pow_pos 149; exact_mod_cast Nat.mul_pos hm this
  have n0 : Z32 y ≠ 0 := by omega
  have z0 : 0 ≤ Z32 (floatOfInt .f32 (n : Int)) := by rw [z]; omega
  have c0 : 0 ≤ Z32 c := by rw [hq]; exact Int.mul_nonneg q0 (by decide)
  have h1 : Z32 (fdiv (floatOfInt .f32 (n : Int)) y) ≤ Z32 c := by
    refine fdiv_le f hy z0 hp hc c0 ?_
    rw [z, hZ, hq]
    have h := Int.mul_le_mul_of_nonneg_right hle (show (0 : Int) ≤ 2 ^ 149 * 2 ^ 149 by decide)
    have e1 : ((n * 2 ^ 149 : Nat) : Int) * 2 ^ 149 = (n : Int) * (2 ^ 149 * 2 ^ 149) := by rw [Int.natCast_mul, Int.natCast_pow, Int.mul_assoc]; rfl
    have e2 : q * 2 ^ 149 * ((m * 2 ^ 149 : Nat) : Int) = q * (m : Int) * (2 ^ 149 * 2 ^ 149) := by
      rw [Int.natCast_mul, Int.natCast_pow]
      show q * 2 ^ 149 * ((m : Int) * 2 ^ 149) = _
      ac_rfl
    rw [e1, e2]
    exact h
  have h0 : 0 ≤ Z32 (fdiv (floatOfInt .f32 (n : Int)) y) := by
    have := fdiv_ge f hy z0 hp (c := 0) (by decide) (by rw [Z_zero]; omega) (by rw [Z_zero, Int.zero_mul]; omega)
    rwa [Z_zero] at this
  have hc9 : Z32 c ≤ 2 ^ 159 := by rw [hq]; omega
  exact ⟨fin_of (num_fdiv f hy n0) (by omega) (by omega), h0, h1⟩
theorem quo_fin {n : Nat} (hn : n < 2 ^ 24) : Fin32 (floatOfInt .f32 (n : Int)) := (cvt_Z n hn).1
theorem Z_16 : Z32 1098907648 = ((16 * 2 ^ 149 : Nat) : Int) := by decide +kernel
theorem Z_1000 : Z32 1148846080 = ((1000 * 2 ^ 149 : Nat) : Int) := by decide +kernel
theorem Z_meg : Z32 1233125376 = ((1048576 * 2 ^ 149 : Nat) : Int) := by decide +kernel
theorem Z_4 : Z32 1082130432 = ((4 * 2 ^ 149 : Nat) : Int) := by decide +kernel
theorem Z_1 : Z32 1065353216 = 1 * 2 ^ 149 := by decide +kernel
theorem Z_8 : Z32 1090519040 = 8 * 2 ^ 149 := by decide +kernel
theorem up_part {a : Nat} (h : Up 1065353216 a) : partB a = true := (part_iff a).2 ⟨fin_nan h.1, h.2.1, by rw [← Z_one]; exact h.2.2⟩
theorem ne_16 : Z32 1098907648 ≠ 0 := by decide +kernel
theorem ne_1000 : Z32 1148846080 ≠ 0 := by decide +kernel
theorem ne_meg : Z32 1233125376 ≠ 0 := by decide +kernel
theorem ne_4 : Z32 1082130432 ≠ 0 := by decide +kernel

theorem tone_any (b k : Nat) (ao : Option Addr) (n cap : Nat) (w : World) (hk : k < 1152921504606846976) (hs : Src w b k ao n cap) (hb : BytesAt w b ao n) :
    Calls Try.prog 35 #[.pointer (some ⟨b, 0, none⟩)] w fun e w' => ∃ v : Nat, e = .returned (.float .f32 v) ∧ partB v = true ∧ Src w' b (k + 4) ao n cap ∧ Moved b w w' := by
  have cv : ∀ (m : Nat) (w : World), (convert 2 25 (.int .i64 (m : Int))).run Try.prog w = .ok (.float .f32 (floatOfInt .f32 (m : Int))) w := fun m w => by kernel_rfl
  have dv : ∀ (x y : Nat) (hx : Fin32 x) (hy : Fin32 y) (h0 : Z32 y ≠ 0) (w : World), (binOp .quo 25 (.float .f32 x) (.float .f32 y)).run Try.prog w = .ok (.float .f32 (fdiv x y)) w := fun x y hx hy h0 w => run_fdiv w 25 hx hy h0
  go_enter Try.func35, Try.ntmps35
  go_wp2_with (fail)
  refine (pick_any b k ao n cap 4 _ (by omega) (by omega) (by omega) hs hb).mono ?_
  rintro e w1 ⟨x, rfl, hx0, hx9, hs1, hm1⟩
  have hb1 := hm1.bytes hb (Nat.le_refl _)
  by_cases h0 : x = 0
  · subst h0
    go_wp2_with (fail)
    refine (pick_any b (k + 2) ao n cap 17 _ (by omega) (by omega) (by omega) hs1 hb1).mono ?_
    rintro e w2 ⟨y, rfl, hy0, hy9, hs2, hm2⟩
    obtain ⟨y, rfl⟩ := Int.eq_ofNat_of_zero_le hy0
    have d := fun w => dv (floatOfInt .f32 (y : Int)) 1098907648 (quo_fin (by omega)) (by decide) ne_16 w
    have c := cv y
    go_wp2
    go_ret
    exact ⟨_, rfl, up_part (quo_up (m := 16) (q := 1) (by omega) (by decide) (by omega) Z_16 (by decide) Z_1 (by omega) (by omega) (by omega)), hs2, hm1.trans hm2⟩
  · by_cases h1 : x = 1
    · subst h1
      go_wp2_with (fail)
      refine (pick_any b (k + 2) ao n cap 1001 _ (by omega) (by omega) (by omega) hs1 hb1).mono ?_
      rintro e w2 ⟨y, rfl, hy0, hy9, hs2, hm2⟩
      obtain ⟨y, rfl⟩ := Int.eq_ofNat_of_zero_le hy0
      have d := fun w => dv (floatOfInt .f32 (y : Int)) 1148846080 (quo_fin (by omega)) (by decide) ne_1000 w
      have c := cv y
      go_wp2
      go_ret
      exact ⟨_, rfl, up_part (quo_up (m := 1000) (q := 1) (by omega) (by decide) (by omega) Z_1000 (by decide) Z_1 (by omega) (by omega) (by omega)), hs2, hm1.trans hm2⟩
    · have e0 : (x == 0) = false := by simp [h0]
      have e1 : (x == 1) = false := by simp [h1]
      go_wp2_with (fail)
      refine (pick_any b (k + 2) ao n cap 1048576 _ (by omega) (by omega) (by omega) hs1 hb1).mono ?_
      rintro e w2 ⟨y, rfl, hy0, hy9, hs2, hm2⟩
      obtain ⟨y, rfl⟩ := Int.eq_ofNat_of_zero_le hy0
      have d := fun w => dv (floatOfInt .f32 (y : Int)) 1233125376 (quo_fin (by omega)) (by decide) ne_meg w
      have c := cv y
      go_wp2
      go_ret
      exact ⟨_, rfl, up_part (quo_up (m := 1048576) (q := 1) (by omega) (by decide) (by omega) Z_meg (by decide) Z_1 (by omega) (by omega) (by omega)), hs2, hm1.trans hm2⟩
theorem thick_any (b k : Nat) (ao : Option Addr) (n cap : Nat) (w : World) (hk : k < 1152921504606846976) (hs : Src w b k ao n cap) (hb : BytesAt w b ao n) :
    Calls Try.prog 34 #[.pointer (some ⟨b, 0, none⟩)] w fun e w' => ∃ v : Nat, e = .returned (.float .f32 v) ∧ Small v ∧ Src w' b (k + 4) ao n cap ∧ Moved b w w' := by
  have cv : ∀ (m : Nat) (w : World), (convert 2 25 (.int .i64 (m : Int))).run Try.prog w = .ok (.float .f32 (floatOfInt .f32 (m : Int))) w := fun m w => by kernel_rfl
  have dv : ∀ (x y : Nat) (hx : Fin32 x) (hy : Fin32 y) (h0 : Z32 y ≠ 0) (w : World), (binOp .quo 25 (.float .f32 x) (.float .f32 y)).run Try.prog w = .ok (.float .f32 (fdiv x y)) w := fun x y hx hy h0 w => run_fdiv w 25 hx hy h0
  go_enter Try.func34, Try.ntmps34
  go_wp2_with (fail)
  refine (one_any b k ao n cap 3 _ (by omega) (by omega) (by omega) hs hb).mono ?_
  rintro e w1 ⟨v, rfl, hs1, hm1⟩
  have hb1 := hm1.bytes hb (Nat.le_refl _)
  cases v
  · go_wp2_with (fail)
    refine (pick_any b (k + 2) ao n cap 5000 _ (by omega) (by omega) (by omega) hs1 hb1).mono ?_
    rintro e w2 ⟨y, rfl, hy0, hy9, hs2, hm2⟩
    obtain ⟨y, rfl⟩ := Int.eq_ofNat_of_zero_le hy0
    have d := fun w => dv (floatOfInt .f32 (y : Int)) 1148846080 (quo_fin (by omega)) (by decide) ne_1000 w
    have c := cv y
    go_wp2
    go_ret
    exact ⟨_, rfl, quo_up (m := 1000) (q := 8) (by omega) (by decide) (by omega) Z_1000 (by decide) Z_8 (by omega) (by omega) (by omega), hs2, hm1.trans hm2⟩
  · go_wp2_with (fail)
    refine (pick_any b (k + 2) ao n cap 33 _ (by omega) (by omega) (by omega) hs1 hb1).mono ?_
    rintro e w2 ⟨y, rfl, hy0, hy9, hs2, hm2⟩
    obtain ⟨y, rfl⟩ := Int.eq_ofNat_of_zero_le hy0
    have d := fun w => dv (floatOfInt .f32 (y : Int)) 1082130432 (quo_fin (by omega)) (by decide) ne_4 w
    have c := cv y
    go_wp2
    go_ret
    exact ⟨_, rfl, quo_up (m := 4) (q := 8) (by omega) (by decide) (by omega) Z_4 (by decide) Z_8 (by omega) (by omega) (by omega), hs2, hm1.trans hm2⟩
end Go.Proofs.Ytiddeijhjedbbaa

/- Contracts of the draw of a train, and of A2Train, A2Film and A2Part; each under its own premises. -/
set_option linter.unusedVariables false
set_option linter.unusedSimpArgs false
namespace Go.Proofs.Ytiddeijhjedbbaa
open Go.RowKit Ieee

theorem bytes_below {b : Nat} {w w1 : World} {ao : Option Addr} {n : Nat} (h : Below b w w1) (hb : BytesAt w b ao n) : BytesAt w1 b ao n := by
  refine ⟨hb.1, fun hn => ?_⟩
  obtain ⟨a, ha, hlt, hx⟩ := hb.2 hn
  refine ⟨a, ha, hlt, fun i hi => ?_⟩
  obtain ⟨x, h1, h2⟩ := hx i hi
  refine ⟨x, ?_, h2⟩
  rw [h.cell (p := a.add i) (by rw [show (a.add i).block = a.block from by unfold Addr.add; split <;> rfl]; exact hlt)]
  exact h1
theorem small_zero : Small 0 := ⟨by decide, by rw [Z_zero]; decide, by rw [Z_zero, Z_eight]; decide⟩
theorem small_upd {F : Nat → Nat} {k v : Nat} (h : ∀ i : Nat, i < 12 → Small (F i)) (hv : Small v) : ∀ i : Nat, i < 12 → Small (upd F k v i) := fun i hi => by
  unfold upd
  split
  · exact hv
  · exact h i hi

set_option maxRecDepth 100000 in
set_option maxHeartbeats 3200000 in
theorem drawn_any (b : Nat) (ao : Option Addr) (n cap : Nat) (w : World) (hs : Src w b 0 ao n cap) (hb : BytesAt w b ao n) (hl : b < w.heap.size) :
    Calls Try.prog 32 #[.pointer (some ⟨b, 0, none⟩)] w fun e w' => ∃ (r : Int) (s t : Nat) (F : Nat → Nat), e = .returned (.agg (train r s t F)) ∧ SmallT r s t F ∧ Below b w w' := by
  have hz : (#[Value.int IntKind.i8 0, Value.float FloatKind.f32 0, Value.float FloatKind.f32 0, Value.float FloatKind.f32 0, Value.float FloatKind.f32 0, Value.float FloatKind.f32 0, Value.float FloatKind.f32 0, Value.float FloatKind.f32 0, Value.float FloatKind.f32 0, Value.float FloatKind.f32 0, Value.float FloatKind.f32 0, Value.float FloatKind.f32 0, Value.float FloatKind.f32 0, Value.float FloatKind.f32 0, Value.float FloatKind.f32 0] : Array Value) = row [Value.int IntKind.i8 0, Value.float FloatKind.f32 0, Value.float FloatKind.f32 0] 12 (fun _ => 0) := rfl
  obtain ⟨p0, sd0, hp0, hB0⟩ := hs
  go_enter Try.func32, Try.ntmps32
  go_wp2_with (fail)
  refine (pick_any b 0 ao n cap 5 _ (by omega) (by omega) (by omega) ⟨p0, sd0, hp0, (by repeat (first | (with_reducible assumption) | ((with_reducible refine blk_new _ _ _ ?_); focus (first | omega | (simp; done) | (simp; omega))) | ((with_reducible refine blk_old _ _ _ ?_ ?_); focus (simp; done)) | ((with_reducible refine blk_old _ _ _ ?_ ?_); focus (first | omega | (simp; omega))) | ((with_reducible apply blk_set); focus (simp; done)) | ((with_reducible refine blk_off _ _ _ _ ?_ ?_); focus (simp; done)) | ((with_reducible refine blk_offc _ _ _ _ ?_ ?_); focus (first | (simp; done) | omega | (simp; omega))) | ((with_reducible refine blk_off _ _ _ _ ?_ ?_); focus (first | omega | (simp; omega))) | (with_reducible refine blk_drew _ _ ?_) | ((with_reducible refine blk_below (by assumption) ?_ ?_); focus (simp; done)) | ((with_reducible refine blk_below (by assumption) ?_ ?_); focus (first | omega | (simp; omega)))))⟩ (bytes_below (by repeat (first | (with_reducible assumption) | (with_reducible exact Below.refl _ _) | ((with_reducible refine bel_alloc _ ?_ ?_); focus (first | omega | (simp; done) | (simp; omega))) | ((with_reducible refine bel_row _ ?_ ?_); focus (first | omega | (simp; done) | (simp; omega))) | ((with_reducible refine bel_cell _ ?_ ?_); focus (first | omega | (simp; done) | (simp; omega))) | (with_reducible refine Below.drew ?_) | (with_reducible refine below_wideW _ ?_) | ((with_reducible refine bel_next (by assumption) ?_ ?_); focus (first | omega | (simp; done) | (simp; omega))))) hb)).mono ?_
  rintro e w1 ⟨x, rfl, hx0, hx9, ⟨p1, sd1, hp1, hB1⟩, hm1⟩
  have hR1 : w1.heap[w.heap.size]? = some (.cells (train 0 0 0 (fun _ => 0)) 28 (0, 0)) := (hm1.2.1 _ (by omega)).trans (by repeat (first | (with_reducible assumption) | ((with_reducible refine blk_new _ _ _ ?_); focus (first | omega | (simp; done) | (simp; omega))) | ((with_reducible refine blk_old _ _ _ ?_ ?_); focus (simp; done)) | ((with_reducible refine blk_old _ _ _ ?_ ?_); focus (first | omega | (simp; omega))) | ((with_reducible apply blk_set); focus (simp; done)) | ((with_reducible refine blk_off _ _ _ _ ?_ ?_); focus (simp; done)) | ((with_reducible refine blk_offc _ _ _ _ ?_ ?_); focus (first | (simp; done) | omega | (simp; omega))) | ((with_reducible refine blk_off _ _ _ _ ?_ ?_); focus (first | omega | (simp; omega))) | (with_reducible refine blk_drew _ _ ?_) | ((with_reducible refine blk_below (by assumption) ?_ ?_); focus (simp; done)) | ((with_reducible refine blk_below (by assumption) ?_ ?_); focus (first | omega | (simp; omega)))))
  have hz1 : w1.heap.size = w.heap.size + 1 := hm1.2.2.trans (by simp)
  have hd1 : Below b w w1 := Below.trans (by repeat (first | (with_reducible assumption) | (with_reducible exact Below.refl _ _) | ((with_reducible refine bel_alloc _ ?_ ?_); focus (first | omega | (simp; done) | (simp; omega))) | ((with_reducible refine bel_row _ ?_ ?_); focus (first | omega | (simp; done) | (simp; omega))) | ((with_reducible refine bel_cell _ ?_ ?_); focus (first | omega | (simp; done) | (simp; omega))) | (with_reducible refine Below.drew ?_) | (with_reducible refine below_wideW _ ?_) | ((with_reducible refine bel_next (by assumption) ?_ ?_); focus (first | omega | (simp; done) | (simp; omega))))) hm1.1
  clear hm1 hB0
  have hi8 : IntKind.i8.wrap (2 + x) = 2 + x := i8_small (by omega) (by omega)
  go_wp2_with (first | ((with_reducible refine at_store 28 ?_); refine wpList_store_part rfl 28 _ _ rfl _ 0 _ rfl rfl _ _ (by repeat (first | (with_reducible assumption) | ((with_reducible refine blk_new _ _ _ ?_); focus (first | omega | (simp; done) | (simp; omega))) | ((with_reducible refine blk_old _ _ _ ?_ ?_); focus (simp; done)) | ((with_reducible refine blk_old _ _ _ ?_ ?_); focus (first | omega | (simp; omega))) | ((with_reducible apply blk_set); focus (simp; done)) | ((with_reducible refine blk_off _ _ _ _ ?_ ?_); focus (simp; done)) | ((with_reducible refine blk_offc _ _ _ _ ?_ ?_); focus (first | (simp; done) | omega | (simp; omega))) | ((with_reducible refine blk_off _ _ _ _ ?_ ?_); focus (first | omega | (simp; omega))) | (with_reducible refine blk_drew _ _ ?_) | ((with_reducible refine blk_below (by assumption) ?_ ?_); focus (simp; done)) | ((with_reducible refine blk_below (by assumption) ?_ ?_); focus (first | omega | (simp; omega))))) (by rw [row_size]; kernel_rfl) (by simp [row_size]) (row_cells _ _ _ rfl) _ (row_over _ _ 12 _ _ (by simp)) ?_))
  refine (tone_any b 2 ao n cap _ (by omega) ⟨p1, sd1, hp1, (by repeat (first | (with_reducible assumption) | ((with_reducible refine blk_new _ _ _ ?_); focus (first | omega | (simp; done) | (simp; omega))) | ((with_reducible refine blk_old _ _ _ ?_ ?_); focus (simp; done)) | ((with_reducible refine blk_old _ _ _ ?_ ?_); focus (first | omega | (simp; omega))) | ((with_reducible apply blk_set); focus (simp; done)) | ((with_reducible refine blk_off _ _ _ _ ?_ ?_); focus (simp; done)) | ((with_reducible refine blk_offc _ _ _ _ ?_ ?_); focus (first | (simp; done) | omega | (simp; omega))) | ((with_reducible refine blk_off _ _ _ _ ?_ ?_); focus (first | omega | (simp; omega))) | (with_reducible refine blk_drew _ _ ?_) | ((with_reducible refine blk_below (by assumption) ?_ ?_); focus (simp; done)) | ((with_reducible refine blk_below (by assumption) ?_ ?_); focus (first | omega | (simp; omega)))))⟩ (bytes_below (by repeat (first | (with_reducible assumption) | (with_reducible exact Below.refl _ _) | ((with_reducible refine bel_alloc _ ?_ ?_); focus (first | omega | (simp; done) | (simp; omega))) | ((with_reducible refine bel_row _ ?_ ?_); focus (first | omega | (simp; done) | (simp; omega))) | ((with_reducible refine bel_cell _ ?_ ?_); focus (first | omega | (simp; done) | (simp; omega))) | (with_reducible refine Below.drew ?_) | (with_reducible refine below_wideW _ ?_) | ((with_reducible refine bel_next (by assumption) ?_ ?_); focus (first | omega | (simp; done) | (simp; omega))))) hb)).mono ?_
  rintro e w2 ⟨s, rfl, hs, ⟨p2, sd2, hp2, hB2⟩, hm2⟩
  have hR2 : w2.heap[w.heap.size]? = some (.cells (train 0 0 0 (fun _ => 0)) 28 (0, 0)) := (hm2.2.1 _ (by omega)).trans (by repeat (first | (with_reducible assumption) | ((with_reducible refine blk_new _ _ _ ?_); focus (first | omega | (simp; done) | (simp; omega))) | ((with_reducible refine blk_old _ _ _ ?_ ?_); focus (simp; done)) | ((with_reducible refine blk_old _ _ _ ?_ ?_); focus (first | omega | (simp; omega))) | ((with_reducible apply blk_set); focus (simp; done)) | ((with_reducible refine blk_off _ _ _ _ ?_ ?_); focus (simp; done)) | ((with_reducible refine blk_offc _ _ _ _ ?_ ?_); focus (first | (simp; done) | omega | (simp; omega))) | ((with_reducible refine blk_off _ _ _ _ ?_ ?_); focus (first | omega | (simp; omega))) | (with_reducible refine blk_drew _ _ ?_) | ((with_reducible refine blk_below (by assumption) ?_ ?_); focus (simp; done)) | ((with_reducible refine blk_below (by assumption) ?_ ?_); focus (first | omega | (simp; omega)))))
  have hT2 : w2.heap[w.heap.size + 1]? = some (.cells (train (2 + x) 0 0 (fun _ => 0)) 28 (0, 0)) := (hm2.2.1 _ (by omega)).trans (by repeat (first | (with_reducible assumption) | ((with_reducible refine blk_new _ _ _ ?_); focus (first | omega | (simp; done) | (simp; omega))) | ((with_reducible refine blk_old _ _ _ ?_ ?_); focus (simp; done)) | ((with_reducible refine blk_old _ _ _ ?_ ?_); focus (first | omega | (simp; omega))) | ((with_reducible apply blk_set); focus (simp; done)) | ((with_reducible refine blk_off _ _ _ _ ?_ ?_); focus (simp; done)) | ((with_reducible refine blk_offc _ _ _ _ ?_ ?_); focus (first | (simp; done) | omega | (simp; omega))) | ((with_reducible refine blk_off _ _ _ _ ?_ ?_); focus (first | omega | (simp; omega))) | (with_reducible refine blk_drew _ _ ?_) | ((with_reducible refine blk_below (by assumption) ?_ ?_); focus (simp; done)) | ((with_reducible refine blk_below (by assumption) ?_ ?_); focus (first | omega | (simp; omega)))))
  have hz2 : w2.heap.size = w.heap.size + 2 := hm2.2.2.trans (by simp [hz1])
  have hd2 : Below b w w2 := Below.trans (by repeat (first | (with_reducible assumption) | (with_reducible exact Below.refl _ _) | ((with_reducible refine bel_alloc _ ?_ ?_); focus (first | omega | (simp; done) | (simp; omega))) | ((with_reducible refine bel_row _ ?_ ?_); focus (first | omega | (simp; done) | (simp; omega))) | ((with_reducible refine bel_cell _ ?_ ?_); focus (first | omega | (simp; done) | (simp; omega))) | (with_reducible refine Below.drew ?_) | (with_reducible refine below_wideW _ ?_) | ((with_reducible refine bel_next (by assumption) ?_ ?_); focus (first | omega | (simp; done) | (simp; omega))))) hm2.1
  clear hm2 hB1 hR1 hd1 hz1
  have ft2 : w2.frozen? ⟨w.heap.size + 1, 1, none⟩ = false := frozen_of_row w2 _ _ _ _ hT2
  have ct2 : w2.cell? ⟨w.heap.size + 1, 1, none⟩ = some (.float .f32 0) := (cell_of_row w2 _ 1 _ _ _ hT2).trans (row_g1 _ _ _ _ _)
  go_wp2_with (fail)
  have hT3 : (w2.setCell ⟨w.heap.size + 1, 1, none⟩ (.float .f32 s)).heap[w.heap.size + 1]? = some (.cells (train (2 + x) s 0 (fun _ => 0)) 28 (0, 0)) := put_pre (pre := tpre (2 + x) 0 0) (i := 1) (by simp) hT2
  refine (tone_any b 6 ao n cap _ (by omega) ⟨p2, sd2, hp2, (by repeat (first | (with_reducible assumption) | ((with_reducible refine blk_new _ _ _ ?_); focus (first | omega | (simp; done) | (simp; omega))) | ((with_reducible refine blk_old _ _ _ ?_ ?_); focus (simp; done)) | ((with_reducible refine blk_old _ _ _ ?_ ?_); focus (first | omega | (simp; omega))) | ((with_reducible apply blk_set); focus (simp; done)) | ((with_reducible refine blk_off _ _ _ _ ?_ ?_); focus (simp; done)) | ((with_reducible refine blk_offc _ _ _ _ ?_ ?_); focus (first | (simp; done) | omega | (simp; omega))) | ((with_reducible refine blk_off _ _ _ _ ?_ ?_); focus (first | omega | (simp; omega))) | (with_reducible refine blk_drew _ _ ?_) | ((with_reducible refine blk_below (by assumption) ?_ ?_); focus (simp; done)) | ((with_reducible refine blk_below (by assumption) ?_ ?_); focus (first | omega | (simp; omega)))))⟩ (bytes_below (by repeat (first | (with_reducible assumption) | (with_reducible exact Below.refl _ _) | ((with_reducible refine bel_alloc _ ?_ ?_); focus (first | omega | (simp; done) | (simp; omega))) | ((with_reducible refine bel_row _ ?_ ?_); focus (first | omega | (simp; done) | (simp; omega))) | ((with_reducible refine bel_cell _ ?_ ?_); focus (first | omega | (simp; done) | (simp; omega))) | (with_reducible refine Below.drew ?_) | (with_reducible refine below_wideW _ ?_) | ((with_reducible refine bel_next (by assumption) ?_ ?_); focus (first | omega | (simp; done) | (simp; omega))))) hb)).mono ?_
  rintro e w3 ⟨t, rfl, ht, ⟨p3, sd3, hp3, hB3⟩, hm3⟩
  have hR4 : w3.heap[w.heap.size]? = some (.cells (train 0 0 0 (fun _ => 0)) 28 (0, 0)) := (hm3.2.1 _ (by omega)).trans (by repeat (first | (with_reducible assumption) | ((with_reducible refine blk_new _ _ _ ?_); focus (first | omega | (simp; done) | (simp; omega))) | ((with_reducible refine blk_old _ _ _ ?_ ?_); focus (simp; done)) | ((with_reducible refine blk_old _ _ _ ?_ ?_); focus (first | omega | (simp; omega))) | ((with_reducible apply blk_set); focus (simp; done)) | ((with_reducible refine blk_off _ _ _ _ ?_ ?_); focus (simp; done)) | ((with_reducible refine blk_offc _ _ _ _ ?_ ?_); focus (first | (simp; done) | omega | (simp; omega))) | ((with_reducible refine blk_off _ _ _ _ ?_ ?_); focus (first | omega | (simp; omega))) | (with_reducible refine blk_drew _ _ ?_) | ((with_reducible refine blk_below (by assumption) ?_ ?_); focus (simp; done)) | ((with_reducible refine blk_below (by assumption) ?_ ?_); focus (first | omega | (simp; omega)))))
  have hT4 : w3.heap[w.heap.size + 1]? = some (.cells (train (2 + x) s 0 (fun _ => 0)) 28 (0, 0)) := (hm3.2.1 _ (by omega)).trans hT3
  have hz4 : w3.heap.size = w.heap.size + 2 := hm3.2.2.trans (by simp [hz2])
  have hd4 : Below b w w3 := Below.trans (by repeat (first | (with_reducible assumption) | (with_reducible exact Below.refl _ _) | ((with_reducible refine bel_alloc _ ?_ ?_); focus (first | omega | (simp; done) | (simp; omega))) | ((with_reducible refine bel_row _ ?_ ?_); focus (first | omega | (simp; done) | (simp; omega))) | ((with_reducible refine bel_cell _ ?_ ?_); focus (first | omega | (simp; done) | (simp; omega))) | (with_reducible refine Below.drew ?_) | (with_reducible refine below_wideW _ ?_) | ((with_reducible refine bel_next (by assumption) ?_ ?_); focus (first | omega | (simp; done) | (simp; omega))))) hm3.1
  clear hm3 hB2 hR2 hd2 hz2 hT3 hT2 ft2 ct2
  have ft4 : w3.frozen? ⟨w.heap.size + 1, 2, none⟩ = false := frozen_of_row w3 _ _ _ _ hT4
  have ct4 : w3.cell? ⟨w.heap.size + 1, 2, none⟩ = some (.float .f32 0) := (cell_of_row w3 _ 2 _ _ _ hT4).trans (row_g2 _ _ _ _ _ _)
  go_wp2_with (fail)
  go_loopw [4] (fun i wr => ∃ (k : Nat) (G : Nat → Nat), (k : Int) ≤ 2 + x ∧ i = .int .i64 k ∧ wr.heap[w.heap.size + 1]? = some (.cells (train (2 + x) s t G) 28 (0, 0)) ∧ wr.heap[w.heap.size]? = some (.cells (train 0 0 0 (fun _ => 0)) 28 (0, 0)) ∧ (∀ i : Nat, i < 12 → Small (G i)) ∧ (∀ i : Nat, k ≤ i → G i = 0) ∧ Src wr b (10 + 6 * k) ao n cap ∧ wr.heap.size = w.heap.size + 2 ∧ Below b w wr) (fun i _ => 12 - (intOf i).toNat)
  case atStart => exact ⟨0, fun _ => 0, by omega, rfl, put_pre (pre := tpre (2 + x) s 0) (i := 2) (by simp) hT4, (by repeat (first | (with_reducible assumption) | ((with_reducible refine blk_new _ _ _ ?_); focus (first | omega | (simp; done) | (simp; omega))) | ((with_reducible refine blk_old _ _ _ ?_ ?_); focus (simp; done)) | ((with_reducible refine blk_old _ _ _ ?_ ?_); focus (first | omega | (simp; omega))) | ((with_reducible apply blk_set); focus (simp; done)) | ((with_reducible refine blk_off _ _ _ _ ?_ ?_); focus (simp; done)) | ((with_reducible refine blk_offc _ _ _ _ ?_ ?_); focus (first | (simp; done) | omega | (simp; omega))) | ((with_reducible refine blk_off _ _ _ _ ?_ ?_); focus (first | omega | (simp; omega))) | (with_reducible refine blk_drew _ _ ?_) | ((with_reducible refine blk_below (by assumption) ?_ ?_); focus (simp; done)) | ((with_reducible refine blk_below (by assumption) ?_ ?_); focus (first | omega | (simp; omega))))), fun _ _ => small_zero, fun _ _ => rfl, ⟨p3, sd3, hp3, (by repeat (first | (with_reducible assumption) | ((with_reducible refine blk_new _ _ _ ?_); focus (first | omega | (simp; done) | (simp; omega))) | ((with_reducible refine blk_old _ _ _ ?_ ?_); focus (simp; done)) | ((with_reducible refine blk_old _ _ _ ?_ ?_); focus (first | omega | (simp; omega))) | ((with_reducible apply blk_set); focus (simp; done)) | ((with_reducible refine blk_off _ _ _ _ ?_ ?_); focus (simp; done)) | ((with_reducible refine blk_offc _ _ _ _ ?_ ?_); focus (first | (simp; done) | omega | (simp; omega))) | ((with_reducible refine blk_off _ _ _ _ ?_ ?_); focus (first | omega | (simp; omega))) | (with_reducible refine blk_drew _ _ ?_) | ((with_reducible refine blk_below (by assumption) ?_ ?_); focus (simp; done)) | ((with_reducible refine blk_below (by assumption) ?_ ?_); focus (first | omega | (simp; omega)))))⟩, by simp [hz4], (by repeat (first | (with_reducible assumption) | (with_reducible exact Below.refl _ _) | ((with_reducible refine bel_alloc _ ?_ ?_); focus (first | omega | (simp; done) | (simp; omega))) | ((with_reducible refine bel_row _ ?_ ?_); focus (first | omega | (simp; done) | (simp; omega))) | ((with_reducible refine bel_cell _ ?_ ?_); focus (first | omega | (simp; done) | (simp; omega))) | (with_reducible refine Below.drew ?_) | (with_reducible refine below_wideW _ ?_) | ((with_reducible refine bel_next (by assumption) ?_ ?_); focus (first | omega | (simp; done) | (simp; omega)))))⟩
  case round =>
    clear hB3 hR4 hd4 hz4 hT4 ft4 ct4
    obtain ⟨k, G, hk, rfl, hT, hR, hG, hZ, ⟨p, sd, hp, hB⟩, hzz, hd⟩ := hrel
    have HG := Lib.hid hG
    have HZ := Lib.hid hZ
    clear hG hZ
    have c0 : wr.cell? ⟨w.heap.size + 1, 0, none⟩ = some (.int .i8 (2 + x)) := (cell_of_row wr _ 0 _ _ _ hT).trans (row_g0 _ _ _ _)
    by_cases hlt : (k : Int) < 2 + x
    · have k12 : k < 12 := by omega
      go_wp2_with (fail)
      refine (one_any b (10 + 6 * k) ao n cap 8 _ (by omega) (by omega) (by omega) ⟨p, sd, hp, (by repeat (first | (with_reducible assumption) | ((with_reducible refine blk_new _ _ _ ?_); focus (first | omega | (simp; done) | (simp; omega))) | ((with_reducible refine blk_old _ _ _ ?_ ?_); focus (simp; done)) | ((with_reducible refine blk_old _ _ _ ?_ ?_); focus (first | omega | (simp; omega))) | ((with_reducible apply blk_set); focus (simp; done)) | ((with_reducible refine blk_off _ _ _ _ ?_ ?_); focus (simp; done)) | ((with_reducible refine blk_offc _ _ _ _ ?_ ?_); focus (first | (simp; done) | omega | (simp; omega))) | ((with_reducible refine blk_off _ _ _ _ ?_ ?_); focus (first | omega | (simp; omega))) | (with_reducible refine blk_drew _ _ ?_) | ((with_reducible refine blk_below (by assumption) ?_ ?_); focus (simp; done)) | ((with_reducible refine blk_below (by assumption) ?_ ?_); focus (first | omega | (simp; omega)))))⟩ (bytes_below (by repeat (first | (with_reducible assumption) | (with_reducible exact Below.refl _ _) | ((with_reducible refine bel_alloc _ ?_ ?_); focus (first | omega | (simp; done) | (simp; omega))) | ((with_reducible refine bel_row _ ?_ ?_); focus (first | omega | (simp; done) | (simp; omega))) | ((with_reducible refine bel_cell _ ?_ ?_); focus (first | omega | (simp; done) | (simp; omega))) | (with_reducible refine Below.drew ?_) | (with_reducible refine below_wideW _ ?_) | ((with_reducible refine bel_next (by assumption) ?_ ?_); focus (first | omega | (simp; done) | (simp; omega))))) hb)).mono ?_
      rintro e w5 ⟨v, rfl, ⟨p5, sd5, hp5, hB5⟩, hm5⟩
      have hR5 : w5.heap[w.heap.size]? = some (.cells (train 0 0 0 (fun _ => 0)) 28 (0, 0)) := (hm5.2.1 _ (by omega)).trans (by repeat (first | (with_reducible assumption) | ((with_reducible refine blk_new _ _ _ ?_); focus (first | omega | (simp; done) | (simp; omega))) | ((with_reducible refine blk_old _ _ _ ?_ ?_); focus (simp; done)) | ((with_reducible refine blk_old _ _ _ ?_ ?_); focus (first | omega | (simp; omega))) | ((with_reducible apply blk_set); focus (simp; done)) | ((with_reducible refine blk_off _ _ _ _ ?_ ?_); focus (simp; done)) | ((with_reducible refine blk_offc _ _ _ _ ?_ ?_); focus (first | (simp; done) | omega | (simp; omega))) | ((with_reducible refine blk_off _ _ _ _ ?_ ?_); focus (first | omega | (simp; omega))) | (with_reducible refine blk_drew _ _ ?_) | ((with_reducible refine blk_below (by assumption) ?_ ?_); focus (simp; done)) | ((with_reducible refine blk_below (by assumption) ?_ ?_); focus (first | omega | (simp; omega)))))
      have hT5 : w5.heap[w.heap.size + 1]? = some (.cells (train (2 + x) s t G) 28 (0, 0)) := (hm5.2.1 _ (by omega)).trans hT
      have hz5 : w5.heap.size = w.heap.size + 2 := hm5.2.2.trans (by simp [hzz])
      have hd5 : Below b w w5 := Below.trans (by repeat (first | (with_reducible assumption) | (with_reducible exact Below.refl _ _) | ((with_reducible refine bel_alloc _ ?_ ?_); focus (first | omega | (simp; done) | (simp; omega))) | ((with_reducible refine bel_row _ ?_ ?_); focus (first | omega | (simp; done) | (simp; omega))) | ((with_reducible refine bel_cell _ ?_ ?_); focus (first | omega | (simp; done) | (simp; omega))) | (with_reducible refine Below.drew ?_) | (with_reducible refine below_wideW _ ?_) | ((with_reducible refine bel_next (by assumption) ?_ ?_); focus (first | omega | (simp; done) | (simp; omega))))) hm5.1
      clear hm5 hB hR hd hzz hT c0
      cases v
      · go_wp2_with (fail)
        refine (thick_any b (12 + 6 * k) ao n cap _ (by omega) ⟨p5, sd5, by omega, (by repeat (first | (with_reducible assumption) | ((with_reducible refine blk_new _ _ _ ?_); focus (first | omega | (simp; done) | (simp; omega))) | ((with_reducible refine blk_old _ _ _ ?_ ?_); focus (simp; done)) | ((with_reducible refine blk_old _ _ _ ?_ ?_); focus (first | omega | (simp; omega))) | ((with_reducible apply blk_set); focus (simp; done)) | ((with_reducible refine blk_off _ _ _ _ ?_ ?_); focus (simp; done)) | ((with_reducible refine blk_offc _ _ _ _ ?_ ?_); focus (first | (simp; done) | omega | (simp; omega))) | ((with_reducible refine blk_off _ _ _ _ ?_ ?_); focus (first | omega | (simp; omega))) | (with_reducible refine blk_drew _ _ ?_) | ((with_reducible refine blk_below (by assumption) ?_ ?_); focus (simp; done)) | ((with_reducible refine blk_below (by assumption) ?_ ?_); focus (first | omega | (simp; omega)))))⟩ (bytes_below (by repeat (first | (with_reducible assumption) | (with_reducible exact Below.refl _ _) | ((with_reducible refine bel_alloc _ ?_ ?_); focus (first | omega | (simp; done) | (simp; omega))) | ((with_reducible refine bel_row _ ?_ ?_); focus (first | omega | (simp; done) | (simp; omega))) | ((with_reducible refine bel_cell _ ?_ ?_); focus (first | omega | (simp; done) | (simp; omega))) | (with_reducible refine Below.drew ?_) | (with_reducible refine below_wideW _ ?_) | ((with_reducible refine bel_next (by assumption) ?_ ?_); focus (first | omega | (simp; done) | (simp; omega))))) hb)).mono ?_
        rintro e w6 ⟨v, rfl, hv, ⟨p6, sd6, hp6, hB6⟩, hm6⟩
        have hR6 : w6.heap[w.heap.size]? = some (.cells (train 0 0 0 (fun _ => 0)) 28 (0, 0)) := (hm6.2.1 _ (by omega)).trans (by repeat (first | (with_reducible assumption) | ((with_reducible refine blk_new _ _ _ ?_); focus (first | omega | (simp; done) | (simp; omega))) | ((with_reducible refine blk_old _ _ _ ?_ ?_); focus (simp; done)) | ((with_reducible refine blk_old _ _ _ ?_ ?_); focus (first | omega | (simp; omega))) | ((with_reducible apply blk_set); focus (simp; done)) | ((with_reducible refine blk_off _ _ _ _ ?_ ?_); focus (simp; done)) | ((with_reducible refine blk_offc _ _ _ _ ?_ ?_); focus (first | (simp; done) | omega | (simp; omega))) | ((with_reducible refine blk_off _ _ _ _ ?_ ?_); focus (first | omega | (simp; omega))) | (with_reducible refine blk_drew _ _ ?_) | ((with_reducible refine blk_below (by assumption) ?_ ?_); focus (simp; done)) | ((with_reducible refine blk_below (by assumption) ?_ ?_); focus (first | omega | (simp; omega)))))
        have hT6 : w6.heap[w.heap.size + 1]? = some (.cells (train (2 + x) s t G) 28 (0, 0)) := (hm6.2.1 _ (by omega)).trans hT5
        have hz6 : w6.heap.size = w.heap.size + 2 := hm6.2.2.trans (by simp [hz5])
        have hd6 : Below b w w6 := Below.trans (by repeat (first | (with_reducible assumption) | (with_reducible exact Below.refl _ _) | ((with_reducible refine bel_alloc _ ?_ ?_); focus (first | omega | (simp; done) | (simp; omega))) | ((with_reducible refine bel_row _ ?_ ?_); focus (first | omega | (simp; done) | (simp; omega))) | ((with_reducible refine bel_cell _ ?_ ?_); focus (first | omega | (simp; done) | (simp; omega))) | (with_reducible refine Below.drew ?_) | (with_reducible refine below_wideW _ ?_) | ((with_reducible refine bel_next (by assumption) ?_ ?_); focus (first | omega | (simp; done) | (simp; omega))))) hm6.1
        clear hm6 hB5 hR5 hd5 hz5 hT5
        have ft6 : w6.frozen? ⟨w.heap.size + 1, 3 + k, none⟩ = false := frozen_of_row w6 _ _ _ _ hT6
        have ct6 : w6.cell? ⟨w.heap.size + 1, 3 + k, none⟩ = some (.float .f32 (G k)) := (cell_of_row w6 _ (3 + k) _ _ _ hT6).trans (row_k3 _ _ _ _ _ k12)
        go_wp2_with (fail)
        go_roundw
        case rel => exact ⟨k + 1, upd G k v, by omega, by go_num, put_row (pre := tpre (2 + x) s t) k12 hT6, put_off (by omega) hR6, small_upd HG.out hv, fun i hi => by unfold upd; rw [if_neg (by omega)]; exact HZ.out i (by omega), ⟨p6, sd6, by omega, put_off (by omega) hB6⟩, by simp [hz6], hd6.setCell (by simp; omega) _⟩
        case measure => simp [intOf]; omega
      · go_wp2_with (first | ((with_reducible refine at_load 28 ?_); refine wpList_load_part rfl 28 _ rfl _ 0 15 rfl _ _ _ _ (by repeat (first | (with_reducible assumption) | ((with_reducible refine blk_new _ _ _ ?_); focus (first | omega | (simp; done) | (simp; omega))) | ((with_reducible refine blk_old _ _ _ ?_ ?_); focus (simp; done)) | ((with_reducible refine blk_old _ _ _ ?_ ?_); focus (first | omega | (simp; omega))) | ((with_reducible apply blk_set); focus (simp; done)) | ((with_reducible refine blk_off _ _ _ _ ?_ ?_); focus (simp; done)) | ((with_reducible refine blk_offc _ _ _ _ ?_ ?_); focus (first | (simp; done) | omega | (simp; omega))) | ((with_reducible refine blk_off _ _ _ _ ?_ ?_); focus (first | omega | (simp; omega))) | (with_reducible refine blk_drew _ _ ?_) | ((with_reducible refine blk_below (by assumption) ?_ ?_); focus (simp; done)) | ((with_reducible refine blk_below (by assumption) ?_ ?_); focus (first | omega | (simp; omega))))) Try.underlying28 rfl (by kernel_rfl) (by simp [row_size]) _ (row_all [_, _, _] 12 _) ?_) | ((with_reducible refine at_store 28 ?_); refine wpList_store_part rfl 28 _ _ rfl _ 0 _ rfl rfl _ _ (by repeat (first | (with_reducible assumption) | ((with_reducible refine blk_new _ _ _ ?_); focus (first | omega | (simp; done) | (simp; omega))) | ((with_reducible refine blk_old _ _ _ ?_ ?_); focus (simp; done)) | ((with_reducible refine blk_old _ _ _ ?_ ?_); focus (first | omega | (simp; omega))) | ((with_reducible apply blk_set); focus (simp; done)) | ((with_reducible refine blk_off _ _ _ _ ?_ ?_); focus (simp; done)) | ((with_reducible refine blk_offc _ _ _ _ ?_ ?_); focus (first | (simp; done) | omega | (simp; omega))) | ((with_reducible refine blk_off _ _ _ _ ?_ ?_); focus (first | omega | (simp; omega))) | (with_reducible refine blk_drew _ _ ?_) | ((with_reducible refine blk_below (by assumption) ?_ ?_); focus (simp; done)) | ((with_reducible refine blk_below (by assumption) ?_ ?_); focus (first | omega | (simp; omega))))) (by rw [row_size]; kernel_rfl) (by simp [row_size]) (row_cells _ _ _ rfl) _ (row_over _ _ 12 _ _ (by simp)) ?_))
        refine bodyPost_ret (v := .agg (train (2 + x) s t G)) ?_ ?_ ?_
        · refine results_cell_row Try.results32 _ _ _ 28 (train (2 + x) s t G) (0, 0) _ rfl ?_ Try.underlying28 rfl (by rw [row_size]; kernel_rfl)
          exact (by repeat (first | (with_reducible assumption) | ((with_reducible refine blk_new _ _ _ ?_); focus (first | omega | (simp; done) | (simp; omega))) | ((with_reducible refine blk_old _ _ _ ?_ ?_); focus (simp; done)) | ((with_reducible refine blk_old _ _ _ ?_ ?_); focus (first | omega | (simp; omega))) | ((with_reducible apply blk_set); focus (simp; done)) | ((with_reducible refine blk_off _ _ _ _ ?_ ?_); focus (simp; done)) | ((with_reducible refine blk_offc _ _ _ _ ?_ ?_); focus (first | (simp; done) | omega | (simp; omega))) | ((with_reducible refine blk_off _ _ _ _ ?_ ?_); focus (first | omega | (simp; omega))) | (with_reducible refine blk_drew _ _ ?_) | ((with_reducible refine blk_below (by assumption) ?_ ?_); focus (simp; done)) | ((with_reducible refine blk_below (by assumption) ?_ ?_); focus (first | omega | (simp; omega)))))
        · rfl
        · exact ⟨2 + x, s, t, G, rfl, ⟨by omega, by omega, hs, ht, HG.out, fun i hi hr => HZ.out i (by omega)⟩, (by repeat (first | (with_reducible assumption) | (with_reducible exact Below.refl _ _) | ((with_reducible refine bel_alloc _ ?_ ?_); focus (first | omega | (simp; done) | (simp; omega))) | ((with_reducible refine bel_row _ ?_ ?_); focus (first | omega | (simp; done) | (simp; omega))) | ((with_reducible refine bel_cell _ ?_ ?_); focus (first | omega | (simp; done) | (simp; omega))) | (with_reducible refine Below.drew ?_) | (with_reducible refine below_wideW _ ?_) | ((with_reducible refine bel_next (by assumption) ?_ ?_); focus (first | omega | (simp; done) | (simp; omega)))))⟩
    · go_wp2_with (first | ((with_reducible refine at_load 28 ?_); refine wpList_load_part rfl 28 _ rfl _ 0 15 rfl _ _ _ _ (by repeat (first | (with_reducible assumption) | ((with_reducible refine blk_new _ _ _ ?_); focus (first | omega | (simp; done) | (simp; omega))) | ((with_reducible refine blk_old _ _ _ ?_ ?_); focus (simp; done)) | ((with_reducible refine blk_old _ _ _ ?_ ?_); focus (first | omega | (simp; omega))) | ((with_reducible apply blk_set); focus (simp; done)) | ((with_reducible refine blk_off _ _ _ _ ?_ ?_); focus (simp; done)) | ((with_reducible refine blk_offc _ _ _ _ ?_ ?_); focus (first | (simp; done) | omega | (simp; omega))) | ((with_reducible refine blk_off _ _ _ _ ?_ ?_); focus (first | omega | (simp; omega))) | (with_reducible refine blk_drew _ _ ?_) | ((with_reducible refine blk_below (by assumption) ?_ ?_); focus (simp; done)) | ((with_reducible refine blk_below (by assumption) ?_ ?_); focus (first | omega | (simp; omega))))) Try.underlying28 rfl (by kernel_rfl) (by simp [row_size]) _ (row_all [_, _, _] 12 _) ?_) | ((with_reducible refine at_store 28 ?_); refine wpList_store_part rfl 28 _ _ rfl _ 0 _ rfl rfl _ _ (by repeat (first | (with_reducible assumption) | ((with_reducible refine blk_new _ _ _ ?_); focus (first | omega | (simp; done) | (simp; omega))) | ((with_reducible refine blk_old _ _ _ ?_ ?_); focus (simp; done)) | ((with_reducible refine blk_old _ _ _ ?_ ?_); focus (first | omega | (simp; omega))) | ((with_reducible apply blk_set); focus (simp; done)) | ((with_reducible refine blk_off _ _ _ _ ?_ ?_); focus (simp; done)) | ((with_reducible refine blk_offc _ _ _ _ ?_ ?_); focus (first | (simp; done) | omega | (simp; omega))) | ((with_reducible refine blk_off _ _ _ _ ?_ ?_); focus (first | omega | (simp; omega))) | (with_reducible refine blk_drew _ _ ?_) | ((with_reducible refine blk_below (by assumption) ?_ ?_); focus (simp; done)) | ((with_reducible refine blk_below (by assumption) ?_ ?_); focus (first | omega | (simp; omega))))) (by rw [row_size]; kernel_rfl) (by simp [row_size]) (row_cells _ _ _ rfl) _ (row_over _ _ 12 _ _ (by simp)) ?_))
      refine bodyPost_ret (v := .agg (train (2 + x) s t G)) ?_ ?_ ?_
      · refine results_cell_row Try.results32 _ _ _ 28 (train (2 + x) s t G) (0, 0) _ rfl ?_ Try.underlying28 rfl (by rw [row_size]; kernel_rfl)
        exact (by repeat (first | (with_reducible assumption) | ((with_reducible refine blk_new _ _ _ ?_); focus (first | omega | (simp; done) | (simp; omega))) | ((with_reducible refine blk_old _ _ _ ?_ ?_); focus (simp; done)) | ((with_reducible refine blk_old _ _ _ ?_ ?_); focus (first | omega | (simp; omega))) | ((with_reducible apply blk_set); focus (simp; done)) | ((with_reducible refine blk_off _ _ _ _ ?_ ?_); focus (simp; done)) | ((with_reducible refine blk_offc _ _ _ _ ?_ ?_); focus (first | (simp; done) | omega | (simp; omega))) | ((with_reducible refine blk_off _ _ _ _ ?_ ?_); focus (first | omega | (simp; omega))) | (with_reducible refine blk_drew _ _ ?_) | ((with_reducible refine blk_below (by assumption) ?_ ?_); focus (simp; done)) | ((with_reducible refine blk_below (by assumption) ?_ ?_); focus (first | omega | (simp; omega)))))
      · rfl
      · exact ⟨2 + x, s, t, G, rfl, ⟨by omega, by omega, hs, ht, HG.out, fun i hi hr => HZ.out i (by omega)⟩, (by repeat (first | (with_reducible assumption) | (with_reducible exact Below.refl _ _) | ((with_reducible refine bel_alloc _ ?_ ?_); focus (first | omega | (simp; done) | (simp; omega))) | ((with_reducible refine bel_row _ ?_ ?_); focus (first | omega | (simp; done) | (simp; omega))) | ((with_reducible refine bel_cell _ ?_ ?_); focus (first | omega | (simp; done) | (simp; omega))) | (with_reducible refine Below.drew ?_) | (with_reducible refine below_wideW _ ?_) | ((with_reducible refine bel_next (by assumption) ?_ ?_); focus (first | omega | (simp; done) | (simp; omega)))))⟩
end Go.Proofs.Ytiddeijhjedbbaa

/- Contracts of A2Train, A2Film, A2Part and of the test for too many bytes; each under its own premises. -/
set_option linter.unusedVariables false
set_option linter.unusedSimpArgs false
namespace Go.Proofs.Ytiddeijhjedbbaa
open Go.RowKit Ieee

theorem bytes_wide {b b' : Nat} {w : World} {ao : Option Addr} {n : Nat} (hb : BytesAt w b ao n) (h : b ≤ b') : BytesAt w b' ao n := by
  refine ⟨hb.1, fun hn => ?_⟩
  obtain ⟨a, ha, hlt, hx⟩ := hb.2 hn
  exact ⟨a, ha, by omega, hx⟩
theorem from_any (ao : Option Addr) (n cap : Nat) (w : World) : Calls Try.prog 33 #[.slice ao n cap] w fun e w' => e = .returned (.pointer (some ⟨w.heap.size, 0, none⟩)) ∧ w' = w.alloc (.cells #[.slice ao n cap, .int .i64 0, .int .u64 0] 83) := by
  go_enter Try.func33, Try.ntmps33
  go_wp2
  go_ret
  exact ⟨rfl, rfl⟩

theorem a2film_any (ao : Option Addr) (n cap : Nat) (w : World) (hb : BytesAt w w.heap.size ao n) : Calls Try.prog 6 #[.slice ao n cap] w fun e w' => ∃ v : Nat, e = .returned (.float .f32 v) ∧ Small v ∧ Below w.heap.size w w' := by
  go_enter Try.func6, Try.ntmps6
  go_wp2_with (go_at_call 33; (with_reducible refine (from_any ao n cap _).mono ?_); rintro e w' ⟨rfl, rfl⟩)
  refine (thick_any w.heap.size 0 ao n cap _ (by omega) ⟨0, 0, Nat.le_refl _, blk_new _ _ _ rfl⟩ (bytes_below (by repeat (first | (with_reducible assumption) | (with_reducible exact Below.refl _ _) | ((with_reducible refine bel_alloc _ ?_ ?_); focus (first | omega | (simp; done) | (simp; omega))) | ((with_reducible refine bel_row _ ?_ ?_); focus (first | omega | (simp; done) | (simp; omega))) | ((with_reducible refine bel_cell _ ?_ ?_); focus (first | omega | (simp; done) | (simp; omega))) | (with_reducible refine Below.drew ?_) | (with_reducible refine below_wideW _ ?_) | ((with_reducible refine bel_next (by assumption) ?_ ?_); focus (first | omega | (simp; done) | (simp; omega))))) hb)).mono ?_
  rintro e w1 ⟨v, rfl, hv, _, hm⟩
  go_wp2
  go_ret
  exact ⟨v, rfl, hv, Below.trans (by repeat (first | (with_reducible assumption) | (with_reducible exact Below.refl _ _) | ((with_reducible refine bel_alloc _ ?_ ?_); focus (first | omega | (simp; done) | (simp; omega))) | ((with_reducible refine bel_row _ ?_ ?_); focus (first | omega | (simp; done) | (simp; omega))) | ((with_reducible refine bel_cell _ ?_ ?_); focus (first | omega | (simp; done) | (simp; omega))) | (with_reducible refine Below.drew ?_) | (with_reducible refine below_wideW _ ?_) | ((with_reducible refine bel_next (by assumption) ?_ ?_); focus (first | omega | (simp; done) | (simp; omega))))) hm.1⟩

theorem a2part_any (ao : Option Addr) (n cap : Nat) (w : World) (hb : BytesAt w w.heap.size ao n) : Calls Try.prog 7 #[.slice ao n cap] w fun e w' => ∃ v : Nat, e = .returned (.float .f32 v) ∧ partB v = true ∧ Below w.heap.size w w' := by
  go_enter Try.func7, Try.ntmps7
  go_wp2_with (go_at_call 33; (with_reducible refine (from_any ao n cap _).mono ?_); rintro e w' ⟨rfl, rfl⟩)
  refine (tone_any w.heap.size 0 ao n cap _ (by omega) ⟨0, 0, Nat.le_refl _, blk_new _ _ _ rfl⟩ (bytes_below (by repeat (first | (with_reducible assumption) | (with_reducible exact Below.refl _ _) | ((with_reducible refine bel_alloc _ ?_ ?_); focus (first | omega | (simp; done) | (simp; omega))) | ((with_reducible refine bel_row _ ?_ ?_); focus (first | omega | (simp; done) | (simp; omega))) | ((with_reducible refine bel_cell _ ?_ ?_); focus (first | omega | (simp; done) | (simp; omega))) | (with_reducible refine Below.drew ?_) | (with_reducible refine below_wideW _ ?_) | ((with_reducible refine bel_next (by assumption) ?_ ?_); focus (first | omega | (simp; done) | (simp; omega))))) hb)).mono ?_
  rintro e w1 ⟨v, rfl, hv, _, hm⟩
  go_wp2
  go_ret
  exact ⟨v, rfl, hv, Below.trans (by repeat (first | (with_reducible assumption) | (with_reducible exact Below.refl _ _) | ((with_reducible refine bel_alloc _ ?_ ?_); focus (first | omega | (simp; done) | (simp; omega))) | ((with_reducible refine bel_row _ ?_ ?_); focus (first | omega | (simp; done) | (simp; omega))) | ((with_reducible refine bel_cell _ ?_ ?_); focus (first | omega | (simp; done) | (simp; omega))) | (with_reducible refine Below.drew ?_) | (with_reducible refine below_wideW _ ?_) | ((with_reducible refine bel_next (by assumption) ?_ ?_); focus (first | omega | (simp; done) | (simp; omega))))) hm.1⟩

theorem a2train_any (ao : Option Addr) (n cap : Nat) (w : World) (hb : BytesAt w w.heap.size ao n) : Calls Try.prog 5 #[.slice ao n cap] w fun e w' => ∃ (r : Int) (s t : Nat) (F : Nat → Nat), e = .returned (.agg (train r s t F)) ∧ SmallT r s t F ∧ Below w.heap.size w w' := by
  have hz : (#[Value.int IntKind.i8 0, Value.float FloatKind.f32 0, Value.float FloatKind.f32 0, Value.float FloatKind.f32 0, Value.float FloatKind.f32 0, Value.float FloatKind.f32 0, Value.float FloatKind.f32 0, Value.float FloatKind.f32 0, Value.float FloatKind.f32 0, Value.float FloatKind.f32 0, Value.float FloatKind.f32 0, Value.float FloatKind.f32 0, Value.float FloatKind.f32 0, Value.float FloatKind.f32 0, Value.float FloatKind.f32 0] : Array Value) = row [Value.int IntKind.i8 0, Value.float FloatKind.f32 0, Value.float FloatKind.f32 0] 12 (fun _ => 0) := rfl
  go_enter Try.func5, Try.ntmps5
  go_wp2_with (go_at_call 33; (with_reducible refine (from_any ao n cap _).mono ?_); rintro e w' ⟨rfl, rfl⟩)
  refine (drawn_any (w.heap.size + 1) ao n cap _ ⟨0, 0, Nat.le_refl _, blk_new _ _ _ (by simp)⟩ (bytes_wide (bytes_below (by repeat (first | (with_reducible assumption) | (with_reducible exact Below.refl _ _) | ((with_reducible refine bel_alloc _ ?_ ?_); focus (first | omega | (simp; done) | (simp; omega))) | ((with_reducible refine bel_row _ ?_ ?_); focus (first | omega | (simp; done) | (simp; omega))) | ((with_reducible refine bel_cell _ ?_ ?_); focus (first | omega | (simp; done) | (simp; omega))) | (with_reducible refine Below.drew ?_) | (with_reducible refine below_wideW _ ?_) | ((with_reducible refine bel_next (by assumption) ?_ ?_); focus (first | omega | (simp; done) | (simp; omega))))) hb) (by omega)) (by simp)).mono ?_
  rintro e w1 ⟨r, s, t, G, rfl, hS, hm⟩
  have hR : w1.heap[w.heap.size]? = some (.cells (train 0 0 0 (fun _ => 0)) 28 (0, 0)) := (hm.block _ (by omega)).trans (by repeat (first | (with_reducible assumption) | ((with_reducible refine blk_new _ _ _ ?_); focus (first | omega | (simp; done) | (simp; omega))) | ((with_reducible refine blk_old _ _ _ ?_ ?_); focus (simp; done)) | ((with_reducible refine blk_old _ _ _ ?_ ?_); focus (first | omega | (simp; omega))) | ((with_reducible apply blk_set); focus (simp; done)) | ((with_reducible refine blk_off _ _ _ _ ?_ ?_); focus (simp; done)) | ((with_reducible refine blk_offc _ _ _ _ ?_ ?_); focus (first | (simp; done) | omega | (simp; omega))) | ((with_reducible refine blk_off _ _ _ _ ?_ ?_); focus (first | omega | (simp; omega))) | (with_reducible refine blk_drew _ _ ?_) | ((with_reducible refine blk_below (by assumption) ?_ ?_); focus (simp; done)) | ((with_reducible refine blk_below (by assumption) ?_ ?_); focus (first | omega | (simp; omega)))))
  have hz : w.heap.size + 2 ≤ w1.heap.size := by have := hm.size; simp at this; omega
  go_wp2_with (first | ((with_reducible refine at_store 28 ?_); refine wpList_store_part rfl 28 _ _ rfl _ 0 _ rfl rfl _ _ (by repeat (first | (with_reducible assumption) | ((with_reducible refine blk_new _ _ _ ?_); focus (first | omega | (simp; done) | (simp; omega))) | ((with_reducible refine blk_old _ _ _ ?_ ?_); focus (simp; done)) | ((with_reducible refine blk_old _ _ _ ?_ ?_); focus (first | omega | (simp; omega))) | ((with_reducible apply blk_set); focus (simp; done)) | ((with_reducible refine blk_off _ _ _ _ ?_ ?_); focus (simp; done)) | ((with_reducible refine blk_offc _ _ _ _ ?_ ?_); focus (first | (simp; done) | omega | (simp; omega))) | ((with_reducible refine blk_off _ _ _ _ ?_ ?_); focus (first | omega | (simp; omega))) | (with_reducible refine blk_drew _ _ ?_) | ((with_reducible refine blk_below (by assumption) ?_ ?_); focus (simp; done)) | ((with_reducible refine blk_below (by assumption) ?_ ?_); focus (first | omega | (simp; omega))))) (by rw [row_size]; kernel_rfl) (by simp [row_size]) (row_cells _ _ _ rfl) _ (row_over _ _ 12 _ _ (by simp)) ?_))
  refine bodyPost_ret (v := .agg (train r s t G)) ?_ ?_ ?_
  · refine results_cell_row Try.results5 _ _ _ 28 (train r s t G) (0, 0) _ rfl ?_ Try.underlying28 rfl (by rw [row_size]; kernel_rfl)
    exact (by repeat (first | (with_reducible assumption) | ((with_reducible refine blk_new _ _ _ ?_); focus (first | omega | (simp; done) | (simp; omega))) | ((with_reducible refine blk_old _ _ _ ?_ ?_); focus (simp; done)) | ((with_reducible refine blk_old _ _ _ ?_ ?_); focus (first | omega | (simp; omega))) | ((with_reducible apply blk_set); focus (simp; done)) | ((with_reducible refine blk_off _ _ _ _ ?_ ?_); focus (simp; done)) | ((with_reducible refine blk_offc _ _ _ _ ?_ ?_); focus (first | (simp; done) | omega | (simp; omega))) | ((with_reducible refine blk_off _ _ _ _ ?_ ?_); focus (first | omega | (simp; omega))) | (with_reducible refine blk_drew _ _ ?_) | ((with_reducible refine blk_below (by assumption) ?_ ?_); focus (simp; done)) | ((with_reducible refine blk_below (by assumption) ?_ ?_); focus (first | omega | (simp; omega)))))
  · rfl
  · exact ⟨r, s, t, G, rfl, hS, bel_row _ (Nat.le_refl _) (Below.trans (by repeat (first | (with_reducible assumption) | (with_reducible exact Below.refl _ _) | ((with_reducible refine bel_alloc _ ?_ ?_); focus (first | omega | (simp; done) | (simp; omega))) | ((with_reducible refine bel_row _ ?_ ?_); focus (first | omega | (simp; done) | (simp; omega))) | ((with_reducible refine bel_cell _ ?_ ?_); focus (first | omega | (simp; done) | (simp; omega))) | (with_reducible refine Below.drew ?_) | (with_reducible refine below_wideW _ ?_) | ((with_reducible refine bel_next (by assumption) ?_ ?_); focus (first | omega | (simp; done) | (simp; omega))))) (hm.mono (by omega)))⟩
theorem a2Long_any (ao ao' : Option Addr) (n cap n' cap' : Nat) (w : World) (h1 : n ≤ maxLen) (h2 : n' ≤ maxLen) : Calls Try.prog 4 #[.slice ao n cap, .slice ao' n' cap'] w fun e w' => e = .returned (.bool (decide (3000 < n) || decide (3000 < n'))) ∧ w = w' := by
  by_cases hn : 3000 < n
  · go_enter Try.func4, Try.ntmps4
    go_wp2
    go_ret
    exact ⟨by simp [hn], rfl⟩
  · by_cases hm : 3000 < n'
    · go_enter Try.func4, Try.ntmps4
      go_wp2
      go_ret
      exact ⟨by simp [hm]; omega, rfl⟩
    · go_enter Try.func4, Try.ntmps4
      go_wp2
      go_ret
      exact ⟨by simp [hn, hm]; omega, rfl⟩
end Go.Proofs.Ytiddeijhjedbbaa

/- Contracts of SameTrain, the reference's, of numbers of any size; each under its own premises. -/
set_option linter.unusedVariables false
set_option linter.unusedSimpArgs false
namespace Go.Proofs.Ytiddeijhjedbbaa
open Go.RowKit Ieee
set_option maxHeartbeats 1600000 in
theorem specSameTr0_any (r : Int) (s t : Nat) (F : Nat → Nat) (r' : Int) (s' t' : Nat) (F' : Nat → Nat) (w : World) (B B' : Nat) (hB : w.heap[B]? = some (.cells (train r s t F) 28 (0, 0))) (hB' : w.heap[B']? = some (.cells (train r' s' t' F') 28 (0, 0))) :
    Calls Try.prog 44 #[.pointer (some ⟨B, 0, none⟩), .pointer (some ⟨B', 0, none⟩)] w fun e w' => e = .returned (.bool (sameT r s t F r' s' t' F')) ∧ ∃ m, w' = w.drewN m := by
  have HB := Lib.hid hB
  have HB' := Lib.hid hB'
  clear hB hB'
  go_enter Try.func44, Try.ntmps44
  go_wp2
  go_loopw [5] (fun i wr => ∃ k m : Nat, k ≤ 12 ∧ i = .int .i64 k ∧ sameTo F F' k = true ∧ wr = w.drewN m) (fun i _ => 12 - (intOf i).toNat)
  case atStart => exact ⟨0, 0, by omega, rfl, rfl, rfl⟩
  case round =>
    obtain ⟨k, m, hk, rfl, hsm, hwr⟩ := hrel
    have HW := Lib.hid hwr
    have HS := Lib.hid hsm
    clear hsm
    by_cases hlt : k < 12
    · have ca : wr.cell? ⟨B, 3 + k, none⟩ = some (.float .f32 (F k)) := by rw [hwr]; exact (cell_of_row w _ (3 + k) _ _ _ HB.out).trans (row_k3 _ _ _ _ _ hlt)
      have cb : wr.cell? ⟨B', 3 + k, none⟩ = some (.float .f32 (F' k)) := by rw [hwr]; exact (cell_of_row w _ (3 + k) _ _ _ HB'.out).trans (row_k3 _ _ _ _ _ hlt)
      clear hwr
      cases hk2 : sameN (F k) (F' k)
      · go_wp2
        go_quiet ((go_at_call 56; with_reducible exact specSame_q hk2 _ _))
        go_wp2
        go_ret
        exact ⟨by unfold sameT; rw [sameTo_no hlt hk2]; simp, _, by rw [HW.out, World.drewN_drewN]⟩
      · go_wp2
        go_quiet ((go_at_call 56; with_reducible exact specSame_q hk2 _ _))
        go_wp2
        go_roundw
        case rel => exact ⟨k + 1, _, by omega, by go_num, by simp [sameTo, HS.out, hk2], by rw [HW.out, World.drewN_drewN]⟩
        case measure => simp [intOf]; omega
    · obtain rfl : k = 12 := by omega
      have d0 : wr.cell? ⟨B, 0, none⟩ = some (.int .i8 r) := by rw [hwr]; exact (cell_of_row w _ 0 _ _ _ HB.out).trans (row_g0 _ _ _ _)
      have d1 : wr.cell? ⟨B, 1, none⟩ = some (.float .f32 s) := by rw [hwr]; exact (cell_of_row w _ 1 _ _ _ HB.out).trans (row_g1 _ _ _ _ _)
      have d2 : wr.cell? ⟨B, 2, none⟩ = some (.float .f32 t) := by rw [hwr]; exact (cell_of_row w _ 2 _ _ _ HB.out).trans (row_g2 _ _ _ _ _ _)
      have e0 : wr.cell? ⟨B', 0, none⟩ = some (.int .i8 r') := by rw [hwr]; exact (cell_of_row w _ 0 _ _ _ HB'.out).trans (row_g0 _ _ _ _)
      have e1 : wr.cell? ⟨B', 1, none⟩ = some (.float .f32 s') := by rw [hwr]; exact (cell_of_row w _ 1 _ _ _ HB'.out).trans (row_g1 _ _ _ _ _)
      have e2 : wr.cell? ⟨B', 2, none⟩ = some (.float .f32 t') := by rw [hwr]; exact (cell_of_row w _ 2 _ _ _ HB'.out).trans (row_g2 _ _ _ _ _ _)
      clear hwr
      by_cases hr : r = r'
      · cases h1 : sameN s s'
        · have h2 := h1
          go_wp2
          go_quiet (first | (go_at_call 56; with_reducible exact specSame_q h1 _ _) | (go_at_call 56; with_reducible exact specSame_q h2 _ _))
          go_wp2
          go_ret
          exact ⟨by unfold sameT; rw [HS.out]; simp [h1], _, by rw [HW.out, World.drewN_drewN]⟩
        · cases h2 : sameN t t'
          · skip
            go_wp2
            go_quiet (first | (go_at_call 56; with_reducible exact specSame_q h1 _ _) | (go_at_call 56; with_reducible exact specSame_q h2 _ _))
            go_wp2
            go_ret
            exact ⟨by unfold sameT; rw [HS.out]; simp [h1, h2], _, by rw [HW.out, World.drewN_drewN]⟩
          · skip
            go_wp2
            go_quiet (first | (go_at_call 56; with_reducible exact specSame_q h1 _ _) | (go_at_call 56; with_reducible exact specSame_q h2 _ _))
            go_wp2
            go_ret
            exact ⟨by unfold sameT; rw [HS.out]; simp [hr, h1, h2], _, by rw [HW.out, World.drewN_drewN]⟩
      · have hrb : (r == r') = false := by simp [hr]
        go_wp2
        go_quiet (fail)
        go_wp2
        go_ret
        exact ⟨by unfold sameT; simp [hr], _, by rw [HW.out, World.drewN_drewN]⟩

theorem specSameT0_any (r : Int) (s t : Nat) (F : Nat → Nat) (r' : Int) (s' t' : Nat) (F' : Nat → Nat) (w : World) : Calls Try.prog 10 #[.agg (train r s t F), .agg (train r' s' t' F')] w fun e w' => e = .returned (.bool (sameT r s t F r' s' t' F')) ∧ Below w.heap.size w w' := by
  have hB : ((w.alloc (.cells (train r s t F) 28)).alloc (.cells (train r' s' t' F') 28)).heap[w.heap.size]? = some (.cells (train r s t F) 28 (0, 0)) := (by repeat (first | (with_reducible assumption) | ((with_reducible refine blk_new _ _ _ ?_); focus (simp; done)) | ((with_reducible refine blk_old _ _ _ ?_ ?_); focus (simp; done)) | ((with_reducible refine blk_old _ _ _ ?_ ?_); focus (first | omega | (simp; omega))) | ((with_reducible apply blk_set); focus (simp; done)) | ((with_reducible refine blk_off _ _ _ _ ?_ ?_); focus (simp; done)) | ((with_reducible refine blk_off _ _ _ _ ?_ ?_); focus (first | omega | (simp; omega))) | (with_reducible refine blk_drew _ _ ?_) | ((with_reducible refine blk_below (by assumption) ?_ ?_); focus (simp; done)) | ((with_reducible refine blk_below (by assumption) ?_ ?_); focus (first | omega | (simp; omega)))))
  have hB' : ((w.alloc (.cells (train r s t F) 28)).alloc (.cells (train r' s' t' F') 28)).heap[w.heap.size + 1]? = some (.cells (train r' s' t' F') 28 (0, 0)) := (by repeat (first | (with_reducible assumption) | ((with_reducible refine blk_new _ _ _ ?_); focus (simp; done)) | ((with_reducible refine blk_old _ _ _ ?_ ?_); focus (simp; done)) | ((with_reducible refine blk_old _ _ _ ?_ ?_); focus (first | omega | (simp; omega))) | ((with_reducible apply blk_set); focus (simp; done)) | ((with_reducible refine blk_off _ _ _ _ ?_ ?_); focus (simp; done)) | ((with_reducible refine blk_off _ _ _ _ ?_ ?_); focus (first | omega | (simp; omega))) | (with_reducible refine blk_drew _ _ ?_) | ((with_reducible refine blk_below (by assumption) ?_ ?_); focus (simp; done)) | ((with_reducible refine blk_below (by assumption) ?_ ?_); focus (first | omega | (simp; omega)))))
  go_enter Try.func10, Try.ntmps10
  go_wp2_with (go_at_call 44; (with_reducible refine (specSameTr0_any r s t F r' s' t' F' _ _ _ hB hB').mono ?_); rintro e w' ⟨rfl, m, rfl⟩)
  go_ret
  exact ⟨rfl, bel_drewN _ (by repeat (first | (with_reducible assumption) | (with_reducible exact Below.refl _ _) | ((with_reducible refine bel_alloc _ ?_ ?_); focus (first | omega | (simp; done) | (simp; omega))) | ((with_reducible refine bel_row _ ?_ ?_); focus (first | omega | (simp; done) | (simp; omega))) | ((with_reducible refine bel_cell _ ?_ ?_); focus (first | omega | (simp; done) | (simp; omega))) | (with_reducible refine Below.drew ?_) | (with_reducible refine below_wideW _ ?_) | ((with_reducible refine bel_next (by assumption) ?_ ?_); focus (first | omega | (simp; done) | (simp; omega)))))⟩

theorem sameN_self (a : Nat) : sameN a a = true := by
  unfold sameN
  split
  · rename_i h
    have : Flt.NaN Ieee.single a := by rcases h with h | h <;> exact h
    simp [this]
  · simp
theorem sameTo_eq {F G : Nat → Nat} : ∀ n, (∀ i, i < n → F i = G i) → sameTo F G n = true
  | 0, _ => rfl
  | n + 1, h => by
    show (sameTo F G n && sameN (F n) (G n)) = true
    rw [sameTo_eq n (fun i hi => h i (by omega)), h n (by omega), sameN_self]
    rfl
theorem sameT_eq {r : Int} {s t : Nat} {F G : Nat → Nat} (h : ∀ i, i < 12 → F i = G i) : sameT r s t F r s t G = true := by
  unfold sameT
  rw [sameN_self, sameN_self, sameTo_eq 12 h]
  simp
end Go.Proofs.Ytiddeijhjedbbaa

/- Contracts of what FnSteady calls, of trains of small films; each under its own premises. -/
set_option linter.unusedVariables false
set_option linter.unusedSimpArgs false
namespace Go.Proofs.Ytiddeijhjedbbaa
open Go.RowKit Ieee

theorem sameS {r : Int} {s t : Nat} {F G : Nat → Nat} (h : ∀ i, i < 12 → F i = G i) (w : World) : Calls Try.prog 10 #[.agg (train r s t F), .agg (train r s t G)] w fun e w' => e = .returned (.bool true) ∧ Below w.heap.size w w' := by
  have := specSameT0_any r s t F r s t G w
  rwa [sameT_eq h] at this
def zonesZ (cov : Nat) : Nat → Nat := fun i => if i = 0 then cov else if i = 2 then 1065353216 else if i = 3 then 1056964608 else 0
def zonesF (fed : Nat) : Nat → Nat := fun i => if i = 0 then fed else if i = 1 then 1065353216 else if i = 2 then fed else if i = 3 then 1073741824 else 0
theorem zonesZ_part {cov : Nat} (hc : partB cov = true) (i : Nat) : partB (zonesZ cov i) = true := by
  unfold zonesZ
  split
  · exact hc
  · split
    · decide +kernel
    · split <;> decide +kernel
theorem zonesF_small {fed : Nat} (hf : Small fed) (i : Nat) : Small (zonesF fed i) := by
  have h1 : Small 1065353216 := ⟨by decide, by decide +kernel, by decide +kernel⟩
  have h2 : Small 1073741824 := ⟨by decide, by decide +kernel, by decide +kernel⟩
  unfold zonesF
  split
  · exact hf
  · split
    · exact h1
    · split
      · exact hf
      · split
        · exact h2
        · exact small_zero
theorem zoneB_all {z fd : Nat → Nat} (hz : ∀ i, partB (z i) = true) (hf : ∀ i, Small (fd i)) : ∀ n, zoneB z fd n = true
  | 0 => rfl
  | n + 1 => by
    show (zoneB z fd n && (partB (z n) && filmB (fd n))) = true
    rw [zoneB_all hz hf n, hz n, small_film (hf n)]
    rfl
theorem size_abs {v wi : Nat} (hv : ¬ Flt.NaN single v) (hw : ¬ Flt.NaN single wi) : leF (sizeS v) wi = leF (absN v) wi := by
  unfold sizeS
  cases hc : (FloatKind.f32.format.order v 0 == some .lt)
  · have hz : 0 ≤ Z32 v := by
      rw [order_Z hv (by decide)] at hc
      rcases Int.lt_trichotomy (Z32 v) 0 with h | h | h
      · rw [show Z32 0 = 0 from Z_zero, Int.compare_eq_lt.2 h] at hc; simp at hc
      · omega
      · omega
    have h1 := leF_iff (a := v) hw
    have h2 := leF_iff (a := absN v) hw
    rw [abs_Z_pos hz] at h2
    have hn := absN_num hv
    simp only [Bool.false_eq_true, if_false]
    cases h3 : leF v wi <;> cases h4 : leF (absN v) wi <;> simp_all <;> omega
  · simp
theorem near_q {a b wi : Nat} {v : Bool} (ha : Fin32 a) (hb : Fin32 b) (hd : Fin32 (fsub a b)) (hw : ¬ Flt.NaN single wi) (h : leF (absN (fsub a b)) wi = v) (w : World) (n : Nat) :
    Calls Try.prog 13 #[.float .f32 a, .float .f32 b, .float .f32 wi] (w.drewN n) fun e w' => e = .returned (.bool v) ∧ ∃ m, w' = w.drewN m := by
  have e1 := fun w => run_fsub (P := Try.prog) w 25 ha hb
  have hn := fin_nan hd
  have hl := fsub_lt ha hb
  rw [← size_abs hn hw] at h
  unfold leF at h
  go_enter Try.func13, Try.ntmps13
  go_wp2_with (fail)
  refine (specSize_q hn hl w n).mono ?_
  rintro e w1 ⟨rfl, m, rfl⟩
  go_wp2
  go_ret
  exact ⟨by simp, m, rfl⟩
set_option maxHeartbeats 1600000 in
theorem a2same_any (G : Nat → Nat) (b b' c c' : Nat) (w : World) (hc : ∀ i : Nat, i < 8 → w.cell? ⟨b, i, none⟩ = some (.float .f32 (G i))) (hc' : ∀ i : Nat, i < 8 → w.cell? ⟨b', i, none⟩ = some (.float .f32 (G i))) :
    Calls Try.prog 31 #[.slice (some ⟨b, 0, none⟩) 8 c, .slice (some ⟨b', 0, none⟩) 8 c'] w fun e w' => e = .returned (.bool true) ∧ ∃ m, w' = w.drewN m := by
  have HC := Lib.hid hc
  have HC' := Lib.hid hc'
  clear hc hc'
  go_enter Try.func31, Try.ntmps31
  go_wp2
  go_loopw [5] (fun i wr => ∃ k m : Nat, k ≤ 8 ∧ i = .int .i64 k ∧ wr = w.drewN m) (fun i _ => 8 - (intOf i).toNat)
  case atStart => exact ⟨0, 0, by omega, rfl, rfl⟩
  case round =>
    obtain ⟨k, m, hk, rfl, hwr⟩ := hrel
    by_cases hlt : k < 8
    · have ca : wr.cell? ⟨b, k, none⟩ = some (.float .f32 (G k)) := by rw [hwr]; exact HC.out k hlt
      have cb : wr.cell? ⟨b', k, none⟩ = some (.float .f32 (G k)) := by rw [hwr]; exact HC'.out k hlt
      have hk2 : sameN (G k) (G k) = true := sameN_self _
      have HW := Lib.hid hwr
      clear hwr
      go_wp2
      go_quiet ((go_at_call 56; with_reducible exact specSame_q hk2 _ _))
      go_wp2
      go_roundw
      case rel => exact ⟨k + 1, _, by omega, by go_num, by rw [HW.out, World.drewN_drewN]⟩
      case measure => simp [intOf]; omega
    · obtain rfl : k = 8 := by omega
      have HW := Lib.hid hwr
      clear hwr
      go_wp2
      go_ret
      exact ⟨rfl, m, HW.out⟩

theorem drop_wide {r : Int} {F : Nat → Nat} {fed : Nat} (i : Nat) : dropF r.toNat r.toNat (upd F r.toNat fed) i = if i = r.toNat then 0 else F i := by
  unfold dropF upd shiftF
  by_cases h : i = r.toNat
  · rw [if_pos h, if_pos h]
  · rw [if_neg h, if_neg h, if_neg (by omega)]
    exact if_neg h
section
variable {r : Int} {s t : Nat} {F : Nat → Nat} {fed cov : Nat} (hS : SmallT r s t F)
include hS
theorem SmallT.lo : -128 ≤ r := by have := hS.h2; omega
theorem SmallT.hi : r ≤ 127 := by have := hS.h6; omega
theorem SmallT.ok : trainB r s t F = true := by
  refine trainB_of hS.h2 (by have := hS.h6; omega) hS.hs hS.ht (fun i hi => ⟨(hS.hF i (by have := hS.h6; omega)).1, (hS.hF i (by have := hS.h6; omega)).2.1⟩) ?_ (fun i hi hr => by rw [hS.hz i hi hr]; decide)
  have h2 := hS.h2
  have h6 := hS.h6
  have s1 := small_sum (n := r.toNat) (F := F) (fun i hi => hS.hF i (by omega)) r.toNat (Nat.le_refl _)
  have s2 : (r.toNat : Int) * 2 ^ 152 ≤ 6 * 2 ^ 152 := Int.mul_le_mul_of_nonneg_right (by omega) (by decide)
  unfold lid
  omega
theorem fallsS (w : World) : Calls Try.prog 18 #[.agg (train r s t F)] w fun e w' => e = .returned (.tuple #[.bool (fallsTo F r.toNat), .int .i64 0]) ∧ Below w.heap.size w w' := by
  have := specFalls_any r s t F w hS.lo hS.hi
  unfold fallsR codeV at this
  rwa [hS.ok] at this
theorem fallsI (w : World) : Calls Try.prog 17 #[.agg (train r s t F)] w fun e w' => e = .returned (.tuple #[.bool (fallsTo F r.toNat), .int .i64 0]) ∧ Below w.heap.size w w' := by
  have := implFalls_any r s t F w hS.lo hS.hi
  unfold fallsR codeV at this
  rwa [hS.ok] at this
theorem thickI (w : World) : Calls Try.prog 16 #[.agg (train r s t F)] w fun e w' => e = .returned (.tuple #[.int .i64 (thickAt F r.toNat), .float .f32 (F (thickAt F r.toNat)), .int .i64 0]) ∧ Below w.heap.size w w' := by
  have := implThick_any r s t F w hS.lo hS.hi
  unfold thickR thickF codeV at this
  rwa [hS.ok] at this
theorem washS (hc : partB cov = true) (w : World) : Calls Try.prog 15 #[.agg (train r s t F), .float .f32 cov] w fun e w' => e = .returned (.tuple #[.agg (train r s t (washF r F cov)), .int .i64 0]) ∧ Below w.heap.size w w' := by
  have := specWash_any r s t F cov w hS.lo hS.hi
  unfold codeT at this
  rwa [hS.ok, hc] at this
theorem washI (hc : partB cov = true) (w : World) : Calls Try.prog 14 #[.agg (train r s t F), .float .f32 cov] w fun e w' => e = .returned (.tuple #[.agg (train r s t (washF r F cov)), .int .i64 0]) ∧ Below w.heap.size w w' := by
  have := implWash_any r s t F cov w hS.lo hS.hi
  unfold codeT at this
  rwa [hS.ok, hc] at this
theorem addS (hf : Small fed) (w : World) : Calls Try.prog 20 #[.agg (train r s t F), .float .f32 fed] w fun e w' => e = .returned (.tuple #[.agg (train (r + 1) s t (upd F r.toNat fed)), .int .i64 0]) ∧ Below w.heap.size w w' := by
  have := specAdd_any r s t F fed w hS.lo hS.hi
  have h12 : r < 12 := by have := hS.h6; omega
  rw [hS.ok, small_film hf, decide_eq_true h12] at this
  simpa [h12] using this
theorem addI (hf : Small fed) (w : World) : Calls Try.prog 19 #[.agg (train r s t F), .float .f32 fed] w fun e w' => e = .returned (.tuple #[.agg (train (r + 1) s t (upd F r.toNat fed)), .int .i64 0]) ∧ Below w.heap.size w w' := by
  have := implAdd_any r s t F fed w hS.lo hS.hi
  have h12 : r < 12 := by have := hS.h6; omega
  rw [hS.ok, small_film hf, decide_eq_true h12] at this
  simpa [h12] using this
theorem wide_ok (hf : Small fed) : trainB (r + 1) s t (upd F r.toNat fed) = true := by
  have h2 := hS.h2
  have h6 := hS.h6
  have hu : ∀ i : Nat, i < 12 → Small (upd F r.toNat fed i) := small_upd hS.hF hf
  have s1 := small_sum (n := (r + 1).toNat) (F := upd F r.toNat fed) (fun i hi => hu i (by omega)) (r + 1).toNat (Nat.le_refl _)
  have s2 : ((r + 1).toNat : Int) * 2 ^ 152 ≤ 7 * 2 ^ 152 := Int.mul_le_mul_of_nonneg_right (by omega) (by decide)
  refine trainB_of (by omega) (by omega) hS.hs hS.ht (fun i hi => ⟨(hu i (by omega)).1, (hu i (by omega)).2.1⟩) (by unfold lid; omega) (fun i hi hr => ?_)
  unfold upd
  rw [if_neg (by omega), hS.hz i hi (by omega)]
  decide
theorem dropI (hf : Small fed) (w : World) : Calls Try.prog 21 #[.agg (train (r + 1) s t (upd F r.toNat fed)), .int .i64 r] w fun e w' => e = .returned (.tuple #[.agg (train r s t (dropF r.toNat r.toNat (upd F r.toNat fed))), .int .i64 0]) ∧ Below w.heap.size w w' := by
  have h2 := hS.h2
  have h6 := hS.h6
  have := implDrop_any (r + 1) s t (upd F r.toNat fed) r w (by omega) (by omega) (by omega) (by omega)
  rw [wide_ok hS hf, decide_eq_true (show 0 ≤ r by omega), decide_eq_true (show r < r + 1 by omega), show r + 1 - 1 = r by omega, show (r + 1 == 2) = false by simp; omega] at this
  simpa using this
theorem home_same (hf : Small fed) : ∀ i, i < 12 → dropF r.toNat r.toNat (upd F r.toNat fed) i = F i := by
  intro i hi
  have h2 := hS.h2
  rw [drop_wide]
  split
  · rename_i h
    rw [hS.hz i hi (by omega)]
  · rfl
theorem fedS (hf : Small fed) (hc : partB cov = true) (w : World) : Calls Try.prog 25 #[.float .f32 cov, .float .f32 fed, .agg (train r s t F)] w fun e w' => e = .returned (.tuple #[.float .f32 (fmul fed (fmul t cov)), .int .i64 0]) ∧ Below w.heap.size w w' := by
  have := specSteady_any cov fed r s t F w hS.lo hS.hi
  unfold steadyR codeT at this
  rwa [hS.ok, small_film hf, hc] at this
theorem fedI (hf : Small fed) (hc : partB cov = true) (w : World) : Calls Try.prog 24 #[.float .f32 cov, .float .f32 fed, .agg (train r s t F)] w fun e w' => e = .returned (.tuple #[.float .f32 (fmul fed (fmul t cov)), .int .i64 0]) ∧ Below w.heap.size w w' := by
  have := implSteady_any cov fed r s t F w hS.lo hS.hi
  unfold steadyR codeT at this
  rwa [hS.ok, small_film hf, hc] at this
theorem mixS {s' t' : Nat} {F' : Nat → Nat} (hS' : SmallT r s' t' F') (w : World) : Calls Try.prog 23 #[.agg (train r s t F), .agg (train r s' t' F')] w fun e w' => e = .returned (.tuple #[.agg (train r s t (mixTF r F F')), .int .i64 0]) ∧ Below w.heap.size w w' := by
  have := specMix_any r s t F r s' t' F' w hS.lo hS.hi hS.lo hS.hi
  rw [hS.ok, hS'.ok] at this
  simpa using this
theorem mixI {s' t' : Nat} {F' : Nat → Nat} (hS' : SmallT r s' t' F') (w : World) : Calls Try.prog 22 #[.agg (train r s t F), .agg (train r s' t' F')] w fun e w' => e = .returned (.tuple #[.agg (train r s t (mixTF r F F')), .int .i64 0]) ∧ Below w.heap.size w w' := by
  have := implMix_any r s t F r s' t' F' w hS.lo hS.hi hS.lo hS.hi
  rw [hS.ok, hS'.ok] at this
  simpa using this
theorem timesS (hf : Small fed) (hc : partB cov = true) {m : Nat} (hm : m ≤ 2000) (w : World) : Calls Try.prog 11 #[.agg (train r s t F), .float .f32 fed, .float .f32 cov, .int .i64 m] w fun e w' => ∃ a b c : Nat, e = .returned (.tuple #[.agg (train r s t (itF r s t fed cov F m)), .agg #[.float .f32 a, .float .f32 b, .float .f32 c], .int .i64 0]) ∧ Below w.heap.size w w' := by
  have hb := small_ts hS hf hc (m : Int) (by omega) (by omega)
  have := specTimes_any r s t F fed cov m w hS.lo hS.hi (by omega) (by omega)
  unfold tsC at this
  unfold tsB at hb
  simp only [Bool.and_eq_true] at hb
  rw [show tsB r s t F fed cov m = true from small_ts hS hf hc (m : Int) (by omega) (by omega), hb.1.1, hb.1.2, hb.2] at this
  refine this.mono fun e w' h => ⟨_, _, _, h.1, h.2⟩
theorem timesI (hf : Small fed) (hc : partB cov = true) {m : Nat} (hm : m ≤ 2000) (w : World) : Calls Try.prog 12 #[.agg (train r s t F), .float .f32 fed, .float .f32 cov, .int .i64 m] w fun e w' => ∃ a b c : Nat, e = .returned (.tuple #[.agg (train r s t (itF r s t fed cov F m)), .agg #[.float .f32 a, .float .f32 b, .float .f32 c], .int .i64 0]) ∧ Below w.heap.size w w' := by
  have hb := small_ts hS hf hc (m : Int) (by omega) (by omega)
  have := implTimes_any r s t F fed cov m w hS.lo hS.hi (by omega) (by omega)
  unfold tsC at this
  unfold tsB at hb
  simp only [Bool.and_eq_true] at hb
  rw [show tsB r s t F fed cov m = true from small_ts hS hf hc (m : Int) (by omega) (by omega), hb.1.1, hb.1.2, hb.2] at this
  refine this.mono fun e w' h => ⟨_, _, _, h.1, h.2⟩
theorem small_all {wi : Nat} (hf : Small fed) (hc : partB cov = true) (hw : filmB wi = true) {O : Bool × Nat × Int} (h : stOut r s t F fed cov wi 2000 0 = O) : stAll r s t F fed cov wi = O := by
  unfold stAll
  rw [small_ask hS hf hc, hw]
  exact h
theorem untilS (hf : Small fed) (hc : partB cov = true) {O : Bool × Nat × Int} (h : stOut r s t F fed cov 1008981770 2000 0 = O) (w : World) : Calls Try.prog 9 #[.agg (train r s t F), .float .f32 fed, .float .f32 cov, .float .f32 1008981770] w fun e w' => e = .returned (.tuple #[.agg (if O.1 then train r s t (itF r s t fed cov F O.2.1) else train 0 0 0 (fun _ => 0)), .int .i64 (O.2.1 : Nat), .int .i64 O.2.2]) ∧ Below w.heap.size w w' :=
  specUntil_any r s t F fed cov 1008981770 O (small_all hS hf hc (by decide +kernel) h) w hS.lo hS.hi
theorem untilI (hf : Small fed) (hc : partB cov = true) {O : Bool × Nat × Int} (h : stOut r s t F fed cov 1008981770 2000 0 = O) (w : World) : Calls Try.prog 8 #[.agg (train r s t F), .float .f32 fed, .float .f32 cov, .float .f32 1008981770] w fun e w' => e = .returned (.tuple #[.agg (if O.1 then train r s t (itF r s t fed cov F O.2.1) else train 0 0 0 (fun _ => 0)), .int .i64 (O.2.1 : Nat), .int .i64 O.2.2]) ∧ Below w.heap.size w w' :=
  implUntil_any r s t F fed cov 1008981770 O (small_all hS hf hc (by decide +kernel) h) w hS.lo hS.hi
theorem zones_ok {z fd : Nat → Nat} (hz : ∀ i, partB (z i) = true) (hf : ∀ i, Small (fd i)) : zAll r s t F z fd 5 = (true, 0) := by
  have key : ∀ f i, zRun r s t F z fd 5 f i = (true, 0) := by
    intro f
    induction f with
    | zero => intro i; rfl
    | succ f ih =>
      intro i
      unfold zRun
      rw [small_ts hS (hf i) (hz i) 5 (by omega) (by omega)]
      exact ih (i + 1)
  unfold zAll
  rw [hS.ok, zoneB_all hz hf 8]
  exact key 8 0
theorem zonesS {z fd : Nat → Nat} (hz : ∀ i, partB (z i) = true) (hf : ∀ i, Small (fd i)) (w : World) : Calls Try.prog 29 #[.agg (train r s t F), .agg (row [] 8 z), .agg (row [] 8 fd), .int .i64 5] w fun e w' => e = .returned (.tuple #[.agg (row [] 8 (lastP r s t F z fd 5)), .int .i64 0]) ∧ Below w.heap.size w w' :=
  specZone_any r s t F z fd 5 (true, 0) (zones_ok hS hz hf) w hS.lo hS.hi (by omega) (by omega)
theorem zonesI {z fd : Nat → Nat} (hz : ∀ i, partB (z i) = true) (hf : ∀ i, Small (fd i)) (w : World) : Calls Try.prog 28 #[.agg (train r s t F), .agg (row [] 8 z), .agg (row [] 8 fd), .int .i64 5] w fun e w' => e = .returned (.tuple #[.agg (row [] 8 (lastP r s t F z fd 5)), .int .i64 0]) ∧ Below w.heap.size w w' :=
  implZone_any r s t F z fd 5 (true, 0) (zones_ok hS hz hf) w hS.lo hS.hi (by omega) (by omega)
theorem printedS (hf : Small fed) (hc : partB cov = true) (w : World) : Calls Try.prog 30 #[.agg (train r s t F), .float .f32 fed, .float .f32 cov, .int .i64 5] w fun e w' => ∃ (g c : Nat), e = .returned (.tuple #[.slice (some ⟨g, 0, none⟩) 5 c, .int .i64 0]) ∧ w'.cell? ⟨g, 4, none⟩ = some (.float .f32 (prF r s t fed cov F 4)) ∧ Below w.heap.size w w' := by
  have hb := small_ts hS hf hc (5 : Int) (by omega) (by omega)
  have h := specPrinted_any r s t F fed cov 5 w hS.lo hS.hi (by omega) (by omega)
  have hn : tsN r s t F fed cov 5 = 5 := by unfold tsN; rw [hb]; rfl
  have hC : tsC r s t F fed cov 5 = 0 := by
    unfold tsC
    rw [small_ask hS hf hc, it_all hS hf hc (5 : Int).toNat (by omega)]
    rfl
  rw [hn, hC] at h
  refine h.mono fun e w' hh => ?_
  obtain ⟨v, he, ⟨ao, cap, rfl, hown⟩, hbel⟩ := hh
  obtain ⟨g, cur, rfl, hg1, hg2, hg3, hg4, hg5⟩ := own_floats (hown (by omega)) (by omega)
  exact ⟨g, cap, he, (cell_of_row w' g 4 _ _ _ hg3).trans (hg5 4 (by omega)), hbel⟩
end
end Go.Proofs.Ytiddeijhjedbbaa

/- More that is true of trains of small films: the thickest roller, washed films, halves between two films, the lesser and the greater of two; each under its own premises. -/
set_option linter.unusedVariables false
set_option linter.unusedSimpArgs false
namespace Go.Proofs.Ytiddeijhjedbbaa
open Go.RowKit Ieee

theorem small_num {a : Nat} (h : Small a) : ¬ Flt.NaN single a := fin_nan h.1
theorem gt_no {a b : Nat} (ha : ¬ Flt.NaN single a) (hb : ¬ Flt.NaN single b) (h : Z32 a ≤ Z32 b) : (FloatKind.f32.format.order a b == some .gt) = false := by
  cases hc : (FloatKind.f32.format.order a b == some .gt)
  · rfl
  · have := (gt_iff ha hb).1 hc; omega
theorem lt_iff {a b : Nat} (ha : ¬ Flt.NaN single a) (hb : ¬ Flt.NaN single b) : (FloatKind.f32.format.order a b == some .lt) = true ↔ Z32 a < Z32 b := by
  rw [order_Z ha hb]
  simp only [beq_iff_eq, Option.some.injEq]
  exact Int.compare_eq_lt
theorem eq_iff {a b : Nat} (ha : ¬ Flt.NaN single a) (hb : ¬ Flt.NaN single b) : (FloatKind.f32.format.order a b == some .eq) = true ↔ Z32 a = Z32 b := by
  rw [order_Z ha hb]
  simp only [beq_iff_eq, Option.some.injEq]
  exact Int.compare_eq_eq
theorem lt_no {a b : Nat} (ha : ¬ Flt.NaN single a) (hb : ¬ Flt.NaN single b) (h : Z32 b ≤ Z32 a) : (FloatKind.f32.format.order a b == some .lt) = false := by
  cases hc : (FloatKind.f32.format.order a b == some .lt)
  · rfl
  · have := (lt_iff ha hb).1 hc; omega
theorem le_not_gt {a b : Nat} (ha : ¬ Flt.NaN single a) (hb : ¬ Flt.NaN single b) : (FloatKind.f32.format.order a b == some .lt || FloatKind.f32.format.order a b == some .eq) = !(FloatKind.f32.format.order a b == some .gt) := by
  rw [order_Z ha hb]
  rcases Int.lt_trichotomy (Z32 a) (Z32 b) with h | h | h
  · rw [Int.compare_eq_lt.2 h]; rfl
  · rw [Int.compare_eq_eq.2 h]; rfl
  · rw [Int.compare_eq_gt.2 h]; rfl

/-! ### the thickest roller -/
theorem thick_top {F : Nat → Nat} {m : Nat} (hF : ∀ i, i < m → ¬ Flt.NaN single (F i)) : ∀ n, 1 ≤ n → n ≤ m → ∀ k, k < n → Z32 (F k) ≤ Z32 (F (thickAt F n)) ∧ (Z32 (F k) = Z32 (F (thickAt F n)) → thickAt F n ≤ k)
  | 0, h, _, _, _ => by omega
  | 1, _, _, k, hk => by
    obtain rfl : k = 0 := by omega
    exact ⟨Int.le_refl _, fun _ => Nat.le_refl _⟩
  | n + 2, _, hm, k, hk => by
    have ih := thick_top hF (n + 1) (by omega) (by omega)
    have hlt := thickAt_lt F (n + 1) (by omega)
    rw [thickAt_step (by omega)]
    have na := hF (n + 1) (by omega)
    have nb := hF (thickAt F (n + 1)) (by omega)
    by_cases hg : (FloatKind.f32.format.order (F (n + 1)) (F (thickAt F (n + 1))) == some .gt) = true
    · rw [if_pos hg]
      have hz := (gt_iff na nb).1 hg
      by_cases e : k = n + 1
      · subst e; exact ⟨Int.le_refl _, fun _ => Nat.le_refl _⟩
      · have := (ih k (by omega)).1
        exact ⟨by omega, fun h => by omega⟩
    · rw [if_neg hg]
      have hz : ¬ (Z32 (F (thickAt F (n + 1))) < Z32 (F (n + 1))) := fun h => hg ((gt_iff na nb).2 h)
      by_cases e : k = n + 1
      · subst e; exact ⟨by omega, fun _ => by omega⟩
      · exact ih k (by omega)

/-! ### halves -/
theorem double_of {a : Nat} (ha : Small a) : ∃ c, Fin32 c ∧ Z32 c = 2 * Z32 a := by
  obtain ⟨f, z0, z9⟩ := ha
  rw [Z_eight] at z9
  have hu : Z32 a = ((Flt.U single (Flt.rung single a) : Nat) : Int) := by
    rw [← absN_Z, abs_Z_pos z0]
  obtain ⟨q, e, hq, hU⟩ := Flt.U_two single (r := Flt.rung single a)
  rw [hU] at hu
  by_cases h0 : q = 0
  · subst h0
    refine ⟨0, by decide, ?_⟩
    rw [hu, Z_zero]; simp
  · have he : e ≤ 152 := by
      refine Classical.byContradiction fun hn => ?_
      have h1 : 2 ^ 153 ≤ 2 ^ e := Nat.pow_le_pow_right (by decide) (by omega)
      have h2 : 1 * 2 ^ e ≤ q * 2 ^ e := Nat.mul_le_mul_right _ (by omega)
      have h3 : ((q * 2 ^ e : Nat) : Int) ≤ ((2 ^ 152 : Nat) : Int) := by
        rw [← hu]
        exact_mod_cast z9
      have h4 : q * 2 ^ e ≤ 2 ^ 152 := by exact_mod_cast h3
      omega
    obtain ⟨c, c1, c2⟩ := grid q (e + 1) hq (by omega)
    refine ⟨c, c1, ?_⟩
    rw [c2, hu, Nat.pow_succ, ← Nat.mul_assoc, Int.natCast_mul (q * 2 ^ e) 2]
    omega
theorem half_le {a b c : Nat} (ha : Small a) (hb : Small b) (hc : Small c) (h1 : Z32 a ≤ Z32 c) (h2 : Z32 b ≤ Z32 c) : Z32 (halfF a b) ≤ Z32 c := by
  obtain ⟨d, d1, d2⟩ := double_of hc
  have h9 := hc.2.2
  rw [Z_eight] at h9
  exact (half_up hc.1 d1 d2 (by omega) ⟨ha.1, ha.2.1, h1⟩ ⟨hb.1, hb.2.1, h2⟩).2.2.2
theorem half_ge {a b c : Nat} (ha : Small a) (hb : Small b) (hc : Small c) (h1 : Z32 c ≤ Z32 a) (h2 : Z32 c ≤ Z32 b) : Z32 c ≤ Z32 (halfF a b) := by
  obtain ⟨d, d1, d2⟩ := double_of hc
  have a9 := ha.2.2
  have b9 := hb.2.2
  rw [Z_eight] at a9 b9
  obtain ⟨s1, s2, _⟩ := add_sum ha.1 hb.1 ha.2.1 hb.2.1 (by unfold lid; omega)
  have h3 := fadd_ge ha.1 hb.1 d1 (by rw [d2]; omega)
  have hp : 0 < Z32 1073741824 := by rw [Z_two]; decide
  refine fdiv_ge s1 two_fin s2 hp hc.1 hc.2.1 ?_
  rw [Z_two]
  omega
theorem small_half {a b : Nat} (ha : Small a) (hb : Small b) : Fin32 (fadd a b) ∧ Small (halfF a b) := by
  obtain ⟨d, d1, d2⟩ := double_of (a := 1090519040) ⟨by decide, by rw [Z_eight]; decide, Int.le_refl _⟩
  exact half_up (by decide) d1 d2 (by rw [d2, Z_eight]; decide) ha hb
theorem small_wash {a p : Nat} (ha : Small a) (hp : partB p = true) : Small (fmul a (fsub 1065353216 p)) ∧ Z32 (fmul a (fsub 1065353216 p)) ≤ Z32 a := by
  have h9 := ha.2.2
  rw [Z_eight] at h9
  have h := (part_up (part_one_sub hp) ha.1 ha.2.1 (by omega)).2
  exact ⟨up_le ha.2.2 h, h.2.2⟩

/-! ### the lesser and the greater of two -/
section
variable {P : Program}
theorem run_min {a b : Nat} (ha : ¬ Flt.NaN single a) (hb : ¬ Flt.NaN single b) : ∃ m, (m = a ∨ m = b) ∧ Z32 m ≤ Z32 a ∧ Z32 m ≤ Z32 b ∧ ∀ (ts : Array TypeId) (t : TypeId) (w : World), (Builtin.min_ ts t #[.float .f32 a, .float .f32 b]).run P w = .ok (.float .f32 m) w := by
  have ho := order_Z ha hb
  rcases Int.lt_trichotomy (Z32 a) (Z32 b) with h | h | h
  · rw [Int.compare_eq_lt.2 h] at ho
    exact ⟨a, Or.inl rfl, by omega, by omega, fun ts t w => by simp [Builtin.min_, Builtin.min2, ho]⟩
  · rw [Int.compare_eq_eq.2 h] at ho
    refine ⟨if (FloatKind.f32.decode a).neg then a else b, ?_, ?_, ?_, fun ts t w => by simp [Builtin.min_, Builtin.min2, ho]⟩
    · split
      · exact Or.inl rfl
      · exact Or.inr rfl
    · split <;> omega
    · split <;> omega
  · rw [Int.compare_eq_gt.2 h] at ho
    exact ⟨b, Or.inr rfl, by omega, by omega, fun ts t w => by simp [Builtin.min_, Builtin.min2, ho]⟩
theorem run_max {a b : Nat} (ha : ¬ Flt.NaN single a) (hb : ¬ Flt.NaN single b) : ∃ m, (m = a ∨ m = b) ∧ Z32 a ≤ Z32 m ∧ Z32 b ≤ Z32 m ∧ ∀ (ts : Array TypeId) (t : TypeId) (w : World), (Builtin.max_ ts t #[.float .f32 a, .float .f32 b]).run P w = .ok (.float .f32 m) w := by
  have ho := order_Z ha hb
  rcases Int.lt_trichotomy (Z32 a) (Z32 b) with h | h | h
  · rw [Int.compare_eq_lt.2 h] at ho
    exact ⟨b, Or.inr rfl, by omega, by omega, fun ts t w => by simp [Builtin.max_, Builtin.max2, ho]⟩
  · rw [Int.compare_eq_eq.2 h] at ho
    refine ⟨if (FloatKind.f32.decode a).neg then b else a, ?_, ?_, ?_, fun ts t w => by simp [Builtin.max_, Builtin.max2, ho]⟩
    · split
      · exact Or.inr rfl
      · exact Or.inl rfl
    · split <;> omega
    · split <;> omega
  · rw [Int.compare_eq_gt.2 h] at ho
    exact ⟨a, Or.inl rfl, by omega, by omega, fun ts t w => by simp [Builtin.max_, Builtin.max2, ho]⟩
end
/-- What a round of the last loop tests. -/
structure RoundOf (r : Int) (F U : Nat → Nat) (cov A k m M : Nat) : Prop where
  e1 : (FloatKind.f32.format.order (washF r F cov k) (F k) == some .gt) = false
  e2 : (FloatKind.f32.format.order (F k) (F A) == some .gt) = false
  e3 : (FloatKind.f32.format.order (F k) (F A) == some .eq) = true → A ≤ k
  e4 : (FloatKind.f32.format.order (mixTF r F U k) m == some .lt) = false
  e5 : (FloatKind.f32.format.order (mixTF r F U k) M == some .gt) = false
  e6 : mixTF r F U k = halfF (F k) (U k)
  e7 : FloatKind.f32.format.order (halfF (F k) (U k)) (halfF (F k) (U k)) = some .eq
  e8 : Fin32 (F k) ∧ Fin32 (U k) ∧ Fin32 (fadd (F k) (U k))
theorem round_of {P : Program} {r : Int} {s t s' t' : Nat} {F U : Nat → Nat} {cov A k : Nat} (hS : SmallT r s t F) (hU : SmallT r s' t' U) (hc : partB cov = true) (hA : thickAt F r.toNat = A) (hk : (k : Int) < r) :
    ∃ m M, RoundOf r F U cov A k m M ∧ (∀ (ts : Array TypeId) (t : TypeId) (w : World), (Builtin.min_ ts t #[.float .f32 (F k), .float .f32 (U k)]).run P w = .ok (.float .f32 m) w) ∧ (∀ (ts : Array TypeId) (t : TypeId) (w : World), (Builtin.max_ ts t #[.float .f32 (F k), .float .f32 (U k)]).run P w = .ok (.float .f32 M) w) := by
  have h2 := hS.h2
  have h6 := hS.h6
  have sa := hS.hF k (by omega)
  have sb := hU.hF k (by omega)
  have na := small_num sa
  have nb := small_num sb
  obtain ⟨m, m0, m1, m2, m3⟩ := run_min (P := P) na nb
  obtain ⟨M, M0, M1, M2, M3⟩ := run_max (P := P) na nb
  have hm : Small m := by rcases m0 with rfl | rfl; exact sa; exact sb
  have hM : Small M := by rcases M0 with rfl | rfl; exact sa; exact sb
  obtain ⟨hh1, hh2⟩ := small_half sa sb
  have nh := small_num hh2
  have hmix : mixTF r F U k = halfF (F k) (U k) := by unfold mixTF; rw [if_pos hk]
  have hw : washF r F cov k = fmul (F k) (fsub 1065353216 cov) := by unfold washF; rw [if_pos hk]
  obtain ⟨w1, w2⟩ := small_wash sa hc
  have top := thick_top (F := F) (m := r.toNat) (fun i hi => small_num (hS.hF i (by omega))) r.toNat (by omega) (Nat.le_refl _) k (by omega)
  have hlt := thickAt_lt F r.toNat (by omega)
  rw [hA] at top hlt
  have nA := small_num (hS.hF A (by omega))
  refine ⟨m, M, ⟨?_, gt_no na nA top.1, fun h => top.2 ((eq_iff na nA).1 h), ?_, ?_, hmix, ?_, sa.1, sb.1, hh1⟩, m3, M3⟩
  · rw [hw]; exact gt_no (small_num w1) na w2
  · rw [hmix]; exact lt_no nh (small_num hm) (half_ge sa sb hm m1 m2)
  · rw [hmix]; exact gt_no nh (small_num hM) (half_le sa sb hM M1 M2)
  · rw [order_Z nh nh, Int.compare_eq_eq.2 rfl]
theorem sameNum_any (a : Nat) (w : World) : Calls Try.prog 26 #[.float .f32 a, .float .f32 a] w fun e w' => e = .returned (.bool true) ∧ w = w' := by
  have h := fun w => specSame_any (a := a) (b := a) (w := w)
  rw [sameN_self] at h
  go_enter Try.func26, Try.ntmps26
  go_wp2_with (fail)
  refine (h _).mono ?_
  rintro e w1 ⟨rfl, rfl⟩
  go_wp2
  go_ret
  exact ⟨rfl, rfl⟩
theorem sameNum_q (a : Nat) (w : World) (n : Nat) : Calls Try.prog 26 #[.float .f32 a, .float .f32 a] (w.drewN n) fun e w' => e = .returned (.bool true) ∧ ∃ m, w' = w.drewN m := quiet_same (sameNum_any a _)
theorem a2same_q {G : Nat → Nat} {b b' : Nat} {w : World} (hc : ∀ i : Nat, i < 8 → w.cell? ⟨b, i, none⟩ = some (.float .f32 (G i))) (hc' : ∀ i : Nat, i < 8 → w.cell? ⟨b', i, none⟩ = some (.float .f32 (G i))) (c c' n : Nat) :
    Calls Try.prog 31 #[.slice (some ⟨b, 0, none⟩) 8 c, .slice (some ⟨b', 0, none⟩) 8 c'] (w.drewN n) fun e w' => e = .returned (.bool true) ∧ ∃ m, w' = w.drewN m := by
  refine (a2same_any G b b' c c' (w.drewN n) hc hc').mono ?_
  rintro e w1 ⟨rfl, m, rfl⟩
  exact ⟨rfl, _, World.drewN_drewN _ _ _⟩
theorem implSplit_small {a b : Nat} (ha : Small a) (hb : Small b) (w : World) : Calls Try.prog 27 #[.float .f32 a, .float .f32 b] w fun e w' => e = .returned (.float .f32 (halfF a b)) ∧ w = w' :=
  (implSplit_fin ha.1 hb.1 (small_half ha hb).1 w).mono fun e w' h => ⟨h.1, h.2.symm⟩
theorem splitSm_q {a b : Nat} (ha : Small a) (hb : Small b) (w : World) (n : Nat) : Calls Try.prog 27 #[.float .f32 a, .float .f32 b] (w.drewN n) fun e w' => e = .returned (.float .f32 (halfF a b)) ∧ ∃ m, w' = w.drewN m := quiet_same (implSplit_small ha hb _)
end Go.Proofs.Ytiddeijhjedbbaa

/- Small laws of worlds, and the parts of a function's code; each under its own premises. -/
set_option linter.unusedVariables false
set_option linter.unusedSimpArgs false
namespace Go.Proofs.Ytiddeijhjedbbaa
open Go.RowKit Ieee
def cutF (r : Int) (F : Nat → Nat) (k : Nat) : Nat → Nat := fun j => if r ≤ (j : Int) ∧ j < k then 0 else F j
theorem cutF_none (r : Int) (F : Nat → Nat) : cutF r F r.toNat = F := by
  funext j
  unfold cutF
  rw [if_neg (by omega)]
theorem cutF_put {w : World} {g k : Nat} {r : Int} {F : Nat → Nat} {pre : List Value} {t : TypeId} (hr : r ≤ (k : Int)) (hk : k < 12) (h : w.heap[g]? = some (.cells (row pre 12 (cutF r F k)) t (0, 0))) :
    (w.setCell ⟨g, pre.length + k, none⟩ (.float .f32 0)).heap[g]? = some (.cells (row pre 12 (cutF r F (k + 1))) t (0, 0)) := by
  rw [put_row hk h]
  congr 2
  apply row_congr
  intro i _
  unfold upd cutF
  by_cases e : i = k
  · subst e; rw [if_pos rfl, if_pos (by omega)]
  · rw [if_neg e]
    by_cases h1 : r ≤ (i : Int) ∧ i < k
    · rw [if_pos h1, if_pos (by omega)]
    · rw [if_neg h1, if_neg (by omega)]
theorem cut_small {r : Int} {s t : Nat} {F : Nat → Nat} {r' : Int} {s' t' : Nat} {F' : Nat → Nat} (hS : SmallT r s t F) (hS' : SmallT r' s' t' F') : SmallT r s' t' (cutF r F' 12) :=
  ⟨hS.h2, hS.h6, hS'.hs, hS'.ht, fun i hi => by unfold cutF; split; exact small_zero; exact hS'.hF i hi, fun i hi hr => by unfold cutF; rw [if_pos ⟨hr, hi⟩]⟩

theorem lt_of_heap {w : World} {g : Nat} {o : Obj} (h : w.heap[g]? = some o) : g < w.heap.size := by
  obtain ⟨h1, _⟩ := Array.getElem?_eq_some_iff.1 h
  exact h1
theorem chain1 {wk : World} {o o1 : Obj} {cs : Array Value} {g : Nat} (h : wk.heap[g]? = some o1) : ((wk.alloc o).setRow wk.heap.size cs).heap[g]? = some o1 := by
  have hl := lt_of_heap h
  exact blk_off _ _ _ _ (by omega) (blk_old _ _ _ hl h)
theorem chainN (wk : World) (a cs : Array Value) (t : TypeId) : ((wk.alloc (.cells a t)).setRow wk.heap.size cs).heap[wk.heap.size]? = some (.cells cs t (0, 0)) := blk_set _ _ _ _ _ _ _ rfl (blk_new _ _ _ rfl)
theorem old0 {wk w2 : World} {o1 : Obj} {g : Nat} (hb : Below wk.heap.size wk w2) (h : wk.heap[g]? = some o1) : w2.heap[g]? = some o1 := blk_below hb (lt_of_heap h) h
theorem old1 {wk w2 : World} {o o1 : Obj} {cs : Array Value} {g : Nat} (hb : Below ((wk.alloc o).setRow wk.heap.size cs).heap.size ((wk.alloc o).setRow wk.heap.size cs) w2) (h : wk.heap[g]? = some o1) : w2.heap[g]? = some o1 := by
  have hl := lt_of_heap h
  exact blk_below hb (by simp; omega) (chain1 h)
theorem new1 {wk w2 : World} {a cs : Array Value} {t : TypeId} (hb : Below ((wk.alloc (.cells a t)).setRow wk.heap.size cs).heap.size ((wk.alloc (.cells a t)).setRow wk.heap.size cs) w2) : w2.heap[wk.heap.size]? = some (.cells cs t (0, 0)) :=
  blk_below hb (by simp) (chainN _ _ _ _)
theorem bel0 {B : Nat} {w wk w2 : World} (hb : Below wk.heap.size wk w2) (h : Below B w wk) (hl : B ≤ wk.heap.size) : Below B w w2 := h.trans (hb.mono hl)
theorem belr {B : Nat} {w wk : World} {o : Obj} {cs : Array Value} (h : Below B w wk) (hl : B ≤ wk.heap.size) : Below B w ((wk.alloc o).setRow wk.heap.size cs) := bel_row _ hl (bel_alloc _ hl h)
theorem bel1 {B : Nat} {w wk w2 : World} {o : Obj} {cs : Array Value} (hb : Below ((wk.alloc o).setRow wk.heap.size cs).heap.size ((wk.alloc o).setRow wk.heap.size cs) w2) (h : Below B w wk) (hl : B ≤ wk.heap.size) : Below B w w2 :=
  bel_next hb (by simp; omega) (bel_row _ hl (bel_alloc _ hl h))


/-! ### the parts of a code -/
def cL : Code → Code
  | .seq a _ => a
  | c => c
def cR : Code → Code
  | .seq _ b => b
  | c => c
def cB : Code → Code
  | .block _ c => c
  | c => c
def cO : Code → Code
  | .loop c => c
  | c => c
def cRn : Nat → Code → Code
  | 0, c => c
  | n + 1, c => cRn n (cR c)
def bodyOf (f : Func) : Code := f.body.getD .skip
def UntilOut (r : Int) (s t : Nat) (F : Nat → Nat) (fed cov : Nat) (R : Int) (S T' : Nat) (G : Nat → Nat) (N C : Int) : Prop :=
  (0 = C ∧ ∃ m : Nat, m < 2000 ∧ r = R ∧ s = S ∧ t = T' ∧ itF r s t fed cov F (m + 1) = G ∧ ((m + 1 : Nat) : Int) = N ∧ leF (mostK (itF r s t fed cov F (m + 1)) (itF r s t fed cov F m) r.toNat) 1008981770 = true) ∨ 7 = C
theorem until_both {r : Int} {s t : Nat} {F : Nat → Nat} {fed cov : Nat} (hS : SmallT r s t F) (hf : Small fed) (hc : partB cov = true) :
    ∃ (R : Int) (S T' : Nat) (G : Nat → Nat) (N C : Int), UntilOut r s t F fed cov R S T' G N C ∧
      (∀ w, Calls Try.prog 8 #[.agg (train r s t F), .float .f32 fed, .float .f32 cov, .float .f32 1008981770] w fun e w' => e = .returned (.tuple #[.agg (train R S T' G), .int .i64 N, .int .i64 C]) ∧ Below w.heap.size w w') ∧
      (∀ w, Calls Try.prog 9 #[.agg (train r s t F), .float .f32 fed, .float .f32 cov, .float .f32 1008981770] w fun e w' => e = .returned (.tuple #[.agg (train R S T' G), .int .i64 N, .int .i64 C]) ∧ Below w.heap.size w w') := by
  rcases small_out (wi := 1008981770) hS hf hc 2000 0 rfl with ⟨m, hm, hO, hle⟩ | hO
  · exact ⟨r, s, t, itF r s t fed cov F (m + 1), ((m + 1 : Nat) : Int), 0, Or.inl ⟨rfl, m, hm, rfl, rfl, rfl, rfl, rfl, hle⟩, fun w => untilI hS hf hc hO w, fun w => untilS hS hf hc hO w⟩
  · exact ⟨0, 0, 0, fun _ => 0, 0, 7, Or.inr rfl, fun w => untilI hS hf hc hO w, fun w => untilS hS hf hc hO w⟩


end Go.Proofs.Ytiddeijhjedbbaa
