/- Trains that are equal are found equal: eqFloat32A12, eqTrain. -/
import Derived.Test.YtckcngmbbnilnaaDoorTNum
import Derived.Test.YtckcngmbbnilnaaDoorFSame
import Derived.Deep.QuietTactic
import Derived.BigQuiet
set_option linter.unusedVariables false
set_option linter.unusedSimpArgs false
namespace Go.Proofs.YtckcngmbbnilnaaDoor
open Go.RowKit Ieee

theorem quiet_same {P : Program} {f : FuncId} {args : Array Value} {w : World} {n : Nat} {v : Value}
    (h : Calls P f args (w.drewN n) fun e w' => e = .returned v ∧ w.drewN n = w') : Calls P f args (w.drewN n) fun e w'' => e = .returned v ∧ ∃ m, w'' = w.drewN m :=
  Calls.quiet_of_same (h.mono fun _ _ x => ⟨x.1, x.2.symm⟩)
theorem bel_drewN {B : Nat} {a w : World} (n : Nat) (h : Below B a w) : Below B a (w.drewN n) := ⟨h.os, h.tape, h.output, h.size, h.block⟩

set_option maxHeartbeats 800000 in
theorem eqA12_self (F : Nat → Nat) (w : World) (hn : ∀ i, i < 12 → ¬ Flt.NaN single (F i)) : Calls Tryd.prog 57 #[.agg (row [] 12 F), .agg (row [] 12 F)] w fun e w' => e = .returned (.bool true) ∧ Below w.heap.size w w' := by
  have HN := Lib.hid hn
  clear hn
  go_enter Tryd.func57, Tryd.ntmps57
  go_wp2
  go_loopw [5] (fun i wr => ∃ k : Nat, k ≤ 12 ∧ i = .int .i64 k ∧ wr.heap[w.heap.size]? = some (.cells (row [] 12 F) 26 (0, 0)) ∧ wr.heap[w.heap.size + 1]? = some (.cells (row [] 12 F) 26 (0, 0)) ∧ Below w.heap.size w wr) (fun i _ => 12 - (intOf i).toNat)
  case atStart => exact ⟨0, by omega, rfl, (by repeat (first | (with_reducible assumption) | ((with_reducible refine blk_new _ _ _ ?_); focus (simp; done)) | ((with_reducible refine blk_old _ _ _ ?_ ?_); focus (simp; done)) | ((with_reducible refine blk_old _ _ _ ?_ ?_); focus (simp; omega)) | ((with_reducible apply blk_set); focus (simp; done)) | ((with_reducible refine blk_off _ _ _ _ ?_ ?_); focus (simp; done)) | ((with_reducible refine blk_off _ _ _ _ ?_ ?_); focus (simp; omega)) | (with_reducible refine blk_drew _ _ ?_) | ((with_reducible refine blk_below (by assumption) ?_ ?_); focus (simp; done)) | ((with_reducible refine blk_below (by assumption) ?_ ?_); focus (simp; omega)))), (by repeat (first | (with_reducible assumption) | ((with_reducible refine blk_new _ _ _ ?_); focus (simp; done)) | ((with_reducible refine blk_old _ _ _ ?_ ?_); focus (simp; done)) | ((with_reducible refine blk_old _ _ _ ?_ ?_); focus (simp; omega)) | ((with_reducible apply blk_set); focus (simp; done)) | ((with_reducible refine blk_off _ _ _ _ ?_ ?_); focus (simp; done)) | ((with_reducible refine blk_off _ _ _ _ ?_ ?_); focus (simp; omega)) | (with_reducible refine blk_drew _ _ ?_) | ((with_reducible refine blk_below (by assumption) ?_ ?_); focus (simp; done)) | ((with_reducible refine blk_below (by assumption) ?_ ?_); focus (simp; omega)))), (by repeat (first | (with_reducible assumption) | (with_reducible exact Below.refl _ _) | ((with_reducible refine bel_alloc _ ?_ ?_); focus (first | omega | (simp; done) | (simp; omega))) | ((with_reducible refine bel_row _ ?_ ?_); focus (first | omega | (simp; done) | (simp; omega))) | ((with_reducible refine bel_cell _ ?_ ?_); focus (first | omega | (simp; done) | (simp; omega))) | (with_reducible refine Below.drew ?_) | (with_reducible refine below_wideW _ ?_) | ((with_reducible refine bel_next (by assumption) ?_ ?_); focus (first | omega | (simp; done) | (simp; omega)))))⟩
  case round =>
    obtain ⟨k, hk, rfl, h1, h2, hb⟩ := hrel
    by_cases hlt : k < 12
    · have hnk := HN.out k hlt
      have hc := fun w => run_wide (P := Tryd.prog) 22 45 (F k) w (by kernel_rfl) (by kernel_rfl) hnk
      have hw := Flt.widen_nan hnk
      have c1 : wr.cell? ⟨w.heap.size, k, none⟩ = some (.float .f32 (F k)) := (cell_of_row wr _ k _ _ _ h1).trans (row_k0 _ _ hlt)
      have c2 : wr.cell? ⟨w.heap.size + 1, k, none⟩ = some (.float .f32 (F k)) := (cell_of_row wr _ k _ _ _ h2).trans (row_k0 _ _ hlt)
      have H1 := Lib.hid h1
      have H2 := Lib.hid h2
      clear hnk h1 h2
      go_wp2
      go_quiet ((go_at_call 19; exact quiet_same (sameFloat_self _ _ hw)))
      go_wp2
      go_roundw
      case rel => exact ⟨k + 1, by omega, by go_num, H1.out, H2.out, bel_drewN _ hb⟩
      case measure => simp [intOf]; omega
    · obtain rfl : k = 12 := by omega
      clear h1 h2
      go_wp2
      go_ret
      exact ⟨rfl, hb⟩

set_option maxHeartbeats 800000 in
theorem eqTrain_self (r : Int) (s t : Nat) (F : Nat → Nat) (w : World) (hs : ¬ Flt.NaN single s) (ht : ¬ Flt.NaN single t) (hn : ∀ i, i < 12 → ¬ Flt.NaN single (F i)) : Calls Tryd.prog 25 #[.agg (train r s t F), .agg (train r s t F)] w fun e w' => e = .returned (.bool true) ∧ Below w.heap.size w w' := by
  have hcs := fun w => run_wide (P := Tryd.prog) 22 45 s w (by kernel_rfl) (by kernel_rfl) hs
  have hct := fun w => run_wide (P := Tryd.prog) 22 45 t w (by kernel_rfl) (by kernel_rfl) ht
  have hws := Flt.widen_nan hs
  have hwt := Flt.widen_nan ht
  have HN := Lib.hid hn
  clear hn hs ht
  go_enter Tryd.func25, Tryd.ntmps25
  go_wp2_with (first | (go_at_call 19; (with_reducible refine (sameFloat_self _ _ (by assumption)).mono ?_); rintro e w' ⟨rfl, rfl⟩) | ((with_reducible refine at_load 26 ?_); refine wpList_load_part rfl 26 _ rfl _ 3 12 rfl _ _ _ _ (by repeat (first | (with_reducible assumption) | ((with_reducible refine blk_new _ _ _ ?_); focus (simp; done)) | ((with_reducible refine blk_old _ _ _ ?_ ?_); focus (simp; done)) | ((with_reducible refine blk_old _ _ _ ?_ ?_); focus (simp; omega)) | ((with_reducible apply blk_set); focus (simp; done)) | ((with_reducible refine blk_off _ _ _ _ ?_ ?_); focus (simp; done)) | ((with_reducible refine blk_off _ _ _ _ ?_ ?_); focus (simp; omega)) | (with_reducible refine blk_drew _ _ ?_) | ((with_reducible refine blk_below (by assumption) ?_ ?_); focus (simp; done)) | ((with_reducible refine blk_below (by assumption) ?_ ?_); focus (simp; omega)))) Tryd.underlying26 rfl (by kernel_rfl) (by simp [row_size]) _ (row_tail [_, _, _] 12 _) ?_) | (go_at_call 57; (with_reducible refine (eqA12_self _ _ HN.out).mono ?_); rintro e w1 ⟨rfl, hb1⟩; have hz1 := hb1.size; simp at hz1; obtain ⟨hc1, hf1⟩ := bcell hb1))
  go_ret
  exact ⟨rfl, (by repeat (first | (with_reducible assumption) | (with_reducible exact Below.refl _ _) | ((with_reducible refine bel_alloc _ ?_ ?_); focus (first | omega | (simp; done) | (simp; omega))) | ((with_reducible refine bel_row _ ?_ ?_); focus (first | omega | (simp; done) | (simp; omega))) | ((with_reducible refine bel_cell _ ?_ ?_); focus (first | omega | (simp; done) | (simp; omega))) | (with_reducible refine Below.drew ?_) | (with_reducible refine below_wideW _ ?_) | ((with_reducible refine bel_next (by assumption) ?_ ?_); focus (first | omega | (simp; done) | (simp; omega)))))⟩
end Go.Proofs.YtckcngmbbnilnaaDoor
