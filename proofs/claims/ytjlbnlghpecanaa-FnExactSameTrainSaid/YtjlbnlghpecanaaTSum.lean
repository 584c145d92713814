/- Sums of films: sum, InkOn; the reference's and the program's. -/
import Derived.Test.YtjlbnlghpecanaaTWalk
set_option linter.unusedVariables false
set_option linter.unusedSimpArgs false
namespace Go.Proofs.Ytjlbnlghpecanaa
open Go.RowKit Ieee

theorem sum_any (G : Nat → Nat) (n b o c : Nat) (w : World) (hn : n ≤ 4000) (hG : ∀ i, i < n → filmB (G i) = true) (hc : ∀ i, i < n → w.cell? ⟨b, o + i, none⟩ = some (.float .f32 (G i))) :
    Calls Try.prog 63 #[.slice (some ⟨b, o, none⟩) n c] w fun e w' => e = .returned (.float .f32 (sumTo G n)) ∧ w = w' := by
  have HC := Lib.hid hc
  have HG := Lib.hid hG
  have hcs := fun b w => run_conv_same (P := Try.prog) 22 22 .f32 b w (by kernel_rfl) (by kernel_rfl)
  clear hc hG
  go_enter Try.func63, Try.ntmps63
  go_wp2
  go_loop [3, 8] (fun v i => ∃ k : Nat, k ≤ n ∧ i = .int .i64 k ∧ v = .float .f32 (sumTo G k)) (fun _ i => n - (intOf i).toNat)
  case atStart => exact ⟨0, by omega, rfl, rfl⟩
  case round =>
    obtain ⟨k, hk, rfl, rfl⟩ := hrel
    by_cases hlt : k < n
    · have ck := HC.out k hlt
      by_cases h0 : k = 0
      · subst h0
        have ck0 : w.cell? ⟨b, o, none⟩ = some (.float .f32 (G 0)) := by simpa using ck
        go_wp2
        go_round
        case rel => exact ⟨1, by omega, rfl, rfl⟩
        case measure => simp [intOf]; omega
      · have h1 : 1 ≤ k := by omega
        have e1 := fun w => run_fadd (P := Try.prog) w 22 (sumTo_facts hn HG.out k hk).1 (film_fin (HG.out k hlt))
        clear h0
        go_wp2
        go_round
        case rel => exact ⟨k + 1, by omega, by go_num, by rw [sumTo_step G h1]⟩
        case measure => simp [intOf]; omega
    · obtain rfl : k = n := by omega
      go_wp2
      go_ret
      exact ⟨rfl, rfl⟩

theorem film_upto {r : Int} {F : Nat → Nat} (hfl : ∀ i : Nat, i < 12 → (i : Int) < r → filmB (F i) = true) (h12 : r ≤ 12) : ∀ i, i < r.toNat → filmB (F i) = true :=
  fun i hi => hfl i (by omega) (by omega)
theorem specInk_any (r : Int) (s t : Nat) (F : Nat → Nat) (w : World) (lr : -128 ≤ r) (ur : r ≤ 127) (ho : trainB r s t F = true) (B : Nat) (hB : w.heap[B]? = some (.cells (train r s t F) 33 (0, 0))) : Calls Try.prog 62 #[.pointer (some ⟨B, 0, none⟩)] w fun e w' => e = .returned (.float .f32 (sumTo F r.toNat)) ∧ w = w' := by
  obtain ⟨h2, h12, _, _, hfl, _⟩ := trainB_facts ho
  have HG := Lib.hid (film_upto hfl h12)
  have c0 : w.cell? ⟨B, 0, none⟩ = some (.int .i8 r) := (cell_of_row w _ 0 _ _ _ hB).trans (row_g0 _ _ _ _)
  have cf : w.cell? ⟨B, 3 + 0, none⟩ = some (.float .f32 (F 0)) := (cell_of_row w B (3 + 0) _ _ _ hB).trans (row_k3 _ _ _ _ _ (by omega))
  have HB := Lib.hid hB
  clear hB hfl
  go_enter Try.func62, Try.ntmps62
  go_wp2
  go_loop [3, 4] (fun v i => ∃ k : Nat, 1 ≤ k ∧ (k : Int) ≤ r ∧ i = .int .i64 k ∧ v = .float .f32 (sumTo F k)) (fun _ i => 12 - (intOf i).toNat)
  case atStart => exact ⟨1, by omega, by omega, rfl, rfl⟩
  case round =>
    obtain ⟨k, hk1, hk, rfl, rfl⟩ := hrel
    by_cases hlt : (k : Int) < r
    · have ck : w.cell? ⟨B, 3 + k, none⟩ = some (.float .f32 (F k)) := (cell_of_row w B (3 + k) _ _ _ HB.out).trans (row_k3 _ _ _ _ _ (by omega))
      have e1 := fun w => run_fadd (P := Try.prog) w 22 (sumTo_facts (by omega) HG.out k (by omega)).1 (film_fin (HG.out k (by omega)))
      have k12 : k < 12 := by omega
      go_wp2
      go_round
      case rel => exact ⟨k + 1, by omega, by omega, by go_num, by rw [sumTo_step F hk1]⟩
      case measure => simp [intOf]; omega
    · have hkr : r.toNat = k := by omega
      have HK := Lib.hid hkr
      clear hkr
      go_wp2
      go_ret
      exact ⟨by rw [HK.out]; rfl, rfl⟩
def inkR (r : Int) (s t : Nat) (F : Nat → Nat) : Nat := if trainB r s t F then sumTo F r.toNat else 0
theorem inkR_num (r : Int) (s t : Nat) (F : Nat → Nat) : ¬ Flt.NaN single (inkR r s t F) := by
  unfold inkR
  split
  · rename_i h
    obtain ⟨h2, h12, _, _, hfl, _⟩ := trainB_facts h
    exact fin_nan (sumTo_facts (by omega) (film_upto hfl h12) _ (Nat.le_refl _)).1
  · decide

theorem specInkOn_any (r : Int) (s t : Nat) (F : Nat → Nat) (w : World) (lr : -128 ≤ r) (ur : r ≤ 127) : Calls Try.prog 38 #[.agg (train r s t F)] w fun e w' => e = .returned (.tuple #[.float .f32 (inkR r s t F), .int .i64 (codeV (trainB r s t F))]) ∧ Below w.heap.size w w' := by
  unfold inkR
  cases ho : trainB r s t F
  · go_enter Try.func38, Try.ntmps38
    go_wp2_with (first | (go_at_call 54; (with_reducible refine (specOk_any r s t F _ lr ur _ ?_).mono ?_); (focus (repeat (first | (with_reducible assumption) | ((with_reducible refine blk_new _ _ _ ?_); focus (simp; done)) | ((with_reducible refine blk_old _ _ _ ?_ ?_); focus (simp; done)) | ((with_reducible refine blk_old _ _ _ ?_ ?_); focus (simp; omega)) | ((with_reducible apply blk_set); focus (simp; done)) | ((with_reducible refine blk_off _ _ _ _ ?_ ?_); focus (simp; done)) | ((with_reducible refine blk_off _ _ _ _ ?_ ?_); focus (simp; omega)) | (with_reducible refine blk_drew _ _ ?_) | ((with_reducible refine blk_below (by assumption) ?_ ?_); focus (simp; done)) | ((with_reducible refine blk_below (by assumption) ?_ ?_); focus (simp; omega))))); rintro e w' ⟨rfl, rfl⟩) | go_in)
    go_ret2
    exact ⟨rfl, (by repeat (first | (with_reducible assumption) | (with_reducible exact Below.refl _ _) | ((with_reducible refine bel_alloc _ ?_ ?_); focus (first | omega | (simp; done) | (simp; omega))) | ((with_reducible refine bel_row _ ?_ ?_); focus (first | omega | (simp; done) | (simp; omega))) | ((with_reducible refine bel_cell _ ?_ ?_); focus (first | omega | (simp; done) | (simp; omega))) | (with_reducible refine Below.drew ?_) | (with_reducible refine below_wideW _ ?_) | ((with_reducible refine bel_next (by assumption) ?_ ?_); focus (first | omega | (simp; done) | (simp; omega)))))⟩
  · go_enter Try.func38, Try.ntmps38
    go_wp2_with (first | (go_at_call 54; (with_reducible refine (specOk_any r s t F _ lr ur _ ?_).mono ?_); (focus (repeat (first | (with_reducible assumption) | ((with_reducible refine blk_new _ _ _ ?_); focus (simp; done)) | ((with_reducible refine blk_old _ _ _ ?_ ?_); focus (simp; done)) | ((with_reducible refine blk_old _ _ _ ?_ ?_); focus (simp; omega)) | ((with_reducible apply blk_set); focus (simp; done)) | ((with_reducible refine blk_off _ _ _ _ ?_ ?_); focus (simp; done)) | ((with_reducible refine blk_off _ _ _ _ ?_ ?_); focus (simp; omega)) | (with_reducible refine blk_drew _ _ ?_) | ((with_reducible refine blk_below (by assumption) ?_ ?_); focus (simp; done)) | ((with_reducible refine blk_below (by assumption) ?_ ?_); focus (simp; omega))))); rintro e w' ⟨rfl, rfl⟩) | (go_at_call 62; (with_reducible refine (specInk_any r s t F _ lr ur ho _ ?_).mono ?_); (focus (repeat (first | (with_reducible assumption) | ((with_reducible refine blk_new _ _ _ ?_); focus (simp; done)) | ((with_reducible refine blk_old _ _ _ ?_ ?_); focus (simp; done)) | ((with_reducible refine blk_old _ _ _ ?_ ?_); focus (simp; omega)) | ((with_reducible apply blk_set); focus (simp; done)) | ((with_reducible refine blk_off _ _ _ _ ?_ ?_); focus (simp; done)) | ((with_reducible refine blk_off _ _ _ _ ?_ ?_); focus (simp; omega)) | (with_reducible refine blk_drew _ _ ?_) | ((with_reducible refine blk_below (by assumption) ?_ ?_); focus (simp; done)) | ((with_reducible refine blk_below (by assumption) ?_ ?_); focus (simp; omega))))); rintro e w' ⟨rfl, rfl⟩) | go_in)
    go_ret2
    exact ⟨rfl, (by repeat (first | (with_reducible assumption) | (with_reducible exact Below.refl _ _) | ((with_reducible refine bel_alloc _ ?_ ?_); focus (first | omega | (simp; done) | (simp; omega))) | ((with_reducible refine bel_row _ ?_ ?_); focus (first | omega | (simp; done) | (simp; omega))) | ((with_reducible refine bel_cell _ ?_ ?_); focus (first | omega | (simp; done) | (simp; omega))) | (with_reducible refine Below.drew ?_) | (with_reducible refine below_wideW _ ?_) | ((with_reducible refine bel_next (by assumption) ?_ ?_); focus (first | omega | (simp; done) | (simp; omega)))))⟩

theorem implInkOn_any (r : Int) (s t : Nat) (F : Nat → Nat) (w : World) (lr : -128 ≤ r) (ur : r ≤ 127) : Calls Try.prog 39 #[.agg (train r s t F)] w fun e w' => e = .returned (.tuple #[.float .f32 (inkR r s t F), .int .i64 (codeV (trainB r s t F))]) ∧ Below w.heap.size w w' := by
  unfold inkR
  cases ho : trainB r s t F
  · go_enter Try.func39, Try.ntmps39
    go_wp2_with (first | (go_at_call 26; (with_reducible refine (implOk_any r s t F _ lr ur).mono ?_); rintro e w1 ⟨rfl, hb1⟩; have hz1 := hb1.size; simp at hz1; obtain ⟨hc1, hf1⟩ := bcell hb1) | ((with_reducible refine at_load 33 ?_); refine wpList_load_part rfl 33 _ rfl _ 0 15 rfl _ _ _ _ (by repeat (first | (with_reducible assumption) | ((with_reducible refine blk_new _ _ _ ?_); focus (simp; done)) | ((with_reducible refine blk_old _ _ _ ?_ ?_); focus (simp; done)) | ((with_reducible refine blk_old _ _ _ ?_ ?_); focus (simp; omega)) | ((with_reducible apply blk_set); focus (simp; done)) | ((with_reducible refine blk_off _ _ _ _ ?_ ?_); focus (simp; done)) | ((with_reducible refine blk_off _ _ _ _ ?_ ?_); focus (simp; omega)) | (with_reducible refine blk_drew _ _ ?_) | ((with_reducible refine blk_below (by assumption) ?_ ?_); focus (simp; done)) | ((with_reducible refine blk_below (by assumption) ?_ ?_); focus (simp; omega)))) Try.underlying33 rfl (by kernel_rfl) (by simp [row_size]) _ (row_all [_, _, _] 12 _) ?_) | go_in)
    go_ret2
    exact ⟨rfl, (by repeat (first | (with_reducible assumption) | (with_reducible exact Below.refl _ _) | ((with_reducible refine bel_alloc _ ?_ ?_); focus (first | omega | (simp; done) | (simp; omega))) | ((with_reducible refine bel_row _ ?_ ?_); focus (first | omega | (simp; done) | (simp; omega))) | ((with_reducible refine bel_cell _ ?_ ?_); focus (first | omega | (simp; done) | (simp; omega))) | (with_reducible refine Below.drew ?_) | (with_reducible refine below_wideW _ ?_) | ((with_reducible refine bel_next (by assumption) ?_ ?_); focus (first | omega | (simp; done) | (simp; omega)))))⟩
  · obtain ⟨h2, h12, _, _, hfl, _⟩ := trainB_facts ho
    have HG := Lib.hid (film_upto hfl h12)
    clear hfl
    have hsl : ∀ b w, (Instr.sliceAt 29 (.pointer (some ⟨b, 3, none⟩)) none (some (.int .i8 r)) none).run Try.prog w = .ok (.slice (some ⟨b, 3, none⟩) r.toNat 12) w := by
      intro b w
      have := run_sliceAt_h (P := Try.prog) w 29 22 12 b 3 Try.underlying29 (by kernel_rfl) .i8 r.toNat (by omega)
      rwa [show ((r.toNat : Nat) : Int) = r by omega] at this
    go_enter Try.func39, Try.ntmps39
    go_wp2_with (first | (go_at_call 26; (with_reducible refine (implOk_any r s t F _ lr ur).mono ?_); rintro e w1 ⟨rfl, hb1⟩; have hz1 := hb1.size; simp at hz1; obtain ⟨hc1, hf1⟩ := bcell hb1) | ((with_reducible refine at_load 33 ?_); refine wpList_load_part rfl 33 _ rfl _ 0 15 rfl _ _ _ _ (by repeat (first | (with_reducible assumption) | ((with_reducible refine blk_new _ _ _ ?_); focus (simp; done)) | ((with_reducible refine blk_old _ _ _ ?_ ?_); focus (simp; done)) | ((with_reducible refine blk_old _ _ _ ?_ ?_); focus (simp; omega)) | ((with_reducible apply blk_set); focus (simp; done)) | ((with_reducible refine blk_off _ _ _ _ ?_ ?_); focus (simp; done)) | ((with_reducible refine blk_off _ _ _ _ ?_ ?_); focus (simp; omega)) | (with_reducible refine blk_drew _ _ ?_) | ((with_reducible refine blk_below (by assumption) ?_ ?_); focus (simp; done)) | ((with_reducible refine blk_below (by assumption) ?_ ?_); focus (simp; omega)))) Try.underlying33 rfl (by kernel_rfl) (by simp [row_size]) _ (row_all [_, _, _] 12 _) ?_) | (go_at_call 63; (with_reducible refine (sum_any F r.toNat _ 3 12 _ (by omega) HG.out ?_).mono ?_); (focus (intro i hi; refine (cell_of_row _ _ (3 + i) (train r s t F) 33 (0, 0) ?_).trans (row_k3 _ _ _ _ _ (by omega)); (repeat (first | (with_reducible assumption) | ((with_reducible refine blk_new _ _ _ ?_); focus (simp; done)) | ((with_reducible refine blk_old _ _ _ ?_ ?_); focus (simp; done)) | ((with_reducible refine blk_old _ _ _ ?_ ?_); focus (simp; omega)) | ((with_reducible apply blk_set); focus (simp; done)) | ((with_reducible refine blk_off _ _ _ _ ?_ ?_); focus (simp; done)) | ((with_reducible refine blk_off _ _ _ _ ?_ ?_); focus (simp; omega)) | (with_reducible refine blk_drew _ _ ?_) | ((with_reducible refine blk_below (by assumption) ?_ ?_); focus (simp; done)) | ((with_reducible refine blk_below (by assumption) ?_ ?_); focus (simp; omega)))))); rintro e w' ⟨rfl, rfl⟩) | go_in)
    go_ret2
    exact ⟨rfl, (by repeat (first | (with_reducible assumption) | (with_reducible exact Below.refl _ _) | ((with_reducible refine bel_alloc _ ?_ ?_); focus (first | omega | (simp; done) | (simp; omega))) | ((with_reducible refine bel_row _ ?_ ?_); focus (first | omega | (simp; done) | (simp; omega))) | ((with_reducible refine bel_cell _ ?_ ?_); focus (first | omega | (simp; done) | (simp; omega))) | (with_reducible refine Below.drew ?_) | (with_reducible refine below_wideW _ ?_) | ((with_reducible refine bel_next (by assumption) ?_ ?_); focus (first | omega | (simp; done) | (simp; omega)))))⟩
end Go.Proofs.Ytjlbnlghpecanaa
