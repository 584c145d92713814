/- Valid trains, as the reference and the program ask it. -/
import Derived.Test.YtiddeijhjedbbaaTCopy
set_option linter.unusedVariables false
set_option linter.unusedSimpArgs false
namespace Go.Proofs.Ytiddeijhjedbbaa
open Go.RowKit

def zeroB (x : Nat) : Bool := FloatKind.f32.format.order x 0 == some .eq
theorem zero_yes {x : Nat} (h : zeroB x = true) : FloatKind.f32.format.order x 0 = some .eq := by simpa [zeroB] using h
theorem zero_no {x : Nat} (h : zeroB x = false) : (FloatKind.f32.format.order x 0 == some .eq) = false ∧ (FloatKind.f32.format.order x 0 != some .eq) = true := by
  unfold zeroB at h
  exact ⟨h, by rw [bne, h]; rfl⟩
def cellB (r : Int) (F : Nat → Nat) (i : Nat) : Bool := if (i : Int) < r then filmB (F i) else zeroB (F i)
def cellsB (r : Int) (F : Nat → Nat) : Nat → Bool
  | 0 => true
  | k + 1 => cellsB r F k && cellB r F k
def trainB (r : Int) (s t : Nat) (F : Nat → Nat) : Bool := decide (2 ≤ r) && decide (r ≤ 12) && partB s && partB t && cellsB r F 12
theorem cellsB_le {r : Int} {F : Nat → Nat} {n : Nat} (h : cellsB r F n = true) : ∀ k, k < n → cellB r F k = true := by
  induction n with
  | zero => intro k hk; omega
  | succ n ih =>
    simp only [cellsB, Bool.and_eq_true] at h
    intro k hk
    by_cases e : k = n
    · subst e; exact h.2
    · exact ih h.1 k (by omega)
theorem cellsB_no {r : Int} {F : Nat → Nat} {n k : Nat} (hk : k < n) (h : cellB r F k = false) : cellsB r F n = false := by
  cases e : cellsB r F n
  · rfl
  · have := cellsB_le e k hk
    rw [h] at this; cases this
theorem trainB_no {r : Int} {s t : Nat} {F : Nat → Nat} {k : Nat} (hk : k < 12) (h : cellB r F k = false) : trainB r s t F = false := by
  unfold trainB; rw [cellsB_no hk h]; simp
theorem trainB_yes {r : Int} {s t : Nat} {F : Nat → Nat} (h1 : 2 ≤ r) (h2 : r ≤ 12) (hs : partB s = true) (ht : partB t = true) (h : cellsB r F 12 = true) : trainB r s t F = true := by
  unfold trainB; simp [h1, h2, hs, ht, h]

set_option maxHeartbeats 1600000 in
theorem specOk_any (r : Int) (s t : Nat) (F : Nat → Nat) (w : World) (hr0 : -128 ≤ r) (hr9 : r ≤ 127) (B : Nat) (hB : w.heap[B]? = some (.cells (train r s t F) 28 (0, 0))) : Calls Try.prog 52 #[.pointer (some ⟨B, 0, none⟩)] w fun e w' => e = .returned (.bool (trainB r s t F)) ∧ w = w' := by
  have c0 : w.cell? ⟨B, 0, none⟩ = some (.int .i8 r) := (cell_of_row w B 0 _ _ _ hB).trans (row_g0 _ _ _ _)
  have c1 : w.cell? ⟨B, 1, none⟩ = some (.float .f32 s) := (cell_of_row w B 1 _ _ _ hB).trans (row_g1 _ _ _ _ _)
  have c2 : w.cell? ⟨B, 2, none⟩ = some (.float .f32 t) := (cell_of_row w B 2 _ _ _ hB).trans (row_g2 _ _ _ _ _ _)
  have HB := Lib.hid hB
  clear hB
  by_cases h1 : 2 ≤ r
  · by_cases h2 : r ≤ 12
    · cases hs : partB s
      · go_enter Try.func52, Try.ntmps52
        go_wp2_with (first | (go_at_call 53; (with_reducible refine (specPart_any _ _).mono ?_); rintro e w' ⟨rfl, rfl⟩) | go_in)
        go_ret
        exact ⟨by simp [trainB, hs], rfl⟩
      · cases ht : partB t
        · go_enter Try.func52, Try.ntmps52
          go_wp2_with (first | (go_at_call 53; (with_reducible refine (specPart_any _ _).mono ?_); rintro e w' ⟨rfl, rfl⟩) | go_in)
          go_ret
          exact ⟨by simp [trainB, ht], rfl⟩
        · go_enter Try.func52, Try.ntmps52
          go_wp2_with (first | (go_at_call 53; (with_reducible refine (specPart_any _ _).mono ?_); rintro e w' ⟨rfl, rfl⟩) | go_in)
          go_loop [3] (fun i => ∃ k : Nat, k ≤ 12 ∧ i = .int .i64 k ∧ cellsB r F k = true) (fun i => 12 - (intOf i).toNat)
          case atStart => exact ⟨0, by omega, rfl, rfl⟩
          case round =>
            obtain ⟨k, hk, rfl, hc⟩ := hrel
            have HC := Lib.hid hc
            clear hc
            by_cases hlt : k < 12
            · have cf : w.cell? ⟨B, 3 + k, none⟩ = some (.float .f32 (F k)) := (cell_of_row w B (3 + k) _ _ _ HB.out).trans (row_k3 _ _ _ _ _ hlt)
              by_cases hr : (k : Int) < r
              · cases hf : filmB (F k)
                · go_wp2_with (first | (go_at_call 41; (with_reducible refine (specFilm_any _ _).mono ?_); rintro e w' ⟨rfl, rfl⟩) | go_in)
                  go_ret
                  exact ⟨by rw [trainB_no hlt (by simp [cellB, hr, hf])]; rfl, rfl⟩
                · go_wp2_with (first | (go_at_call 41; (with_reducible refine (specFilm_any _ _).mono ?_); rintro e w' ⟨rfl, rfl⟩) | go_in)
                  go_round
                  case rel => exact ⟨k + 1, by omega, by go_num, by simp [cellsB, cellB, HC.out, hr, hf]⟩
                  case measure => simp [intOf]; omega
              · cases hz : zeroB (F k)
                · obtain ⟨z1, z2⟩ := zero_no hz
                  have HZ := Lib.hid hz
                  clear hz
                  go_wp2_with (first | (go_at_call 41; (with_reducible refine (specFilm_any _ _).mono ?_); rintro e w' ⟨rfl, rfl⟩) | go_in)
                  go_ret
                  exact ⟨by rw [trainB_no hlt (by simp [cellB, show ¬ ((k : Int) < r) by omega, HZ.out])]; rfl, rfl⟩
                · have z1 := zero_yes hz
                  have HZ := Lib.hid hz
                  clear hz
                  go_wp2_with (first | (go_at_call 41; (with_reducible refine (specFilm_any _ _).mono ?_); rintro e w' ⟨rfl, rfl⟩) | go_in)
                  go_round
                  case rel => exact ⟨k + 1, by omega, by go_num, by simp [cellsB, cellB, HC.out, show ¬ ((k : Int) < r) by omega, HZ.out]⟩
                  case measure => simp [intOf]; omega
            · obtain rfl : k = 12 := by omega
              go_wp2
              go_ret
              exact ⟨by rw [trainB_yes h1 h2 hs ht HC.out]; rfl, rfl⟩
    · have h3 : (!decide (r ≤ 12)) = true := by simp; omega
      go_enter Try.func52, Try.ntmps52
      go_wp2_with (first | (go_at_call 53; (with_reducible refine (specPart_any _ _).mono ?_); rintro e w' ⟨rfl, rfl⟩) | go_in)
      go_ret
      exact ⟨by simp [trainB, show ¬ (r ≤ 12) by omega], rfl⟩
  · have h3 : r < 2 := by omega
    clear h1
    go_enter Try.func52, Try.ntmps52
    go_wp2_with (first | (go_at_call 53; (with_reducible refine (specPart_any _ _).mono ?_); rintro e w' ⟨rfl, rfl⟩) | go_in)
    go_ret
    exact ⟨by simp [trainB, show ¬ (2 ≤ r) by omega], rfl⟩

set_option maxHeartbeats 1600000 in
theorem implOk_any (r : Int) (s t : Nat) (F : Nat → Nat) (w : World) (hr0 : -128 ≤ r) (hr9 : r ≤ 127) : Calls Try.prog 49 #[.agg (train r s t F)] w fun e w' => e = .returned (.bool (trainB r s t F)) ∧ Below w.heap.size w w' := by
  by_cases h1 : 2 ≤ r
  · by_cases h2 : r ≤ 12
    · cases hs : partB s
      · go_enter Try.func49, Try.ntmps49
        go_wp2_with (first | (go_at_call 63; (with_reducible refine (areParts_two s t _ _ (by go_simp) (by go_simp)).mono ?_); rintro e w1 ⟨rfl, rfl⟩) | ((with_reducible refine at_load 26 ?_); refine wpList_load_part rfl 26 _ rfl _ 3 12 rfl _ _ _ _ (by repeat (first | (with_reducible assumption) | ((with_reducible refine blk_new _ _ _ ?_); focus (simp; done)) | ((with_reducible refine blk_old _ _ _ ?_ ?_); focus (simp; done)) | ((with_reducible refine blk_old _ _ _ ?_ ?_); focus (simp; omega)) | ((with_reducible apply blk_set); focus (simp; done)) | ((with_reducible refine blk_off _ _ _ _ ?_ ?_); focus (simp; done)) | ((with_reducible refine blk_off _ _ _ _ ?_ ?_); focus (simp; omega)) | (with_reducible refine blk_drew _ _ ?_) | ((with_reducible refine blk_below (by assumption) ?_ ?_); focus (simp; done)) | ((with_reducible refine blk_below (by assumption) ?_ ?_); focus (simp; omega)))) Try.underlying26 rfl (by kernel_rfl) (by simp [row_size]) _ (row_tail [_, _, _] 12 _) ?_) | go_in)
        go_ret
        exact ⟨by simp [trainB, hs], (by repeat (first | (with_reducible assumption) | (with_reducible exact Below.refl _ _) | ((with_reducible refine bel_alloc _ ?_ ?_); focus (first | omega | (simp; done) | (simp; omega))) | ((with_reducible refine bel_row _ ?_ ?_); focus (first | omega | (simp; done) | (simp; omega))) | ((with_reducible refine bel_cell _ ?_ ?_); focus (first | omega | (simp; done) | (simp; omega))) | (with_reducible refine Below.drew ?_) | (with_reducible refine below_wideW _ ?_) | ((with_reducible refine bel_next (by assumption) ?_ ?_); focus (first | omega | (simp; done) | (simp; omega)))))⟩
      · cases ht : partB t
        · go_enter Try.func49, Try.ntmps49
          go_wp2_with (first | (go_at_call 63; (with_reducible refine (areParts_two s t _ _ (by go_simp) (by go_simp)).mono ?_); rintro e w1 ⟨rfl, rfl⟩) | ((with_reducible refine at_load 26 ?_); refine wpList_load_part rfl 26 _ rfl _ 3 12 rfl _ _ _ _ (by repeat (first | (with_reducible assumption) | ((with_reducible refine blk_new _ _ _ ?_); focus (simp; done)) | ((with_reducible refine blk_old _ _ _ ?_ ?_); focus (simp; done)) | ((with_reducible refine blk_old _ _ _ ?_ ?_); focus (simp; omega)) | ((with_reducible apply blk_set); focus (simp; done)) | ((with_reducible refine blk_off _ _ _ _ ?_ ?_); focus (simp; done)) | ((with_reducible refine blk_off _ _ _ _ ?_ ?_); focus (simp; omega)) | (with_reducible refine blk_drew _ _ ?_) | ((with_reducible refine blk_below (by assumption) ?_ ?_); focus (simp; done)) | ((with_reducible refine blk_below (by assumption) ?_ ?_); focus (simp; omega)))) Try.underlying26 rfl (by kernel_rfl) (by simp [row_size]) _ (row_tail [_, _, _] 12 _) ?_) | go_in)
          go_ret
          exact ⟨by simp [trainB, ht], (by repeat (first | (with_reducible assumption) | (with_reducible exact Below.refl _ _) | ((with_reducible refine bel_alloc _ ?_ ?_); focus (first | omega | (simp; done) | (simp; omega))) | ((with_reducible refine bel_row _ ?_ ?_); focus (first | omega | (simp; done) | (simp; omega))) | ((with_reducible refine bel_cell _ ?_ ?_); focus (first | omega | (simp; done) | (simp; omega))) | (with_reducible refine Below.drew ?_) | (with_reducible refine below_wideW _ ?_) | ((with_reducible refine bel_next (by assumption) ?_ ?_); focus (first | omega | (simp; done) | (simp; omega)))))⟩
        · go_enter Try.func49, Try.ntmps49
          go_wp2_with (first | (go_at_call 63; (with_reducible refine (areParts_two s t _ _ (by go_simp) (by go_simp)).mono ?_); rintro e w1 ⟨rfl, rfl⟩) | ((with_reducible refine at_load 26 ?_); refine wpList_load_part rfl 26 _ rfl _ 3 12 rfl _ _ _ _ (by repeat (first | (with_reducible assumption) | ((with_reducible refine blk_new _ _ _ ?_); focus (simp; done)) | ((with_reducible refine blk_old _ _ _ ?_ ?_); focus (simp; done)) | ((with_reducible refine blk_old _ _ _ ?_ ?_); focus (simp; omega)) | ((with_reducible apply blk_set); focus (simp; done)) | ((with_reducible refine blk_off _ _ _ _ ?_ ?_); focus (simp; done)) | ((with_reducible refine blk_off _ _ _ _ ?_ ?_); focus (simp; omega)) | (with_reducible refine blk_drew _ _ ?_) | ((with_reducible refine blk_below (by assumption) ?_ ?_); focus (simp; done)) | ((with_reducible refine blk_below (by assumption) ?_ ?_); focus (simp; omega)))) Try.underlying26 rfl (by kernel_rfl) (by simp [row_size]) _ (row_tail [_, _, _] 12 _) ?_) | go_in)
          go_loop [21] (fun i => ∃ k : Nat, k ≤ 12 ∧ i = .int .i64 k ∧ cellsB r F k = true) (fun i => 12 - (intOf i).toNat)
          case atStart => exact ⟨0, by omega, rfl, rfl⟩
          case round =>
            obtain ⟨k, hk, rfl, hc⟩ := hrel
            have HC := Lib.hid hc
            clear hc
            by_cases hlt : k < 12
            · have ix := fun w => run_index_row (P := Try.prog) w 26 25 12 F k hlt Try.underlying26 Try.underlying25 (by kernel_rfl)
              by_cases hr : (k : Int) < r
              · cases hf : filmB (F k)
                · go_wp2_with (first | (go_at_call 37; (with_reducible refine (implFilm_any _ _).mono ?_); rintro e w' ⟨rfl, rfl⟩) | go_in)
                  go_ret
                  exact ⟨by rw [trainB_no hlt (by simp [cellB, hr, hf])]; rfl, (by repeat (first | (with_reducible assumption) | (with_reducible exact Below.refl _ _) | ((with_reducible refine bel_alloc _ ?_ ?_); focus (first | omega | (simp; done) | (simp; omega))) | ((with_reducible refine bel_row _ ?_ ?_); focus (first | omega | (simp; done) | (simp; omega))) | ((with_reducible refine bel_cell _ ?_ ?_); focus (first | omega | (simp; done) | (simp; omega))) | (with_reducible refine Below.drew ?_) | (with_reducible refine below_wideW _ ?_) | ((with_reducible refine bel_next (by assumption) ?_ ?_); focus (first | omega | (simp; done) | (simp; omega)))))⟩
                · go_wp2_with (first | (go_at_call 37; (with_reducible refine (implFilm_any _ _).mono ?_); rintro e w' ⟨rfl, rfl⟩) | go_in)
                  go_round
                  case rel => exact ⟨k + 1, by omega, by go_num, by simp [cellsB, cellB, HC.out, hr, hf]⟩
                  case measure => simp [intOf]; omega
              · cases hz : zeroB (F k)
                · obtain ⟨z1, z2⟩ := zero_no hz
                  have HZ := Lib.hid hz
                  clear hz
                  go_wp2_with (first | (go_at_call 37; (with_reducible refine (implFilm_any _ _).mono ?_); rintro e w' ⟨rfl, rfl⟩) | go_in)
                  go_ret
                  exact ⟨by rw [trainB_no hlt (by simp [cellB, show ¬ ((k : Int) < r) by omega, HZ.out])]; rfl, (by repeat (first | (with_reducible assumption) | (with_reducible exact Below.refl _ _) | ((with_reducible refine bel_alloc _ ?_ ?_); focus (first | omega | (simp; done) | (simp; omega))) | ((with_reducible refine bel_row _ ?_ ?_); focus (first | omega | (simp; done) | (simp; omega))) | ((with_reducible refine bel_cell _ ?_ ?_); focus (first | omega | (simp; done) | (simp; omega))) | (with_reducible refine Below.drew ?_) | (with_reducible refine below_wideW _ ?_) | ((with_reducible refine bel_next (by assumption) ?_ ?_); focus (first | omega | (simp; done) | (simp; omega)))))⟩
                · have z1 := zero_yes hz
                  have HZ := Lib.hid hz
                  clear hz
                  go_wp2_with (first | (go_at_call 37; (with_reducible refine (implFilm_any _ _).mono ?_); rintro e w' ⟨rfl, rfl⟩) | go_in)
                  go_round
                  case rel => exact ⟨k + 1, by omega, by go_num, by simp [cellsB, cellB, HC.out, show ¬ ((k : Int) < r) by omega, HZ.out]⟩
                  case measure => simp [intOf]; omega
            · obtain rfl : k = 12 := by omega
              go_wp2
              go_ret
              exact ⟨by rw [trainB_yes h1 h2 hs ht HC.out]; rfl, (by repeat (first | (with_reducible assumption) | (with_reducible exact Below.refl _ _) | ((with_reducible refine bel_alloc _ ?_ ?_); focus (first | omega | (simp; done) | (simp; omega))) | ((with_reducible refine bel_row _ ?_ ?_); focus (first | omega | (simp; done) | (simp; omega))) | ((with_reducible refine bel_cell _ ?_ ?_); focus (first | omega | (simp; done) | (simp; omega))) | (with_reducible refine Below.drew ?_) | (with_reducible refine below_wideW _ ?_) | ((with_reducible refine bel_next (by assumption) ?_ ?_); focus (first | omega | (simp; done) | (simp; omega)))))⟩
    · have h3 : (!decide (r ≤ 12)) = true := by simp; omega
      go_enter Try.func49, Try.ntmps49
      go_wp2_with (first | (go_at_call 63; (with_reducible refine (areParts_two s t _ _ (by go_simp) (by go_simp)).mono ?_); rintro e w1 ⟨rfl, rfl⟩) | ((with_reducible refine at_load 26 ?_); refine wpList_load_part rfl 26 _ rfl _ 3 12 rfl _ _ _ _ (by repeat (first | (with_reducible assumption) | ((with_reducible refine blk_new _ _ _ ?_); focus (simp; done)) | ((with_reducible refine blk_old _ _ _ ?_ ?_); focus (simp; done)) | ((with_reducible refine blk_old _ _ _ ?_ ?_); focus (simp; omega)) | ((with_reducible apply blk_set); focus (simp; done)) | ((with_reducible refine blk_off _ _ _ _ ?_ ?_); focus (simp; done)) | ((with_reducible refine blk_off _ _ _ _ ?_ ?_); focus (simp; omega)) | (with_reducible refine blk_drew _ _ ?_) | ((with_reducible refine blk_below (by assumption) ?_ ?_); focus (simp; done)) | ((with_reducible refine blk_below (by assumption) ?_ ?_); focus (simp; omega)))) Try.underlying26 rfl (by kernel_rfl) (by simp [row_size]) _ (row_tail [_, _, _] 12 _) ?_) | go_in)
      go_ret
      exact ⟨by simp [trainB, show ¬ (r ≤ 12) by omega], (by repeat (first | (with_reducible assumption) | (with_reducible exact Below.refl _ _) | ((with_reducible refine bel_alloc _ ?_ ?_); focus (first | omega | (simp; done) | (simp; omega))) | ((with_reducible refine bel_row _ ?_ ?_); focus (first | omega | (simp; done) | (simp; omega))) | ((with_reducible refine bel_cell _ ?_ ?_); focus (first | omega | (simp; done) | (simp; omega))) | (with_reducible refine Below.drew ?_) | (with_reducible refine below_wideW _ ?_) | ((with_reducible refine bel_next (by assumption) ?_ ?_); focus (first | omega | (simp; done) | (simp; omega)))))⟩
  · have h3 : r < 2 := by omega
    clear h1
    go_enter Try.func49, Try.ntmps49
    go_wp2_with (first | (go_at_call 63; (with_reducible refine (areParts_two s t _ _ (by go_simp) (by go_simp)).mono ?_); rintro e w1 ⟨rfl, rfl⟩) | ((with_reducible refine at_load 26 ?_); refine wpList_load_part rfl 26 _ rfl _ 3 12 rfl _ _ _ _ (by repeat (first | (with_reducible assumption) | ((with_reducible refine blk_new _ _ _ ?_); focus (simp; done)) | ((with_reducible refine blk_old _ _ _ ?_ ?_); focus (simp; done)) | ((with_reducible refine blk_old _ _ _ ?_ ?_); focus (simp; omega)) | ((with_reducible apply blk_set); focus (simp; done)) | ((with_reducible refine blk_off _ _ _ _ ?_ ?_); focus (simp; done)) | ((with_reducible refine blk_off _ _ _ _ ?_ ?_); focus (simp; omega)) | (with_reducible refine blk_drew _ _ ?_) | ((with_reducible refine blk_below (by assumption) ?_ ?_); focus (simp; done)) | ((with_reducible refine blk_below (by assumption) ?_ ?_); focus (simp; omega)))) Try.underlying26 rfl (by kernel_rfl) (by simp [row_size]) _ (row_tail [_, _, _] 12 _) ?_) | go_in)
    go_ret
    exact ⟨by simp [trainB, show ¬ (2 ≤ r) by omega], (by repeat (first | (with_reducible assumption) | (with_reducible exact Below.refl _ _) | ((with_reducible refine bel_alloc _ ?_ ?_); focus (first | omega | (simp; done) | (simp; omega))) | ((with_reducible refine bel_row _ ?_ ?_); focus (first | omega | (simp; done) | (simp; omega))) | ((with_reducible refine bel_cell _ ?_ ?_); focus (first | omega | (simp; done) | (simp; omega))) | (with_reducible refine Below.drew ?_) | (with_reducible refine below_wideW _ ?_) | ((with_reducible refine bel_next (by assumption) ?_ ?_); focus (first | omega | (simp; done) | (simp; omega)))))⟩
end Go.Proofs.Ytiddeijhjedbbaa
