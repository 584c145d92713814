/- Parts of a proof, merged; each under its own premises. -/
import Derived.Test.YtkokekndiammpaaGreatDoorPA
import Derived.Deep.QuietTactic
import Derived.BigQuiet
import Derived.Deep.RegionWith
import Derived.Deep.RegionHeld3
import Derived.Deep.MidRow
import Derived.OwnWalk
import Derived.Laws.OwnMore

/-! Valid trains, as the reference and the program ask it. -/
set_option linter.unusedVariables false
set_option linter.unusedSimpArgs false
namespace Go.Proofs.YtkokekndiammpaaGreatDoor
open Go.RowKit

def zeroB (x : Nat) : Bool := FloatKind.f32.format.order x 0 == some .eq
theorem zero_yes {x : Nat} (h : zeroB x = true) : FloatKind.f32.format.order x 0 = some .eq := by simpa [zeroB] using h
theorem zero_no {x : Nat} (h : zeroB x = false) : (FloatKind.f32.format.order x 0 == some .eq) = false ∧ (FloatKind.f32.format.order x 0 != some .eq) = true := by
  unfold zeroB at h
  exact ⟨h, by rw [bne, h]; rfl⟩
def cellB (r : Int) (F : Nat → Nat) (i : Nat) : Bool := if (i : Int) < r then filmB (F i) else zeroB (F i)
def cellsB (r : Int) (F : Nat → Nat) : Nat → Bool
  | 0 => true
  | k + 1 => cellsB r F k && cellB r F k
def trainB (r : Int) (s t : Nat) (F : Nat → Nat) : Bool := decide (2 ≤ r) && decide (r ≤ 12) && partB s && partB t && cellsB r F 12
theorem cellsB_le {r : Int} {F : Nat → Nat} {n : Nat} (h : cellsB r F n = true) : ∀ k, k < n → cellB r F k = true := by
  induction n with
  | zero => intro k hk; omega
  | succ n ih =>
    simp only [cellsB, Bool.and_eq_true] at h
    intro k hk
    by_cases e : k = n
    · subst e; exact h.2
    · exact ih h.1 k (by omega)
theorem cellsB_no {r : Int} {F : Nat → Nat} {n k : Nat} (hk : k < n) (h : cellB r F k = false) : cellsB r F n = false := by
  cases e : cellsB r F n
  · rfl
  · have := cellsB_le e k hk
    rw [h] at this; cases this
theorem trainB_no {r : Int} {s t : Nat} {F : Nat → Nat} {k : Nat} (hk : k < 12) (h : cellB r F k = false) : trainB r s t F = false := by
  unfold trainB; rw [cellsB_no hk h]; simp
theorem trainB_yes {r : Int} {s t : Nat} {F : Nat → Nat} (h1 : 2 ≤ r) (h2 : r ≤ 12) (hs : partB s = true) (ht : partB t = true) (h : cellsB r F 12 = true) : trainB r s t F = true := by
  unfold trainB; simp [h1, h2, hs, ht, h]

set_option maxHeartbeats 1600000 in
theorem specOk_any (r : Int) (s t : Nat) (F : Nat → Nat) (w : World) (hr0 : -128 ≤ r) (hr9 : r ≤ 127) (B : Nat) (hB : w.heap[B]? = some (.cells (train r s t F) 28 (0, 0))) : Calls Tryz.prog 67 #[.pointer (some ⟨B, 0, none⟩)] w fun e w' => e = .returned (.bool (trainB r s t F)) ∧ w = w' := by
  have c0 : w.cell? ⟨B, 0, none⟩ = some (.int .i8 r) := (cell_of_row w B 0 _ _ _ hB).trans (row_g0 _ _ _ _)
  have c1 : w.cell? ⟨B, 1, none⟩ = some (.float .f32 s) := (cell_of_row w B 1 _ _ _ hB).trans (row_g1 _ _ _ _ _)
  have c2 : w.cell? ⟨B, 2, none⟩ = some (.float .f32 t) := (cell_of_row w B 2 _ _ _ hB).trans (row_g2 _ _ _ _ _ _)
  have HB := Lib.hid hB
  clear hB
  by_cases h1 : 2 ≤ r
  · by_cases h2 : r ≤ 12
    · cases hs : partB s
      · go_enter Tryz.func67, Tryz.ntmps67
        go_wp2_with (first | (go_at_call 69; (with_reducible refine (specPart_any _ _).mono ?_); rintro e w' ⟨rfl, rfl⟩) | go_in)
        go_ret
        exact ⟨by simp [trainB, hs], rfl⟩
      · cases ht : partB t
        · go_enter Tryz.func67, Tryz.ntmps67
          go_wp2_with (first | (go_at_call 69; (with_reducible refine (specPart_any _ _).mono ?_); rintro e w' ⟨rfl, rfl⟩) | go_in)
          go_ret
          exact ⟨by simp [trainB, ht], rfl⟩
        · go_enter Tryz.func67, Tryz.ntmps67
          go_wp2_with (first | (go_at_call 69; (with_reducible refine (specPart_any _ _).mono ?_); rintro e w' ⟨rfl, rfl⟩) | go_in)
          go_loop [3] (fun i => ∃ k : Nat, k ≤ 12 ∧ i = .int .i64 k ∧ cellsB r F k = true) (fun i => 12 - (intOf i).toNat)
          case atStart => exact ⟨0, by omega, rfl, rfl⟩
          case round =>
            obtain ⟨k, hk, rfl, hc⟩ := hrel
            have HC := Lib.hid hc
            clear hc
            by_cases hlt : k < 12
            · have cf : w.cell? ⟨B, 3 + k, none⟩ = some (.float .f32 (F k)) := (cell_of_row w B (3 + k) _ _ _ HB.out).trans (row_k3 _ _ _ _ _ hlt)
              by_cases hr : (k : Int) < r
              · cases hf : filmB (F k)
                · go_wp2_with (first | (go_at_call 68; (with_reducible refine (specFilm_any _ _).mono ?_); rintro e w' ⟨rfl, rfl⟩) | go_in)
                  go_ret
                  exact ⟨by rw [trainB_no hlt (by simp [cellB, hr, hf])]; rfl, rfl⟩
                · go_wp2_with (first | (go_at_call 68; (with_reducible refine (specFilm_any _ _).mono ?_); rintro e w' ⟨rfl, rfl⟩) | go_in)
                  go_round
                  case rel => exact ⟨k + 1, by omega, by go_num, by simp [cellsB, cellB, HC.out, hr, hf]⟩
                  case measure => simp [intOf]; omega
              · cases hz : zeroB (F k)
                · obtain ⟨z1, z2⟩ := zero_no hz
                  have HZ := Lib.hid hz
                  clear hz
                  go_wp2_with (first | (go_at_call 68; (with_reducible refine (specFilm_any _ _).mono ?_); rintro e w' ⟨rfl, rfl⟩) | go_in)
                  go_ret
                  exact ⟨by rw [trainB_no hlt (by simp [cellB, show ¬ ((k : Int) < r) by omega, HZ.out])]; rfl, rfl⟩
                · have z1 := zero_yes hz
                  have HZ := Lib.hid hz
                  clear hz
                  go_wp2_with (first | (go_at_call 68; (with_reducible refine (specFilm_any _ _).mono ?_); rintro e w' ⟨rfl, rfl⟩) | go_in)
                  go_round
                  case rel => exact ⟨k + 1, by omega, by go_num, by simp [cellsB, cellB, HC.out, show ¬ ((k : Int) < r) by omega, HZ.out]⟩
                  case measure => simp [intOf]; omega
            · obtain rfl : k = 12 := by omega
              go_wp2
              go_ret
              exact ⟨by rw [trainB_yes h1 h2 hs ht HC.out]; rfl, rfl⟩
    · have h3 : (!decide (r ≤ 12)) = true := by simp; omega
      go_enter Tryz.func67, Tryz.ntmps67
      go_wp2_with (first | (go_at_call 69; (with_reducible refine (specPart_any _ _).mono ?_); rintro e w' ⟨rfl, rfl⟩) | go_in)
      go_ret
      exact ⟨by simp [trainB, show ¬ (r ≤ 12) by omega], rfl⟩
  · have h3 : r < 2 := by omega
    clear h1
    go_enter Tryz.func67, Tryz.ntmps67
    go_wp2_with (first | (go_at_call 69; (with_reducible refine (specPart_any _ _).mono ?_); rintro e w' ⟨rfl, rfl⟩) | go_in)
    go_ret
    exact ⟨by simp [trainB, show ¬ (2 ≤ r) by omega], rfl⟩

set_option maxHeartbeats 1600000 in
theorem implOk_any (r : Int) (s t : Nat) (F : Nat → Nat) (w : World) (hr0 : -128 ≤ r) (hr9 : r ≤ 127) : Calls Tryz.prog 18 #[.agg (train r s t F)] w fun e w' => e = .returned (.bool (trainB r s t F)) ∧ Below w.heap.size w w' := by
  by_cases h1 : 2 ≤ r
  · by_cases h2 : r ≤ 12
    · cases hs : partB s
      · go_enter Tryz.func18, Tryz.ntmps18
        go_wp2_with (first | (go_at_call 42; (with_reducible refine (areParts_two s t _ _ (by go_simp) (by go_simp)).mono ?_); rintro e w1 ⟨rfl, rfl⟩) | ((with_reducible refine at_load 26 ?_); refine wpList_load_part rfl 26 _ rfl _ 3 12 rfl _ _ _ _ (by repeat (first | (with_reducible assumption) | ((with_reducible refine blk_new _ _ _ ?_); focus (simp; done)) | ((with_reducible refine blk_old _ _ _ ?_ ?_); focus (simp; done)) | ((with_reducible refine blk_old _ _ _ ?_ ?_); focus (simp; omega)) | ((with_reducible apply blk_set); focus (simp; done)) | ((with_reducible refine blk_off _ _ _ _ ?_ ?_); focus (simp; done)) | ((with_reducible refine blk_off _ _ _ _ ?_ ?_); focus (simp; omega)) | (with_reducible refine blk_drew _ _ ?_) | ((with_reducible refine blk_below (by assumption) ?_ ?_); focus (simp; done)) | ((with_reducible refine blk_below (by assumption) ?_ ?_); focus (simp; omega)))) Tryz.underlying26 rfl (by kernel_rfl) (by simp [row_size]) _ (row_tail [_, _, _] 12 _) ?_) | go_in)
        go_ret
        exact ⟨by simp [trainB, hs], (by repeat (first | (with_reducible assumption) | (with_reducible exact Below.refl _ _) | ((with_reducible refine bel_alloc _ ?_ ?_); focus (first | omega | (simp; done) | (simp; omega))) | ((with_reducible refine bel_row _ ?_ ?_); focus (first | omega | (simp; done) | (simp; omega))) | ((with_reducible refine bel_cell _ ?_ ?_); focus (first | omega | (simp; done) | (simp; omega))) | (with_reducible refine Below.drew ?_) | (with_reducible refine below_wideW _ ?_) | ((with_reducible refine bel_next (by assumption) ?_ ?_); focus (first | omega | (simp; done) | (simp; omega)))))⟩
      · cases ht : partB t
        · go_enter Tryz.func18, Tryz.ntmps18
          go_wp2_with (first | (go_at_call 42; (with_reducible refine (areParts_two s t _ _ (by go_simp) (by go_simp)).mono ?_); rintro e w1 ⟨rfl, rfl⟩) | ((with_reducible refine at_load 26 ?_); refine wpList_load_part rfl 26 _ rfl _ 3 12 rfl _ _ _ _ (by repeat (first | (with_reducible assumption) | ((with_reducible refine blk_new _ _ _ ?_); focus (simp; done)) | ((with_reducible refine blk_old _ _ _ ?_ ?_); focus (simp; done)) | ((with_reducible refine blk_old _ _ _ ?_ ?_); focus (simp; omega)) | ((with_reducible apply blk_set); focus (simp; done)) | ((with_reducible refine blk_off _ _ _ _ ?_ ?_); focus (simp; done)) | ((with_reducible refine blk_off _ _ _ _ ?_ ?_); focus (simp; omega)) | (with_reducible refine blk_drew _ _ ?_) | ((with_reducible refine blk_below (by assumption) ?_ ?_); focus (simp; done)) | ((with_reducible refine blk_below (by assumption) ?_ ?_); focus (simp; omega)))) Tryz.underlying26 rfl (by kernel_rfl) (by simp [row_size]) _ (row_tail [_, _, _] 12 _) ?_) | go_in)
          go_ret
          exact ⟨by simp [trainB, ht], (by repeat (first | (with_reducible assumption) | (with_reducible exact Below.refl _ _) | ((with_reducible refine bel_alloc _ ?_ ?_); focus (first | omega | (simp; done) | (simp; omega))) | ((with_reducible refine bel_row _ ?_ ?_); focus (first | omega | (simp; done) | (simp; omega))) | ((with_reducible refine bel_cell _ ?_ ?_); focus (first | omega | (simp; done) | (simp; omega))) | (with_reducible refine Below.drew ?_) | (with_reducible refine below_wideW _ ?_) | ((with_reducible refine bel_next (by assumption) ?_ ?_); focus (first | omega | (simp; done) | (simp; omega)))))⟩
        · go_enter Tryz.func18, Tryz.ntmps18
          go_wp2_with (first | (go_at_call 42; (with_reducible refine (areParts_two s t _ _ (by go_simp) (by go_simp)).mono ?_); rintro e w1 ⟨rfl, rfl⟩) | ((with_reducible refine at_load 26 ?_); refine wpList_load_part rfl 26 _ rfl _ 3 12 rfl _ _ _ _ (by repeat (first | (with_reducible assumption) | ((with_reducible refine blk_new _ _ _ ?_); focus (simp; done)) | ((with_reducible refine blk_old _ _ _ ?_ ?_); focus (simp; done)) | ((with_reducible refine blk_old _ _ _ ?_ ?_); focus (simp; omega)) | ((with_reducible apply blk_set); focus (simp; done)) | ((with_reducible refine blk_off _ _ _ _ ?_ ?_); focus (simp; done)) | ((with_reducible refine blk_off _ _ _ _ ?_ ?_); focus (simp; omega)) | (with_reducible refine blk_drew _ _ ?_) | ((with_reducible refine blk_below (by assumption) ?_ ?_); focus (simp; done)) | ((with_reducible refine blk_below (by assumption) ?_ ?_); focus (simp; omega)))) Tryz.underlying26 rfl (by kernel_rfl) (by simp [row_size]) _ (row_tail [_, _, _] 12 _) ?_) | go_in)
          go_loop [21] (fun i => ∃ k : Nat, k ≤ 12 ∧ i = .int .i64 k ∧ cellsB r F k = true) (fun i => 12 - (intOf i).toNat)
          case atStart => exact ⟨0, by omega, rfl, rfl⟩
          case round =>
            obtain ⟨k, hk, rfl, hc⟩ := hrel
            have HC := Lib.hid hc
            clear hc
            by_cases hlt : k < 12
            · have ix := fun w => run_index_row (P := Tryz.prog) w 26 25 12 F k hlt Tryz.underlying26 Tryz.underlying25 (by kernel_rfl)
              by_cases hr : (k : Int) < r
              · cases hf : filmB (F k)
                · go_wp2_with (first | (go_at_call 43; (with_reducible refine (implFilm_any _ _).mono ?_); rintro e w' ⟨rfl, rfl⟩) | go_in)
                  go_ret
                  exact ⟨by rw [trainB_no hlt (by simp [cellB, hr, hf])]; rfl, (by repeat (first | (with_reducible assumption) | (with_reducible exact Below.refl _ _) | ((with_reducible refine bel_alloc _ ?_ ?_); focus (first | omega | (simp; done) | (simp; omega))) | ((with_reducible refine bel_row _ ?_ ?_); focus (first | omega | (simp; done) | (simp; omega))) | ((with_reducible refine bel_cell _ ?_ ?_); focus (first | omega | (simp; done) | (simp; omega))) | (with_reducible refine Below.drew ?_) | (with_reducible refine below_wideW _ ?_) | ((with_reducible refine bel_next (by assumption) ?_ ?_); focus (first | omega | (simp; done) | (simp; omega)))))⟩
                · go_wp2_with (first | (go_at_call 43; (with_reducible refine (implFilm_any _ _).mono ?_); rintro e w' ⟨rfl, rfl⟩) | go_in)
                  go_round
                  case rel => exact ⟨k + 1, by omega, by go_num, by simp [cellsB, cellB, HC.out, hr, hf]⟩
                  case measure => simp [intOf]; omega
              · cases hz : zeroB (F k)
                · obtain ⟨z1, z2⟩ := zero_no hz
                  have HZ := Lib.hid hz
                  clear hz
                  go_wp2_with (first | (go_at_call 43; (with_reducible refine (implFilm_any _ _).mono ?_); rintro e w' ⟨rfl, rfl⟩) | go_in)
                  go_ret
                  exact ⟨by rw [trainB_no hlt (by simp [cellB, show ¬ ((k : Int) < r) by omega, HZ.out])]; rfl, (by repeat (first | (with_reducible assumption) | (with_reducible exact Below.refl _ _) | ((with_reducible refine bel_alloc _ ?_ ?_); focus (first | omega | (simp; done) | (simp; omega))) | ((with_reducible refine bel_row _ ?_ ?_); focus (first | omega | (simp; done) | (simp; omega))) | ((with_reducible refine bel_cell _ ?_ ?_); focus (first | omega | (simp; done) | (simp; omega))) | (with_reducible refine Below.drew ?_) | (with_reducible refine below_wideW _ ?_) | ((with_reducible refine bel_next (by assumption) ?_ ?_); focus (first | omega | (simp; done) | (simp; omega)))))⟩
                · have z1 := zero_yes hz
                  have HZ := Lib.hid hz
                  clear hz
                  go_wp2_with (first | (go_at_call 43; (with_reducible refine (implFilm_any _ _).mono ?_); rintro e w' ⟨rfl, rfl⟩) | go_in)
                  go_round
                  case rel => exact ⟨k + 1, by omega, by go_num, by simp [cellsB, cellB, HC.out, show ¬ ((k : Int) < r) by omega, HZ.out]⟩
                  case measure => simp [intOf]; omega
            · obtain rfl : k = 12 := by omega
              go_wp2
              go_ret
              exact ⟨by rw [trainB_yes h1 h2 hs ht HC.out]; rfl, (by repeat (first | (with_reducible assumption) | (with_reducible exact Below.refl _ _) | ((with_reducible refine bel_alloc _ ?_ ?_); focus (first | omega | (simp; done) | (simp; omega))) | ((with_reducible refine bel_row _ ?_ ?_); focus (first | omega | (simp; done) | (simp; omega))) | ((with_reducible refine bel_cell _ ?_ ?_); focus (first | omega | (simp; done) | (simp; omega))) | (with_reducible refine Below.drew ?_) | (with_reducible refine below_wideW _ ?_) | ((with_reducible refine bel_next (by assumption) ?_ ?_); focus (first | omega | (simp; done) | (simp; omega)))))⟩
    · have h3 : (!decide (r ≤ 12)) = true := by simp; omega
      go_enter Tryz.func18, Tryz.ntmps18
      go_wp2_with (first | (go_at_call 42; (with_reducible refine (areParts_two s t _ _ (by go_simp) (by go_simp)).mono ?_); rintro e w1 ⟨rfl, rfl⟩) | ((with_reducible refine at_load 26 ?_); refine wpList_load_part rfl 26 _ rfl _ 3 12 rfl _ _ _ _ (by repeat (first | (with_reducible assumption) | ((with_reducible refine blk_new _ _ _ ?_); focus (simp; done)) | ((with_reducible refine blk_old _ _ _ ?_ ?_); focus (simp; done)) | ((with_reducible refine blk_old _ _ _ ?_ ?_); focus (simp; omega)) | ((with_reducible apply blk_set); focus (simp; done)) | ((with_reducible refine blk_off _ _ _ _ ?_ ?_); focus (simp; done)) | ((with_reducible refine blk_off _ _ _ _ ?_ ?_); focus (simp; omega)) | (with_reducible refine blk_drew _ _ ?_) | ((with_reducible refine blk_below (by assumption) ?_ ?_); focus (simp; done)) | ((with_reducible refine blk_below (by assumption) ?_ ?_); focus (simp; omega)))) Tryz.underlying26 rfl (by kernel_rfl) (by simp [row_size]) _ (row_tail [_, _, _] 12 _) ?_) | go_in)
      go_ret
      exact ⟨by simp [trainB, show ¬ (r ≤ 12) by omega], (by repeat (first | (with_reducible assumption) | (with_reducible exact Below.refl _ _) | ((with_reducible refine bel_alloc _ ?_ ?_); focus (first | omega | (simp; done) | (simp; omega))) | ((with_reducible refine bel_row _ ?_ ?_); focus (first | omega | (simp; done) | (simp; omega))) | ((with_reducible refine bel_cell _ ?_ ?_); focus (first | omega | (simp; done) | (simp; omega))) | (with_reducible refine Below.drew ?_) | (with_reducible refine below_wideW _ ?_) | ((with_reducible refine bel_next (by assumption) ?_ ?_); focus (first | omega | (simp; done) | (simp; omega)))))⟩
  · have h3 : r < 2 := by omega
    clear h1
    go_enter Tryz.func18, Tryz.ntmps18
    go_wp2_with (first | (go_at_call 42; (with_reducible refine (areParts_two s t _ _ (by go_simp) (by go_simp)).mono ?_); rintro e w1 ⟨rfl, rfl⟩) | ((with_reducible refine at_load 26 ?_); refine wpList_load_part rfl 26 _ rfl _ 3 12 rfl _ _ _ _ (by repeat (first | (with_reducible assumption) | ((with_reducible refine blk_new _ _ _ ?_); focus (simp; done)) | ((with_reducible refine blk_old _ _ _ ?_ ?_); focus (simp; done)) | ((with_reducible refine blk_old _ _ _ ?_ ?_); focus (simp; omega)) | ((with_reducible apply blk_set); focus (simp; done)) | ((with_reducible refine blk_off _ _ _ _ ?_ ?_); focus (simp; done)) | ((with_reducible refine blk_off _ _ _ _ ?_ ?_); focus (simp; omega)) | (with_reducible refine blk_drew _ _ ?_) | ((with_reducible refine blk_below (by assumption) ?_ ?_); focus (simp; done)) | ((with_reducible refine blk_below (by assumption) ?_ ?_); focus (simp; omega)))) Tryz.underlying26 rfl (by kernel_rfl) (by simp [row_size]) _ (row_tail [_, _, _] 12 _) ?_) | go_in)
    go_ret
    exact ⟨by simp [trainB, show ¬ (2 ≤ r) by omega], (by repeat (first | (with_reducible assumption) | (with_reducible exact Below.refl _ _) | ((with_reducible refine bel_alloc _ ?_ ?_); focus (first | omega | (simp; done) | (simp; omega))) | ((with_reducible refine bel_row _ ?_ ?_); focus (first | omega | (simp; done) | (simp; omega))) | ((with_reducible refine bel_cell _ ?_ ?_); focus (first | omega | (simp; done) | (simp; omega))) | (with_reducible refine Below.drew ?_) | (with_reducible refine below_wideW _ ?_) | ((with_reducible refine bel_next (by assumption) ?_ ?_); focus (first | omega | (simp; done) | (simp; omega)))))⟩
end Go.Proofs.YtkokekndiammpaaGreatDoor

/-! Contracts of the functions of trains that give numbers: SteadyFed, FilmsFall, ThickestRoller, InkOn; the reference's and the program's. -/
set_option linter.unusedVariables false
set_option linter.unusedSimpArgs false
namespace Go.Proofs.YtkokekndiammpaaGreatDoor
open Go.RowKit Ieee

theorem trainB_facts {r : Int} {s t : Nat} {F : Nat → Nat} (h : trainB r s t F = true) : 2 ≤ r ∧ r ≤ 12 ∧ partB s = true ∧ partB t = true ∧ (∀ i : Nat, i < 12 → (i : Int) < r → filmB (F i) = true) ∧ (∀ i : Nat, i < 12 → r ≤ (i : Int) → zeroB (F i) = true) := by
  unfold trainB at h
  simp only [Bool.and_eq_true, decide_eq_true_eq] at h
  obtain ⟨⟨⟨⟨h1, h2⟩, h3⟩, h4⟩, h5⟩ := h
  have h6 := cellsB_le h5
  refine ⟨h1, h2, h3, h4, fun i hi hr => ?_, fun i hi hr => ?_⟩
  · have := h6 i hi
    unfold cellB at this
    rwa [if_pos hr] at this
  · have := h6 i hi
    unfold cellB at this
    rwa [if_neg (by omega)] at this
end Go.Proofs.YtkokekndiammpaaGreatDoor

/-! Trains that are equal are found equal: eqFloat32A12, eqTrain. -/
set_option linter.unusedVariables false
set_option linter.unusedSimpArgs false
namespace Go.Proofs.YtkokekndiammpaaGreatDoor
open Go.RowKit Ieee

theorem quiet_same {P : Program} {f : FuncId} {args : Array Value} {w : World} {n : Nat} {v : Value}
    (h : Calls P f args (w.drewN n) fun e w' => e = .returned v ∧ w.drewN n = w') : Calls P f args (w.drewN n) fun e w'' => e = .returned v ∧ ∃ m, w'' = w.drewN m :=
  Calls.quiet_of_same (h.mono fun _ _ x => ⟨x.1, x.2.symm⟩)
theorem bel_drewN {B : Nat} {a w : World} (n : Nat) (h : Below B a w) : Below B a (w.drewN n) := ⟨h.os, h.tape, h.output, h.size, h.block⟩

end Go.Proofs.YtkokekndiammpaaGreatDoor

/-! How far a sum of narrow numbers is from the true one, and sums of many; the numbers are finite and bounded. -/
set_option linter.unusedVariables false
set_option linter.unusedSimpArgs false
namespace Go.Proofs.YtkokekndiammpaaGreatDoor
open Go.RowKit Ieee

theorem RZ_err {z : Int} {d t : Nat} (ht : t ≤ 240) (hz : z.natAbs < 2 ^ (d + 24 + t)) : 2 * (Flt.RZ single z d * 2 ^ d - z) ≤ 2 ^ (d + t) ∧ 2 * (z - Flt.RZ single z d * 2 ^ d) ≤ 2 ^ (d + t) := by
  have hex : Flt.ex single z.natAbs d ≤ t := Flt.ex_le single (by
    have : d + single.fractionBits + t + 1 = d + 24 + t := by show d + 23 + t + 1 = _; omega
    rw [this]; exact hz)
  obtain ⟨h1, h2⟩ := Flt.U_G0_err single z.natAbs d
  have hpow : (2 : Nat) ^ (d + Flt.ex single z.natAbs d) ≤ 2 ^ (d + t) := Nat.pow_le_pow_right (by omega) (by omega)
  -- nothing is cut off
  have hclip : Flt.G single z.natAbs d = Flt.G0 single z.natAbs d := by
    unfold Flt.G
    apply Nat.min_eq_left
    apply Flt.U_mono single
    rw [Flt.single_inf]
    have hd : 0 < 2 ^ d := Nat.two_pow_pos d
    have h3 : Flt.U single (Flt.G0 single z.natAbs d) * 2 ^ d ≤ 2 ^ Flt.eS * 2 ^ d := by
      have h4 : 2 ^ (d + 24 + t) ≤ 2 ^ Flt.eS * 2 ^ d / 4 := by
        have e : 2 ^ Flt.eS * 2 ^ d = 4 * 2 ^ (275 + d) := by
          rw [← Nat.pow_add, show Flt.eS + d = 2 + (275 + d) from by have := Flt.eS_eq; omega, Nat.pow_add]
        rw [e, Nat.mul_div_cancel_left _ (by omega)]
        exact Nat.pow_le_pow_right (by omega) (by omega)
      have h5 : 2 ^ (d + t) ≤ 2 ^ (d + 24 + t) := Nat.pow_le_pow_right (by omega) (by omega)
      omega
    exact Nat.le_of_mul_le_mul_right h3 hd
  unfold Flt.RZ
  rw [hclip]
  generalize Flt.U single (Flt.G0 single z.natAbs d) = u at *
  have c1 : 2 * ((u : Int) * 2 ^ d) ≤ 2 * z.natAbs + 2 ^ (d + t) := by
    have : 2 * (u * 2 ^ d) ≤ 2 * z.natAbs + 2 ^ (d + t) := by omega
    exact_mod_cast this
  have c2 : 2 * (z.natAbs : Int) ≤ 2 * ((u : Int) * 2 ^ d) + 2 ^ (d + t) := by
    have : 2 * z.natAbs ≤ 2 * (u * 2 ^ d) + 2 ^ (d + t) := by omega
    exact_mod_cast this
  unfold Flt.sg
  by_cases hn : z < 0
  · simp only [hn, decide_true, if_true]
    rw [Int.neg_mul]
    generalize (u : Int) * 2 ^ d = v at *
    generalize (2 : Int) ^ (d + t) = q at *
    omega
  · simp only [hn, decide_false, Bool.false_eq_true, if_false]
    generalize (u : Int) * 2 ^ d = v at *
    generalize (2 : Int) ^ (d + t) = q at *
    omega

theorem fadd_err {x y : Nat} {t : Nat} (ht : t ≤ 240) (hx : Fin32 x) (hy : Fin32 y) (hz : (Z32 x + Z32 y).natAbs < 2 ^ (24 + t)) :
    2 * (Z32 (fadd x y) - (Z32 x + Z32 y)) ≤ 2 ^ t ∧ 2 * ((Z32 x + Z32 y) - Z32 (fadd x y)) ≤ 2 ^ t := by
  rw [Z_fadd hx hy]
  have := RZ_err (z := Z32 x + Z32 y) (d := 0) (t := t) ht (by simpa using hz)
  simpa using this
theorem fsub_err {x y : Nat} {t : Nat} (ht : t ≤ 240) (hx : Fin32 x) (hy : Fin32 y) (hz : (Z32 x - Z32 y).natAbs < 2 ^ (24 + t)) :
    2 * (Z32 (fsub x y) - (Z32 x - Z32 y)) ≤ 2 ^ t ∧ 2 * ((Z32 x - Z32 y) - Z32 (fsub x y)) ≤ 2 ^ t := by
  rw [Z_fsub hx hy]
  have := RZ_err (z := Z32 x - Z32 y) (d := 0) (t := t) ht (by simpa using hz)
  simpa using this

/-- The sum of n numbers, from the first one on. -/
def sumTo (G : Nat → Nat) : Nat → Nat
  | 0 => 0
  | 1 => G 0
  | k + 2 => fadd (sumTo G (k + 1)) (G (k + 1))
theorem sumTo_step (G : Nat → Nat) {k : Nat} (h : 1 ≤ k) : sumTo G (k + 1) = fadd (sumTo G k) (G k) := by
  obtain ⟨j, rfl⟩ : ∃ j, k = j + 1 := ⟨k - 1, by omega⟩
  rfl
theorem sumTo_facts {G : Nat → Nat} {n : Nat} (hn : n ≤ 4000) (hG : ∀ i, i < n → filmB (G i) = true) : ∀ k, k ≤ n → Fin32 (sumTo G k) ∧ 0 ≤ Z32 (sumTo G k) ∧ Z32 (sumTo G k) ≤ k * 2 ^ 170
  | 0, _ => ⟨(by decide : Fin32 0), Int.le_of_eq Z_zero.symm, by rw [show Z32 (sumTo G 0) = 0 from Z_zero]; omega⟩
  | 1, h => by
    have hg := hG 0 (by omega)
    obtain ⟨_, a, b⟩ := (film_iff _).1 hg
    refine ⟨film_fin hg, a, ?_⟩
    show Z32 (G 0) ≤ _
    have : (2 : Int) ^ 169 ≤ 2 ^ 170 := by decide
    omega
  | k + 2, h => by
    obtain ⟨f, a, b⟩ := sumTo_facts hn hG (k + 1) (by omega)
    have hg := hG (k + 1) (by omega)
    obtain ⟨_, c, d⟩ := (film_iff _).1 hg
    have fg := film_fin hg
    have e : sumTo G (k + 2) = fadd (sumTo G (k + 1)) (G (k + 1)) := rfl
    rw [e]
    have hk : ((k + 1 : Nat) : Int) ≤ 4000 := by omega
    have hb : Z32 (sumTo G (k + 1)) ≤ 4000 * 2 ^ 170 := Int.le_trans b (Int.mul_le_mul_of_nonneg_right hk (by decide))
    have herr := fadd_err (t := 160) (by omega) f fg (by
      have : Z32 (sumTo G (k + 1)) + Z32 (G (k + 1)) < 2 ^ 184 := by
        have : (4000 : Int) * 2 ^ 170 + 2 ^ 169 < 2 ^ 184 := by decide
        omega
      omega)
    have h0 := fadd_ge f fg (c := 0) (by decide) (by rw [Z_zero]; omega)
    rw [Z_zero] at h0
    have hup : Z32 (fadd (sumTo G (k + 1)) (G (k + 1))) ≤ ((k + 2 : Nat) : Int) * 2 ^ 170 := by
      have e2 : ((k + 2 : Nat) : Int) * 2 ^ 170 = ((k + 1 : Nat) : Int) * 2 ^ 170 + 2 ^ 170 := by
        rw [show ((k + 2 : Nat) : Int) = ((k + 1 : Nat) : Int) + 1 from by omega, Int.add_mul, Int.one_mul]
      have : (2 : Int) ^ 169 + 2 ^ 160 ≤ 2 ^ 170 := by decide
      omega
    refine ⟨fin_of (num_fadd f fg) (by omega) ?_, h0, hup⟩
    have : ((k + 2 : Nat) : Int) * 2 ^ 170 ≤ 4001 * 2 ^ 170 := Int.mul_le_mul_of_nonneg_right (by omega) (by decide)
    have : (4001 : Int) * 2 ^ 170 ≤ 2 ^ 250 := by decide
    omega
end Go.Proofs.YtkokekndiammpaaGreatDoor

/-! Contracts of the functions that walk over a train's rollers: FilmsFall, ThickestRoller, InkOn; the reference's and the program's. -/
set_option linter.unusedVariables false
set_option linter.unusedSimpArgs false
namespace Go.Proofs.YtkokekndiammpaaGreatDoor
open Go.RowKit Ieee

def codeV (ok : Bool) : Int := if ok then 0 else 1
end Go.Proofs.YtkokekndiammpaaGreatDoor

/-! Sums of films: sum, InkOn; the reference's and the program's. -/
set_option linter.unusedVariables false
set_option linter.unusedSimpArgs false
namespace Go.Proofs.YtkokekndiammpaaGreatDoor
open Go.RowKit Ieee

theorem sum_any (G : Nat → Nat) (n b o c : Nat) (w : World) (hn : n ≤ 4000) (hG : ∀ i, i < n → filmB (G i) = true) (hc : ∀ i, i < n → w.cell? ⟨b, o + i, none⟩ = some (.float .f32 (G i))) :
    Calls Tryz.prog 36 #[.slice (some ⟨b, o, none⟩) n c] w fun e w' => e = .returned (.float .f32 (sumTo G n)) ∧ w = w' := by
  have HC := Lib.hid hc
  have HG := Lib.hid hG
  have hcs := fun b w => run_conv_same (P := Tryz.prog) 25 25 .f32 b w (by kernel_rfl) (by kernel_rfl)
  clear hc hG
  go_enter Tryz.func36, Tryz.ntmps36
  go_wp2
  go_loop [3, 8] (fun v i => ∃ k : Nat, k ≤ n ∧ i = .int .i64 k ∧ v = .float .f32 (sumTo G k)) (fun _ i => n - (intOf i).toNat)
  case atStart => exact ⟨0, by omega, rfl, rfl⟩
  case round =>
    obtain ⟨k, hk, rfl, rfl⟩ := hrel
    by_cases hlt : k < n
    · have ck := HC.out k hlt
      by_cases h0 : k = 0
      · subst h0
        have ck0 : w.cell? ⟨b, o, none⟩ = some (.float .f32 (G 0)) := by simpa using ck
        go_wp2
        go_round
        case rel => exact ⟨1, by omega, rfl, rfl⟩
        case measure => simp [intOf]; omega
      · have h1 : 1 ≤ k := by omega
        have e1 := fun w => run_fadd (P := Tryz.prog) w 25 (sumTo_facts hn HG.out k hk).1 (film_fin (HG.out k hlt))
        clear h0
        go_wp2
        go_round
        case rel => exact ⟨k + 1, by omega, by go_num, by rw [sumTo_step G h1]⟩
        case measure => simp [intOf]; omega
    · obtain rfl : k = n := by omega
      go_wp2
      go_ret
      exact ⟨rfl, rfl⟩

theorem film_upto {r : Int} {F : Nat → Nat} (hfl : ∀ i : Nat, i < 12 → (i : Int) < r → filmB (F i) = true) (h12 : r ≤ 12) : ∀ i, i < r.toNat → filmB (F i) = true :=
  fun i hi => hfl i (by omega) (by omega)
theorem specInk_any (r : Int) (s t : Nat) (F : Nat → Nat) (w : World) (lr : -128 ≤ r) (ur : r ≤ 127) (ho : trainB r s t F = true) (B : Nat) (hB : w.heap[B]? = some (.cells (train r s t F) 28 (0, 0))) : Calls Tryz.prog 38 #[.pointer (some ⟨B, 0, none⟩)] w fun e w' => e = .returned (.float .f32 (sumTo F r.toNat)) ∧ w = w' := by
  obtain ⟨h2, h12, _, _, hfl, _⟩ := trainB_facts ho
  have HG := Lib.hid (film_upto hfl h12)
  have c0 : w.cell? ⟨B, 0, none⟩ = some (.int .i8 r) := (cell_of_row w _ 0 _ _ _ hB).trans (row_g0 _ _ _ _)
  have cf : w.cell? ⟨B, 3 + 0, none⟩ = some (.float .f32 (F 0)) := (cell_of_row w B (3 + 0) _ _ _ hB).trans (row_k3 _ _ _ _ _ (by omega))
  have HB := Lib.hid hB
  clear hB hfl
  go_enter Tryz.func38, Tryz.ntmps38
  go_wp2
  go_loop [3, 4] (fun v i => ∃ k : Nat, 1 ≤ k ∧ (k : Int) ≤ r ∧ i = .int .i64 k ∧ v = .float .f32 (sumTo F k)) (fun _ i => 12 - (intOf i).toNat)
  case atStart => exact ⟨1, by omega, by omega, rfl, rfl⟩
  case round =>
    obtain ⟨k, hk1, hk, rfl, rfl⟩ := hrel
    by_cases hlt : (k : Int) < r
    · have ck : w.cell? ⟨B, 3 + k, none⟩ = some (.float .f32 (F k)) := (cell_of_row w B (3 + k) _ _ _ HB.out).trans (row_k3 _ _ _ _ _ (by omega))
      have e1 := fun w => run_fadd (P := Tryz.prog) w 25 (sumTo_facts (by omega) HG.out k (by omega)).1 (film_fin (HG.out k (by omega)))
      have k12 : k < 12 := by omega
      go_wp2
      go_round
      case rel => exact ⟨k + 1, by omega, by omega, by go_num, by rw [sumTo_step F hk1]⟩
      case measure => simp [intOf]; omega
    · have hkr : r.toNat = k := by omega
      have HK := Lib.hid hkr
      clear hkr
      go_wp2
      go_ret
      exact ⟨by rw [HK.out]; rfl, rfl⟩
def inkR (r : Int) (s t : Nat) (F : Nat → Nat) : Nat := if trainB r s t F then sumTo F r.toNat else 0
theorem implInkOn_any (r : Int) (s t : Nat) (F : Nat → Nat) (w : World) (lr : -128 ≤ r) (ur : r ≤ 127) : Calls Tryz.prog 15 #[.agg (train r s t F)] w fun e w' => e = .returned (.tuple #[.float .f32 (inkR r s t F), .int .i64 (codeV (trainB r s t F))]) ∧ Below w.heap.size w w' := by
  unfold inkR
  cases ho : trainB r s t F
  · go_enter Tryz.func15, Tryz.ntmps15
    go_wp2_with (first | (go_at_call 18; (with_reducible refine (implOk_any r s t F _ lr ur).mono ?_); rintro e w1 ⟨rfl, hb1⟩; have hz1 := hb1.size; simp at hz1; obtain ⟨hc1, hf1⟩ := bcell hb1) | ((with_reducible refine at_load 28 ?_); refine wpList_load_part rfl 28 _ rfl _ 0 15 rfl _ _ _ _ (by repeat (first | (with_reducible assumption) | ((with_reducible refine blk_new _ _ _ ?_); focus (simp; done)) | ((with_reducible refine blk_old _ _ _ ?_ ?_); focus (simp; done)) | ((with_reducible refine blk_old _ _ _ ?_ ?_); focus (simp; omega)) | ((with_reducible apply blk_set); focus (simp; done)) | ((with_reducible refine blk_off _ _ _ _ ?_ ?_); focus (simp; done)) | ((with_reducible refine blk_off _ _ _ _ ?_ ?_); focus (simp; omega)) | (with_reducible refine blk_drew _ _ ?_) | ((with_reducible refine blk_below (by assumption) ?_ ?_); focus (simp; done)) | ((with_reducible refine blk_below (by assumption) ?_ ?_); focus (simp; omega)))) Tryz.underlying28 rfl (by kernel_rfl) (by simp [row_size]) _ (row_all [_, _, _] 12 _) ?_) | go_in)
    go_ret2
    exact ⟨rfl, (by repeat (first | (with_reducible assumption) | (with_reducible exact Below.refl _ _) | ((with_reducible refine bel_alloc _ ?_ ?_); focus (first | omega | (simp; done) | (simp; omega))) | ((with_reducible refine bel_row _ ?_ ?_); focus (first | omega | (simp; done) | (simp; omega))) | ((with_reducible refine bel_cell _ ?_ ?_); focus (first | omega | (simp; done) | (simp; omega))) | (with_reducible refine Below.drew ?_) | (with_reducible refine below_wideW _ ?_) | ((with_reducible refine bel_next (by assumption) ?_ ?_); focus (first | omega | (simp; done) | (simp; omega)))))⟩
  · obtain ⟨h2, h12, _, _, hfl, _⟩ := trainB_facts ho
    have HG := Lib.hid (film_upto hfl h12)
    clear hfl
    have hsl : ∀ b w, (Instr.sliceAt 26 (.pointer (some ⟨b, 3, none⟩)) none (some (.int .i8 r)) none).run Tryz.prog w = .ok (.slice (some ⟨b, 3, none⟩) r.toNat 12) w := by
      intro b w
      have := run_sliceAt_h (P := Tryz.prog) w 26 25 12 b 3 Tryz.underlying26 (by kernel_rfl) .i8 r.toNat (by omega)
      rwa [show ((r.toNat : Nat) : Int) = r by omega] at this
    go_enter Tryz.func15, Tryz.ntmps15
    go_wp2_with (first | (go_at_call 18; (with_reducible refine (implOk_any r s t F _ lr ur).mono ?_); rintro e w1 ⟨rfl, hb1⟩; have hz1 := hb1.size; simp at hz1; obtain ⟨hc1, hf1⟩ := bcell hb1) | ((with_reducible refine at_load 28 ?_); refine wpList_load_part rfl 28 _ rfl _ 0 15 rfl _ _ _ _ (by repeat (first | (with_reducible assumption) | ((with_reducible refine blk_new _ _ _ ?_); focus (simp; done)) | ((with_reducible refine blk_old _ _ _ ?_ ?_); focus (simp; done)) | ((with_reducible refine blk_old _ _ _ ?_ ?_); focus (simp; omega)) | ((with_reducible apply blk_set); focus (simp; done)) | ((with_reducible refine blk_off _ _ _ _ ?_ ?_); focus (simp; done)) | ((with_reducible refine blk_off _ _ _ _ ?_ ?_); focus (simp; omega)) | (with_reducible refine blk_drew _ _ ?_) | ((with_reducible refine blk_below (by assumption) ?_ ?_); focus (simp; done)) | ((with_reducible refine blk_below (by assumption) ?_ ?_); focus (simp; omega)))) Tryz.underlying28 rfl (by kernel_rfl) (by simp [row_size]) _ (row_all [_, _, _] 12 _) ?_) | (go_at_call 36; (with_reducible refine (sum_any F r.toNat _ 3 12 _ (by omega) HG.out ?_).mono ?_); (focus (intro i hi; refine (cell_of_row _ _ (3 + i) (train r s t F) 28 (0, 0) ?_).trans (row_k3 _ _ _ _ _ (by omega)); (repeat (first | (with_reducible assumption) | ((with_reducible refine blk_new _ _ _ ?_); focus (simp; done)) | ((with_reducible refine blk_old _ _ _ ?_ ?_); focus (simp; done)) | ((with_reducible refine blk_old _ _ _ ?_ ?_); focus (simp; omega)) | ((with_reducible apply blk_set); focus (simp; done)) | ((with_reducible refine blk_off _ _ _ _ ?_ ?_); focus (simp; done)) | ((with_reducible refine blk_off _ _ _ _ ?_ ?_); focus (simp; omega)) | (with_reducible refine blk_drew _ _ ?_) | ((with_reducible refine blk_below (by assumption) ?_ ?_); focus (simp; done)) | ((with_reducible refine blk_below (by assumption) ?_ ?_); focus (simp; omega)))))); rintro e w' ⟨rfl, rfl⟩) | go_in)
    go_ret2
    exact ⟨rfl, (by repeat (first | (with_reducible assumption) | (with_reducible exact Below.refl _ _) | ((with_reducible refine bel_alloc _ ?_ ?_); focus (first | omega | (simp; done) | (simp; omega))) | ((with_reducible refine bel_row _ ?_ ?_); focus (first | omega | (simp; done) | (simp; omega))) | ((with_reducible refine bel_cell _ ?_ ?_); focus (first | omega | (simp; done) | (simp; omega))) | (with_reducible refine Below.drew ?_) | (with_reducible refine below_wideW _ ?_) | ((with_reducible refine bel_next (by assumption) ?_ ?_); focus (first | omega | (simp; done) | (simp; omega)))))⟩
end Go.Proofs.YtkokekndiammpaaGreatDoor

/-! Contracts of EmptyTrain and WashTrain, the reference's and the program's, and the laws on them. -/
set_option linter.unusedVariables false
set_option linter.unusedSimpArgs false
namespace Go.Proofs.YtkokekndiammpaaGreatDoor
open Go.RowKit Ieee

/-- A cell of a block is written. -/
theorem put_row {w : World} {g : Nat} {pre : List Value} {n : Nat} {G : Nat → Nat} {t : TypeId} {k v : Nat} (hk : k < n) (h : w.heap[g]? = some (.cells (row pre n G) t (0, 0))) :
    (w.setCell ⟨g, pre.length + k, none⟩ (.float .f32 v)).heap[g]? = some (.cells (row pre n (upd G k v)) t (0, 0)) := by
  rw [heap_setCell_same w g _ _ t _ h, row_set pre n G hk]
theorem put_off {w : World} {g i o : Nat} {v : Value} {r : Option Obj} (h : i ≠ g) (hr : w.heap[i]? = r) : (w.setCell ⟨g, o, none⟩ v).heap[i]? = r := (heap_setCell_other w _ i v h).trans hr
end Go.Proofs.YtkokekndiammpaaGreatDoor

/-! The contracts of the functions that take numbers alone: dots for light, gain, and what has gained taken back. -/
set_option linter.unusedVariables false
set_option linter.unusedSimpArgs false
namespace Go.Proofs.YtkokekndiammpaaGreatDoor
open Go.RowKit Ieee

/-! ### quotients of numbers that are not negative -/
theorem Z_fdiv_pos {x y : Nat} (hx : Fin32 x) (hy : Fin32 y) (h0 : 0 ≤ Z32 x) (h1 : 0 < Z32 y) :
    ∃ g, Z32 (fdiv x y) = (Flt.U single g : Nat) ∧ g ≤ single.infRung ∧ ∀ r, r ≤ single.infRung → (Z32 x * 2 ^ 149 ≤ (Flt.U single r : Nat) * Z32 y → g ≤ r) ∧ ((Flt.U single r : Nat) * Z32 y ≤ Z32 x * 2 ^ 149 → r ≤ g) := by
  obtain ⟨g, e, hg, hr⟩ := Flt.div_fin single (D := 149) (by decide) hx hy (by unfold Z32 at h1; omega)
  have hxa : ((Flt.Z single x).natAbs : Int) = Z32 x := by unfold Z32 at *; omega
  have hya : ((Flt.Z single y).natAbs : Int) = Z32 y := by unfold Z32 at *; omega
  have hp : ((2 ^ 149 : Nat) : Int) = 2 ^ 149 := by simp
  have conv : ∀ r, r ≤ single.infRung → (Z32 x * 2 ^ 149 ≤ (Flt.U single r : Nat) * Z32 y → g ≤ r) ∧ ((Flt.U single r : Nat) * Z32 y ≤ Z32 x * 2 ^ 149 → r ≤ g) := by
    intro r hrr
    obtain ⟨c1, c2⟩ := hr r hrr
    rw [← hxa, ← hya, ← hp, ← Int.natCast_mul, ← Int.natCast_mul]
    exact ⟨fun h => c1 (by exact_mod_cast h), fun h => c2 (by exact_mod_cast h)⟩
  refine ⟨g, ?_, hg, conv⟩
  have hny : Flt.neg single y = false := by
    unfold Z32 Flt.Z Flt.sg at h1
    cases hn : Flt.neg single y
    · rfl
    · rw [hn] at h1; simp at h1; omega
  unfold fdiv Z32
  rw [e]
  simp only [Option.getD_some]
  rw [Flt.Z_word single _ (by have := Flt.infRung_lt' single; omega), hny]
  by_cases hz : Z32 x = 0
  · have : g ≤ 0 := (conv 0 (by omega)).1 (by rw [hz]; simp [Flt.U_zero])
    have : g = 0 := by omega
    subst this
    rw [Flt.U_zero]
    unfold Flt.sg; split <;> simp
  · have hnx : Flt.neg single x = false := by
      unfold Z32 Flt.Z Flt.sg at h0 hz
      cases hn : Flt.neg single x
      · rfl
      · rw [hn] at h0 hz; simp at h0 hz; omega
    rw [hnx]; rfl
theorem U_of_pos {c : Nat} (h : 0 ≤ Z32 c) : ((Flt.U single (Flt.rung single c) : Nat) : Int) = Z32 c := by
  unfold Z32 Flt.Z Flt.sg at *
  split at h
  · rename_i hn; rw [if_pos hn]; omega
  · rename_i hn; rw [if_neg hn]
theorem fdiv_le {x y c : Nat} (hx : Fin32 x) (hy : Fin32 y) (h0 : 0 ≤ Z32 x) (h1 : 0 < Z32 y) (hc : Fin32 c) (hc0 : 0 ≤ Z32 c) (h : Z32 x * 2 ^ 149 ≤ Z32 c * Z32 y) : Z32 (fdiv x y) ≤ Z32 c := by
  obtain ⟨g, e, hg, hr⟩ := Z_fdiv_pos hx hy h0 h1
  have hrc : Flt.rung single c ≤ single.infRung := Nat.le_of_lt hc
  have := (hr _ hrc).1 (by rw [U_of_pos hc0]; exact h)
  rw [e, ← U_of_pos hc0]
  exact_mod_cast Flt.U_le single this
theorem fdiv_ge {x y c : Nat} (hx : Fin32 x) (hy : Fin32 y) (h0 : 0 ≤ Z32 x) (h1 : 0 < Z32 y) (hc : Fin32 c) (hc0 : 0 ≤ Z32 c) (h : Z32 c * Z32 y ≤ Z32 x * 2 ^ 149) : Z32 c ≤ Z32 (fdiv x y) := by
  obtain ⟨g, e, hg, hr⟩ := Z_fdiv_pos hx hy h0 h1
  have hrc : Flt.rung single c ≤ single.infRung := Nat.le_of_lt hc
  have := (hr _ hrc).2 (by rw [U_of_pos hc0]; exact h)
  rw [e, ← U_of_pos hc0]
  exact_mod_cast Flt.U_le single this

/-! ### dots for light -/
def clipR (x : Nat) : Nat := if FloatKind.f32.format.order x 1065353216 == some .gt then 1065353216 else if FloatKind.f32.format.order x 0 == some .lt then 0 else x
def gained (d g : Nat) : Nat := clipR (fadd d (fmul g (fmul (fmul 1082130432 d) (fsub 1065353216 d))))
end Go.Proofs.YtkokekndiammpaaGreatDoor

/-! Contracts of MixTrains and AddRoller, the reference's and the program's. -/
set_option linter.unusedVariables false
set_option linter.unusedSimpArgs false
namespace Go.Proofs.YtkokekndiammpaaGreatDoor
open Go.RowKit Ieee

/-- A number of no sign that is at most c. -/
def Up (c a : Nat) : Prop := Fin32 a ∧ 0 ≤ Z32 a ∧ Z32 a ≤ Z32 c
def halfF (a b : Nat) : Nat := fdiv (fadd a b) 1073741824
theorem two_ne : Z32 1073741824 ≠ 0 := by rw [Z_two]; decide
theorem two_fin : Fin32 1073741824 := by decide
theorem half_up {c c2 a b : Nat} (hc : Fin32 c) (hc2 : Fin32 c2) (h2 : Z32 c2 = 2 * Z32 c) (hm : Z32 c2 ≤ 2 ^ 200) (ha : Up c a) (hb : Up c b) : Fin32 (fadd a b) ∧ Up c (halfF a b) := by
  obtain ⟨a1, a2, a3⟩ := ha
  obtain ⟨b1, b2, b3⟩ := hb
  have s1 : Z32 (fadd a b) ≤ Z32 c2 := fadd_le a1 b1 hc2 (by rw [h2]; omega)
  have s0 : 0 ≤ Z32 (fadd a b) := by
    have := fadd_ge a1 b1 (c := 0) (by decide) (by rw [Z_zero]; omega)
    rwa [Z_zero] at this
  have sf : Fin32 (fadd a b) := fin_of (num_fadd a1 b1) (by omega) (by omega)
  refine ⟨sf, ?_⟩
  have hp : 0 < Z32 1073741824 := by rw [Z_two]; decide
  have q1 : Z32 (halfF a b) ≤ Z32 c := fdiv_le sf two_fin s0 hp hc (by omega) (by rw [Z_two]; omega)
  have q0 : 0 ≤ Z32 (halfF a b) := by
    have := fdiv_ge sf two_fin s0 hp (c := 0) (by decide) (by rw [Z_zero]; omega) (by rw [Z_zero]; omega)
    rwa [Z_zero] at this
  exact ⟨fin_of (num_fdiv sf two_fin two_ne) (by omega) (by omega), q0, q1⟩
theorem film_up {a : Nat} (h : filmB a = true) : Up 1233125376 a := ⟨film_fin h, ((film_iff a).1 h).2.1, by rw [Z_film]; exact ((film_iff a).1 h).2.2⟩
theorem up_film {a : Nat} (h : Up 1233125376 a) : filmB a = true := (film_iff a).2 ⟨fin_nan h.1, h.2.1, by rw [← Z_film]; exact h.2.2⟩
theorem specSplit_fin {a b : Nat} (h1 : Fin32 a) (h2 : Fin32 b) (h3 : Fin32 (fadd a b)) (w : World) : Calls Tryz.prog 70 #[.float .f32 a, .float .f32 b] w fun e w' => e = .returned (.float .f32 (halfF a b)) ∧ w' = w := by
  have e1 := fun w => run_fadd (P := Tryz.prog) w 25 h1 h2
  have e2 := fun w => run_fdiv (P := Tryz.prog) w 25 h3 two_fin two_ne
  go_enter Tryz.func70, Tryz.ntmps70
  go_wp2
  go_ret
  exact ⟨rfl, rfl⟩
theorem implSplit_fin {a b : Nat} (h1 : Fin32 a) (h2 : Fin32 b) (h3 : Fin32 (fadd a b)) (w : World) : Calls Tryz.prog 66 #[.float .f32 a, .float .f32 b] w fun e w' => e = .returned (.float .f32 (halfF a b)) ∧ w' = w := by
  have e1 := fun w => run_fadd (P := Tryz.prog) w 25 h1 h2
  have hcs := fun b w => run_conv_same (P := Tryz.prog) 25 25 .f32 b w (by kernel_rfl) (by kernel_rfl)
  have e2 := fun w => run_fdiv (P := Tryz.prog) w 25 h3 two_fin two_ne
  go_enter Tryz.func66, Tryz.ntmps66
  go_wp2
  go_ret
  exact ⟨rfl, rfl⟩
theorem put_pre {w : World} {g : Nat} {pre : List Value} {n : Nat} {G : Nat → Nat} {t : TypeId} {i : Nat} {v : Value} (hi : i < pre.length) (h : w.heap[g]? = some (.cells (row pre n G) t (0, 0))) :
    (w.setCell ⟨g, i, none⟩ v).heap[g]? = some (.cells (row (pre.set i v) n G) t (0, 0)) := by
  rw [heap_setCell_same w g _ _ t _ h, row_setpre pre n G v hi]
theorem i8_small {n : Int} (h1 : -128 ≤ n) (h2 : n ≤ 127) : IntKind.i8.wrap n = n := IntWalk.i8_in n ⟨h1, h2⟩
end Go.Proofs.YtkokekndiammpaaGreatDoor

/-! What a turn of a train reckons, and its bounds: plain arithmetic, no program in sight. -/
set_option linter.unusedVariables false
set_option linter.unusedSimpArgs false
namespace Go.Proofs.YtkokekndiammpaaGreatDoor
open Go.RowKit Ieee

theorem Z_c2 : Z32 1241513984 = 2 ^ 170 := by decide +kernel
theorem Z_c3 : Z32 1245708288 = 3 * 2 ^ 169 := by decide +kernel
abbrev Up3 (a : Nat) : Prop := Up 1245708288 a
theorem up_le {c d a : Nat} (h : Z32 c ≤ Z32 d) (ha : Up c a) : Up d a := ⟨ha.1, ha.2.1, by have := ha.2.2; omega⟩
theorem up3_film {a : Nat} (h : filmB a = true) : Up3 a := up_le (by decide +kernel) (film_up h)
/-- A sum of two numbers without a sign. -/
theorem add_up {c d e a b : Nat} (he : Fin32 e) (hm : Z32 e ≤ 2 ^ 200) (h : Z32 c + Z32 d ≤ Z32 e) (ha : Up c a) (hb : Up d b) : Up e (fadd a b) := by
  obtain ⟨a1, a2, a3⟩ := ha
  obtain ⟨b1, b2, b3⟩ := hb
  have s1 : Z32 (fadd a b) ≤ Z32 e := fadd_le a1 b1 he (by omega)
  have s0 : 0 ≤ Z32 (fadd a b) := by
    have := fadd_ge a1 b1 (c := 0) (by decide) (by rw [Z_zero]; omega)
    rwa [Z_zero] at this
  exact ⟨fin_of (num_fadd a1 b1) (by omega) (by omega), s0, s1⟩
/-- A part of a number: at most the number. -/
theorem part_up {a p : Nat} (hp : partB p = true) (ha : Fin32 a) (h0 : 0 ≤ Z32 a) (hm : Z32 a ≤ 2 ^ 200) : Up a (fmul p a) ∧ Up a (fmul a p) := by
  obtain ⟨_, p2, p3⟩ := (part_iff p).1 hp
  have fp := part_fin hp
  have h1 := Int.mul_nonneg p2 h0
  have h2 : Z32 p * Z32 a ≤ Z32 a * 2 ^ 149 := by
    have := Int.mul_le_mul_of_nonneg_right p3 h0
    rw [Int.mul_comm (Z32 a)]; exact this
  refine ⟨?_, ?_⟩
  · have s1 := fmul_le fp ha (c := a) ha h2
    have s0 := fmul_ge fp ha (c := 0) (by decide) (by rw [Z_zero, Int.zero_mul]; exact h1)
    rw [Z_zero] at s0
    exact ⟨fin_of (num_fmul fp ha) (by omega) (by omega), s0, s1⟩
  · have s1 := fmul_le ha fp (c := a) ha (by rw [Int.mul_comm (Z32 a) (Z32 p)]; exact h2)
    have s0 := fmul_ge ha fp (c := 0) (by decide) (by rw [Z_zero, Int.zero_mul, Int.mul_comm]; exact h1)
    rw [Z_zero] at s0
    exact ⟨fin_of (num_fmul ha fp) (by omega) (by omega), s0, s1⟩
/-- What is left when at most all is taken. -/
theorem sub_up {a b : Nat} (ha : Fin32 a) (hm : Z32 a ≤ 2 ^ 200) (hb : Up a b) : Up a (fsub a b) := by
  obtain ⟨b1, b2, b3⟩ := hb
  have s1 := fsub_le ha b1 (c := a) ha (by omega)
  have s0 := fsub_ge ha b1 (c := 0) (by decide) (by rw [Z_zero]; omega)
  rw [Z_zero] at s0
  exact ⟨fin_of (num_fsub ha b1) (by omega) (by omega), s0, s1⟩

/-! ### A turn -/
def turnA (F : Nat → Nat) (fed : Nat) : Nat := fadd (F 0) fed
def turnO (s : Nat) (F : Nat → Nat) (fed : Nat) : Nat := fmul s (turnA F fed)
def turn0 (s : Nat) (F : Nat → Nat) (fed : Nat) : Nat → Nat := upd (upd F 0 (fsub (turnA F fed) (turnO s F fed))) 1 (fadd (F 1) (turnO s F fed))
def turnS (G : Nat → Nat) (k : Nat) : Nat → Nat := upd (upd G k (halfF (G k) (G (k + 1)))) (k + 1) (halfF (G k) (G (k + 1)))
/-- The films when the counter stands at k + 1. -/
def turnK (s : Nat) (F : Nat → Nat) (fed : Nat) : Nat → Nat → Nat
  | 0 => turn0 s F fed
  | k + 1 => turnS (turnK s F fed k) (k + 1)
structure TurnStart (s : Nat) (F : Nat → Nat) (fed : Nat) : Prop where
  fa : Fin32 (F 0)
  ff : Fin32 fed
  f1 : Fin32 (F 1)
  ha : Up 1241513984 (turnA F fed)
  ho : Up (turnA F fed) (turnO s F fed)
  hs : Fin32 s
  h0 : Up (turnA F fed) (fsub (turnA F fed) (turnO s F fed))
  h1 : Up3 (fadd (F 1) (turnO s F fed))
theorem turn_start {r : Int} {s t : Nat} {F : Nat → Nat} {fed : Nat} (ho : trainB r s t F = true) (hf : filmB fed = true) : TurnStart s F fed := by
  obtain ⟨h2, h12, hs, ht, hfl, hz⟩ := trainB_facts ho
  have u0 := film_up (hfl 0 (by omega) (by omega))
  have u1 := film_up (hfl 1 (by omega) (by omega))
  have ua : Up 1241513984 (turnA F fed) := add_up (by decide) (by decide +kernel) (by decide +kernel) u0 (film_up hf)
  have zc := Z_c2
  have uz : Z32 (turnA F fed) ≤ 2 ^ 200 := by have := ua.2.2; rw [zc] at this; omega
  have uo : Up (turnA F fed) (turnO s F fed) := (part_up hs ua.1 ua.2.1 uz).1
  have uo2 : Up 1241513984 (turnO s F fed) := up_le ua.2.2 uo
  exact ⟨u0.1, film_fin hf, u1.1, ua, uo, part_fin hs, sub_up ua.1 uz uo, add_up (by decide) (by decide +kernel) (by decide +kernel) u1 uo2⟩
theorem turnK_up {r : Int} {s t : Nat} {F : Nat → Nat} {fed : Nat} (ho : trainB r s t F = true) (hf : filmB fed = true) : ∀ k : Nat, (k : Int) + 2 ≤ r → ∀ i : Nat, i < 12 → (i : Int) < r → Up3 (turnK s F fed k i) := by
  obtain ⟨h2, h12, hs, ht, hfl, hz⟩ := trainB_facts ho
  have st := turn_start ho hf
  intro k
  induction k with
  | zero =>
    intro _ i hi hr
    unfold turnK turn0 upd
    by_cases h1 : i = 1
    · rw [if_pos h1]; exact st.h1
    · rw [if_neg h1]
      by_cases h0 : i = 0
      · rw [if_pos h0]
        exact up_le (by decide +kernel) (up_le st.ha.2.2 st.h0)
      · rw [if_neg h0]; exact up3_film (hfl i hi hr)
  | succ k ih =>
    intro hk i hi hr
    have ih := ih (by omega)
    unfold turnK turnS
    by_cases h1 : i = k + 1 + 1
    · subst h1
      rw [show upd (upd (turnK s F fed k) (k + 1) (halfF (turnK s F fed k (k + 1)) (turnK s F fed k (k + 1 + 1)))) (k + 1 + 1) (halfF (turnK s F fed k (k + 1)) (turnK s F fed k (k + 1 + 1))) (k + 1 + 1) = halfF (turnK s F fed k (k + 1)) (turnK s F fed k (k + 1 + 1)) from by simp [upd]]
      exact (half_up (c := 1245708288) (c2 := 1254096896) (by decide) (by decide) (by decide +kernel) (by decide +kernel) (ih (k + 1) (by omega) (by omega)) (ih (k + 1 + 1) hi hr)).2
    · by_cases h0 : i = k + 1
      · subst h0
        have hb : ((k + 1 + 1 : Nat) : Int) < r := by omega
        · rw [show upd (upd (turnK s F fed k) (k + 1) (halfF (turnK s F fed k (k + 1)) (turnK s F fed k (k + 1 + 1)))) (k + 1 + 1) (halfF (turnK s F fed k (k + 1)) (turnK s F fed k (k + 1 + 1))) (k + 1) = halfF (turnK s F fed k (k + 1)) (turnK s F fed k (k + 1 + 1)) from by simp [upd]]
          exact (half_up (c := 1245708288) (c2 := 1254096896) (by decide) (by decide) (by decide +kernel) (by decide +kernel) (ih (k + 1) hi hr) (ih (k + 1 + 1) (by omega) hb)).2
      · unfold upd
        rw [if_neg h1, if_neg h0]
        exact ih i hi hr

/-- The films before the print, what is printed, and the films behind it. -/
def turnE (r : Int) (s : Nat) (F : Nat → Nat) (fed : Nat) : Nat → Nat := turnK s F fed (r - 2).toNat
def turnP (r : Int) (s t : Nat) (F : Nat → Nat) (fed cover : Nat) : Nat := fmul (turnE r s F fed (r - 1).toNat) (fmul t cover)
def turnF (r : Int) (s t : Nat) (F : Nat → Nat) (fed cover : Nat) : Nat → Nat := upd (turnE r s F fed) (r - 1).toNat (fsub (turnE r s F fed (r - 1).toNat) (turnP r s t F fed cover))
structure TurnEnd (r : Int) (s t : Nat) (F : Nat → Nat) (fed cover : Nat) : Prop where
  ft : Fin32 t
  fc : Fin32 cover
  fk : Fin32 (fmul t cover)
  fe : Fin32 (turnE r s F fed (r - 1).toNat)
  fp : Fin32 (turnP r s t F fed cover)
theorem turn_end {r : Int} {s t : Nat} {F : Nat → Nat} {fed cover : Nat} (ho : trainB r s t F = true) (hf : filmB fed = true) (hc : partB cover = true) : TurnEnd r s t F fed cover := by
  obtain ⟨h2, h12, hs, ht, hfl, hz⟩ := trainB_facts ho
  have ue := turnK_up ho hf (r - 2).toNat (by omega) (r - 1).toNat (by omega) (by omega)
  have pk := part_mul ht hc
  have zc := Z_c3
  have uz : Z32 (turnE r s F fed (r - 1).toNat) ≤ 2 ^ 200 := by have := ue.2.2; rw [zc] at this; unfold turnE; omega
  exact ⟨part_fin ht, part_fin hc, part_fin pk, ue.1, (part_up pk ue.1 ue.2.1 uz).2.1⟩
end Go.Proofs.YtkokekndiammpaaGreatDoor

/-! A region [load, call, load, call, call] that draws its order: a load of a whole row may be taken first. -/
set_option linter.unusedVariables false
set_option linter.unusedSimpArgs false
namespace Go.Proofs.YtkokekndiammpaaGreatDoor
open Go.RowKit Ieee

theorem load_row {P : Program} {w : World} {b n : Nat} {t : TypeId} {fr : Nat × Nat} {pre : List Value} {F : Nat → Nat} (ty : TypeId) (d : TypeDesc) (hu : P.underlying ty = some d) (hd : d.isRow = true) (hi : (P.info? ty).map (·.size) = some (pre.length + n)) (h : w.heap[b]? = some (.cells (row pre n F) t fr)) :
    (loadVar ty ⟨b, 0, none⟩).run P w = .ok (.agg (row pre n F)) w := by
  have h1 := World.rangeAt_of_block h 0 (pre.length + n)
  rw [Nat.zero_add, row_all] at h1
  have := run_loadVar_mid (P := P) w b 0 ty _ d h1 hu hd (by rw [Array.length_toList, row_size]; exact hi)
  simpa using this
theorem yieldsIf_load_row {P : Program} {ops : Array Oper} {S : World → Prop} {op : Oper} {a : Act} (hw : Region.wanted op (yielded ops a.tmps) = true) (ty : TypeId) (x : Operand) (ho : op.op = .load ty x)
    (b : Nat) (hx : a.eval x = .pointer (some ⟨b, 0, none⟩)) (pre : List Value) (n : Nat) (F : Nat → Nat) (t : TypeId) (fr : Nat × Nat) (d : TypeDesc) (hS : ∀ w, S w → w.heap[b]? = some (.cells (row pre n F) t fr))
    (hu : P.underlying ty = some d) (hd : d.isRow = true) (hi : (P.info? ty).map (·.size) = some (pre.length + n)) : YieldsIf P ops S op (.agg (row pre n F)) a :=
  .inl ⟨hw, fun w hw' => by
    unfold execOp
    simp only [ho, hx, Instr.loadAt, Instr.sureAddr, Sem.run_bind, Sem.run_pure, Result.andThen_ok, load_row ty d hu hd hi (hS w hw')]⟩
end Go.Proofs.YtkokekndiammpaaGreatDoor

/-! The walks of the laws on MixTrains and AddRoller. -/
set_option linter.unusedVariables false
set_option linter.unusedSimpArgs false
namespace Go.Proofs.YtkokekndiammpaaGreatDoor
open Go.RowKit Ieee

theorem wp_store_row {P : Program} {o : Oper} {a : Act} {w : World} {K : Act → World → Prop} {Q : Exit → Act → World → Prop} (ty : TypeId) (x y : Operand) (ho : o.op = .store ty x y)
    (g : Nat) (pre pre' : List Value) (n : Nat) (F G : Nat → Nat) (hx : a.eval x = .pointer (some ⟨g, 0, none⟩)) (hy : a.eval y = .agg (row pre' n G))
    (t : TypeId) (hg : w.heap[g]? = some (.cells (row pre n F) t (0, 0))) (hl : pre.length = pre'.length) (hi : (P.info? ty).map (·.size) = some (pre'.length + n)) (h1 : pre'.all (·.oneCell') = true)
    (h : K (a.put o.dst undef) (w.setRow g (row pre' n G))) : Oper.wp P o a w K Q := by
  have hc : ∀ v ∈ (row pre' n G).toList, v.oneCell' = true := fun v hv => (Array.all_eq_true_iff_forall_mem.1 (row_cells pre' n G h1)) v (by simpa using hv)
  have hst := run_storeCells_at P g 0 t (row pre' n G).toList 0 (row pre n F) w hg (by simp [row_size, hl]) hc
  unfold Oper.wp execOp
  cases hq : P.info? ty with
  | none => simp [hq] at hi
  | some i =>
    have hs : (row pre' n G).size = i.size := by simp [hq] at hi; rw [row_size]; omega
    simp only [Nat.add_zero] at hst
    rw [row_over pre pre' n F G hl] at hst
    have hsv : (storeVar ty ⟨g, 0, none⟩ (.agg (row pre' n G))).run P w = .ok () (w.setRow g (row pre' n G)) := by
      simp [storeVar, sizeOf, typeInfo, hq, Value.cells, hs, hst]
    simp only [ho, hx, hy, Instr.storeAt, Instr.sureAddr, Sem.run_bind, Sem.run_pure, Result.andThen_ok, hsv]
    exact h

end Go.Proofs.YtkokekndiammpaaGreatDoor

/-! Contracts of l02Turn and turn. -/
set_option linter.unusedVariables false
set_option linter.unusedSimpArgs false
namespace Go.Proofs.YtkokekndiammpaaGreatDoor
open Go.RowKit Ieee

@[go_sem] theorem row_t3 (a b c : Value) (F : Nat → Nat) : (row [a, b, c] 12 F)[3]? = some (.float .f32 (F 0)) := row_get [a, b, c] 12 F (i := 0) (by omega)
@[go_sem] theorem row_t4 (a b c : Value) (F : Nat → Nat) : (row [a, b, c] 12 F)[4]? = some (.float .f32 (F 1)) := row_get [a, b, c] 12 F (i := 1) (by omega)
@[go_sem] theorem row_ts3 (a b c : Value) (F : Nat → Nat) (v : Nat) : (row [a, b, c] 12 F).setIfInBounds 3 (.float .f32 v) = row [a, b, c] 12 (upd F 0 v) := row_set [a, b, c] 12 F (i := 0) (by omega)
@[go_sem] theorem row_ts4 (a b c : Value) (F : Nat → Nat) (v : Nat) : (row [a, b, c] 12 F).setIfInBounds 4 (.float .f32 v) = row [a, b, c] 12 (upd F 1 v) := row_set [a, b, c] 12 F (i := 1) (by omega)
@[go_sem] theorem upd_same (F : Nat → Nat) (i v : Nat) : upd F i v i = v := by simp [upd]
@[go_sem] theorem upd_01 (F : Nat → Nat) (v : Nat) : upd F 0 v 1 = F 1 := by simp [upd]
@[go_sem] theorem upd_00 (F : Nat → Nat) (v u : Nat) : upd (upd F 0 v) 0 u = upd F 0 u := by funext j; unfold upd; split <;> rfl

theorem specSplit_q {a b : Nat} (h1 : Fin32 a) (h2 : Fin32 b) (h3 : Fin32 (fadd a b)) (w : World) (n : Nat) : Calls Tryz.prog 70 #[.float .f32 a, .float .f32 b] (w.drewN n) fun e w' => e = .returned (.float .f32 (halfF a b)) ∧ ∃ m, w' = w.drewN m :=
  (specSplit_fin h1 h2 h3 (w.drewN n)).mono fun _ _ h => ⟨h.1, n, h.2⟩
theorem implSplit_q {a b : Nat} (h1 : Fin32 a) (h2 : Fin32 b) (h3 : Fin32 (fadd a b)) (w : World) (n : Nat) : Calls Tryz.prog 66 #[.float .f32 a, .float .f32 b] (w.drewN n) fun e w' => e = .returned (.float .f32 (halfF a b)) ∧ ∃ m, w' = w.drewN m :=
  (implSplit_fin h1 h2 h3 (w.drewN n)).mono fun _ _ h => ⟨h.1, n, h.2⟩

set_option maxRecDepth 100000 in
set_option maxHeartbeats 1600000 in
theorem specTurn_any (r : Int) (s t : Nat) (F : Nat → Nat) (fed cover : Nat) (w : World) (lr : -128 ≤ r) (ur : r ≤ 127) (ho : trainB r s t F = true) (hf : filmB fed = true) (hc : partB cover = true) : Calls Tryz.prog 49 #[.agg (train r s t F), .float .f32 fed, .float .f32 cover] w fun e w' => e = .returned (.tuple #[.agg (train r s t (turnF r s t F fed cover)), .float .f32 (turnP r s t F fed cover), .bool (trainB r s t (turnF r s t F fed cover))]) ∧ Below w.heap.size w w' := by
  have hz : (#[Value.int IntKind.i8 0, Value.float FloatKind.f32 0, Value.float FloatKind.f32 0, Value.float FloatKind.f32 0, Value.float FloatKind.f32 0, Value.float FloatKind.f32 0, Value.float FloatKind.f32 0, Value.float FloatKind.f32 0, Value.float FloatKind.f32 0, Value.float FloatKind.f32 0, Value.float FloatKind.f32 0, Value.float FloatKind.f32 0, Value.float FloatKind.f32 0, Value.float FloatKind.f32 0, Value.float FloatKind.f32 0] : Array Value) = row [Value.int IntKind.i8 0, Value.float FloatKind.f32 0, Value.float FloatKind.f32 0] 12 (fun _ => 0) := rfl
  obtain ⟨h2, h12, _, _, _, _⟩ := trainB_facts ho
  have st := turn_start ho hf
  have en := turn_end ho hf hc
  have e1 := fun w => run_fadd (P := Tryz.prog) w 25 st.fa st.ff
  have e2 := fun w => run_fmul (P := Tryz.prog) w 25 st.hs st.ha.1
  have e3 := fun w => run_fsub (P := Tryz.prog) w 25 st.ha.1 st.ho.1
  have e4 := fun w => run_fadd (P := Tryz.prog) w 25 st.f1 st.ho.1
  have e7 := fun w => run_fmul (P := Tryz.prog) w 25 en.ft en.fc
  have EN := Lib.hid en
  have hcs := fun b w => run_conv_same (P := Tryz.prog) 25 25 .f32 b w (by kernel_rfl) (by kernel_rfl)
  simp only [turnA, turnO] at e2 e3 e4
  clear st en
  go_enter Tryz.func49, Tryz.ntmps49
  have e5 := turnK_up ho hf
  have E5 := Lib.hid e5
  have HO := Lib.hid ho
  clear e5 ho
  go_wp2_with (first | (go_at_call 67; (with_reducible refine (specOk_any r s t F _ lr ur _ ?_).mono ?_); (focus (repeat (first | (with_reducible assumption) | ((with_reducible refine blk_new _ _ _ ?_); focus (simp; done)) | ((with_reducible refine blk_old _ _ _ ?_ ?_); focus (simp; done)) | ((with_reducible refine blk_old _ _ _ ?_ ?_); focus (first | omega | (simp; omega))) | ((with_reducible apply blk_set); focus (simp; done)) | ((with_reducible refine blk_off _ _ _ _ ?_ ?_); focus (simp; done)) | ((with_reducible refine blk_offc _ _ _ _ ?_ ?_); focus (first | (simp; done) | omega | (simp; omega))) | ((with_reducible refine blk_off _ _ _ _ ?_ ?_); focus (first | omega | (simp; omega))) | (with_reducible refine blk_drew _ _ ?_) | ((with_reducible refine blk_below (by assumption) ?_ ?_); focus (simp; done)) | ((with_reducible refine blk_below (by assumption) ?_ ?_); focus (first | omega | (simp; omega)))))); rintro e w' ⟨rfl, rfl⟩) | go_in)
  go_loopw [11] (fun i wr => ∃ k : Nat, (k : Int) + 2 ≤ r ∧ i = .int .i64 (k + 1) ∧ wr.heap[w.heap.size]? = some (.cells (train r s t (turnK s F fed k)) 28 (0, 0)) ∧ wr.heap[w.heap.size + 1]? = some (.cells (train 0 0 0 (fun _ => 0)) 28 (0, 0)) ∧ Below w.heap.size w wr) (fun i _ => 12 - (intOf i).toNat)
  case atStart => exact ⟨0, by omega, by go_num, (by simp only [turnK, turn0, turnO, turnA]; repeat (first | (with_reducible assumption) | ((with_reducible refine blk_new _ _ _ ?_); focus (simp; done)) | ((with_reducible refine blk_old _ _ _ ?_ ?_); focus (simp; done)) | ((with_reducible refine blk_old _ _ _ ?_ ?_); focus (first | omega | (simp; omega))) | ((with_reducible apply blk_set); focus (simp; done)) | ((with_reducible refine blk_off _ _ _ _ ?_ ?_); focus (simp; done)) | ((with_reducible refine blk_offc _ _ _ _ ?_ ?_); focus (first | (simp; done) | omega | (simp; omega))) | ((with_reducible refine blk_off _ _ _ _ ?_ ?_); focus (first | omega | (simp; omega))) | (with_reducible refine blk_drew _ _ ?_) | ((with_reducible refine blk_below (by assumption) ?_ ?_); focus (simp; done)) | ((with_reducible refine blk_below (by assumption) ?_ ?_); focus (first | omega | (simp; omega))))), (by repeat (first | (with_reducible assumption) | ((with_reducible refine blk_new _ _ _ ?_); focus (simp; done)) | ((with_reducible refine blk_old _ _ _ ?_ ?_); focus (simp; done)) | ((with_reducible refine blk_old _ _ _ ?_ ?_); focus (first | omega | (simp; omega))) | ((with_reducible apply blk_set); focus (simp; done)) | ((with_reducible refine blk_off _ _ _ _ ?_ ?_); focus (simp; done)) | ((with_reducible refine blk_offc _ _ _ _ ?_ ?_); focus (first | (simp; done) | omega | (simp; omega))) | ((with_reducible refine blk_off _ _ _ _ ?_ ?_); focus (first | omega | (simp; omega))) | (with_reducible refine blk_drew _ _ ?_) | ((with_reducible refine blk_below (by assumption) ?_ ?_); focus (simp; done)) | ((with_reducible refine blk_below (by assumption) ?_ ?_); focus (first | omega | (simp; omega))))), (by repeat (first | (with_reducible assumption) | (with_reducible exact Below.refl _ _) | ((with_reducible refine bel_alloc _ ?_ ?_); focus (first | omega | (simp; done) | (simp; omega))) | ((with_reducible refine bel_row _ ?_ ?_); focus (first | omega | (simp; done) | (simp; omega))) | ((with_reducible refine bel_cell _ ?_ ?_); focus (first | omega | (simp; done) | (simp; omega))) | (with_reducible refine Below.drew ?_) | (with_reducible refine below_wideW _ ?_) | ((with_reducible refine bel_next (by assumption) ?_ ?_); focus (first | omega | (simp; done) | (simp; omega)))))⟩
  case round =>
    obtain ⟨k, hk, rfl, h1, h3, hb⟩ := hrel
    have HB := Lib.hid hb
    have H3 := Lib.hid h3
    clear hb h3
    by_cases hlt : (k : Int) + 3 ≤ r
    · have c1 : wr.cell? ⟨w.heap.size, 3 + (k + 1), none⟩ = some (.float .f32 (turnK s F fed k (k + 1))) := (cell_of_row wr _ (3 + (k + 1)) _ _ _ h1).trans (row_k3 _ _ _ _ _ (by omega))
      have c2 : wr.cell? ⟨w.heap.size, 3 + (k + 1 + 1), none⟩ = some (.float .f32 (turnK s F fed k (k + 1 + 1))) := (cell_of_row wr _ (3 + (k + 1 + 1)) _ _ _ h1).trans (row_k3 _ _ _ _ _ (by omega))
      have f1 : wr.frozen? ⟨w.heap.size, 3 + (k + 1), none⟩ = false := frozen_of_row wr _ _ _ _ h1
      have f2 : wr.frozen? ⟨w.heap.size, 3 + (k + 1 + 1), none⟩ = false := frozen_of_row wr _ _ _ _ h1
      have H1 := Lib.hid h1
      have u1 := E5.out k hk (k + 1) (by omega) (by omega)
      have u2 := E5.out k hk (k + 1 + 1) (by omega) (by omega)
      have hh := half_up (c := 1245708288) (c2 := 1254096896) (by decide) (by decide) (by decide +kernel) (by decide +kernel) u1 u2
      have U1 := Lib.hid (show Fin32 _ from u1.1)
      have U2 := Lib.hid (show Fin32 _ from u2.1)
      have HH := Lib.hid hh.1
      clear h1 u1 u2 hh
      have k0 : (0 : Int) ≤ (k : Int) := by omega
      have k1 : (k : Int) + 1 < 12 := by omega
      have k2 : (k : Int) + 1 + 1 < 12 := by omega
      have z1 : (0 : Int) ≤ (k : Int) + 1 := by omega
      have z2 : (0 : Int) ≤ (k : Int) + 1 + 1 := by omega
      have t1 : ((k : Int) + 1).toNat = k + 1 := by omega
      have t2 : ((k : Int) + 1 + 1).toNat = k + 1 + 1 := by omega
      have wr1 : IntKind.i64.wrap ((k : Int) + 1 + 1) = (k : Int) + 1 + 1 := IntWalk.i64_in _ (by omega)
      go_wp2
      go_outline
      go_quiet ((go_at_call 70; with_reducible exact specSplit_q U1.out U2.out HH.out _ _))
      go_wp2
      go_roundw
      case rel => exact ⟨k + 1, by omega, by go_num, put_row (pre := tpre r s t) (k := k + 1 + 1) (by omega) (put_row (pre := tpre r s t) (k := k + 1) (by omega) H1.out), put_off (by omega) (put_off (by omega) H3.out), bel_cell _ (by simp) (bel_cell _ (by simp) (bel_drewN _ HB.out))⟩
      case measure => simp [intOf]; omega
    · obtain ⟨j, hj⟩ : ∃ j : Nat, j = k := ⟨k, rfl⟩
      have hr1 : r - 1 = (k : Int) + 1 := by omega
      have z1 : (0 : Int) ≤ r - 1 := by omega
      have z2 : r - 1 < 12 := by omega
      have t1 : (r - 1).toNat = k + 1 := by omega
      have hE : turnE r s F fed = turnK s F fed k := by unfold turnE; rw [show (r - 2).toNat = k from by omega]
      have hP : turnP r s t F fed cover = fmul (turnK s F fed k (k + 1)) (fmul t cover) := by unfold turnP; rw [hE, t1]
      have en := EN.out
      have fe : Fin32 (turnK s F fed k (k + 1)) := by have := en.fe; rwa [hE, t1] at this
      have fp : Fin32 (fmul (turnK s F fed k (k + 1)) (fmul t cover)) := by have := en.fp; rwa [hP] at this
      have e8 := fun w => run_fmul (P := Tryz.prog) w 25 fe en.fk
      have e9 := fun w => run_fsub (P := Tryz.prog) w 25 fe fp
      have HE := Lib.hid hE
      have HP := Lib.hid hP
      clear hr1 hj hE hP en fe fp
      have c1 : wr.cell? ⟨w.heap.size, 3 + (k + 1), none⟩ = some (.float .f32 (turnK s F fed k (k + 1))) := (cell_of_row wr _ (3 + (k + 1)) _ _ _ h1).trans (row_k3 _ _ _ _ _ (by omega))
      have c2 : wr.cell? ⟨w.heap.size, 2, none⟩ = some (.float .f32 t) := (cell_of_row wr _ 2 _ _ _ h1).trans (row_g2 _ _ _ _ _ _)
      have f1 : wr.frozen? ⟨w.heap.size, 3 + (k + 1), none⟩ = false := frozen_of_row wr _ _ _ _ h1
      have k0 : (0 : Int) ≤ (k : Int) := by omega
      have k1 : (k : Int) + 1 < 12 := by omega
      have HF : train r s t (upd (turnK s F fed k) (k + 1) (fsub (turnK s F fed k (k + 1)) (fmul (turnK s F fed k (k + 1)) (fmul t cover)))) = train r s t (turnF r s t F fed cover) := by unfold turnF; rw [HP.out, HE.out, t1]
      have hq : (wr.setCell ⟨w.heap.size, 3 + (k + 1), none⟩ (.float .f32 (fsub (turnK s F fed k (k + 1)) (fmul (turnK s F fed k (k + 1)) (fmul t cover))))).heap[w.heap.size]? = some (.cells (train r s t (turnF r s t F fed cover)) 28 (0, 0)) := by
        rw [← HF]
        exact put_row (pre := tpre r s t) (k := k + 1) (by omega) h1
      have hz3 := put_off (g := w.heap.size) (o := 3 + (k + 1)) (v := .float .f32 (fsub (turnK s F fed k (k + 1)) (fmul (turnK s F fed k (k + 1)) (fmul t cover)))) (i := w.heap.size + 1) (by omega) H3.out
      go_wp2
      have HP' := HP.out
      have ho := HO.out
      refine wp_region_noPanic ?_
      refine wp_region_held_drew (S := fun w' => w'.heap[w.heap.size]? = some (.cells (train r s t (turnF r s t F fed cover)) 28 (0, 0))) (by kernel_rfl) ?_ (fun hHeld => ?_)
      · exact (by repeat (first | (with_reducible assumption) | ((with_reducible refine blk_new _ _ _ ?_); focus (simp; done)) | ((with_reducible refine blk_old _ _ _ ?_ ?_); focus (simp; done)) | ((with_reducible refine blk_old _ _ _ ?_ ?_); focus (first | omega | (simp; omega))) | ((with_reducible apply blk_set); focus (simp; done)) | ((with_reducible refine blk_off _ _ _ _ ?_ ?_); focus (simp; done)) | ((with_reducible refine blk_offc _ _ _ _ ?_ ?_); focus (first | (simp; done) | omega | (simp; omega))) | ((with_reducible refine blk_off _ _ _ _ ?_ ?_); focus (first | omega | (simp; omega))) | (with_reducible refine blk_drew _ _ ?_) | ((with_reducible refine blk_below (by assumption) ?_ ?_); focus (simp; done)) | ((with_reducible refine blk_below (by assumption) ?_ ?_); focus (first | omega | (simp; omega)))))
      refine wpAnyH_take (i := 0) rfl (by kernel_rfl) (by kernel_rfl) (by kernel_rfl) (fun _ _ _ h => h) (yieldsIf_load_row (by rfl) 28 _ rfl _ (by rfl) _ _ _ 28 (0, 0) _ (fun _ h => h) Tryz.underlying28 rfl (by kernel_rfl)) hHeld ?_
      simp only [Act.put, List.setIfInBounds_toArray, List.set_cons_zero, List.set_cons_succ]
      refine wpAnyH_take (i := 1) (v := .float .f32 (fmul (turnK s F fed k (k + 1)) (fmul t cover))) rfl (by kernel_rfl) (by kernel_rfl) (by kernel_rfl) (fun _ _ _ h => h) (Or.inl ⟨by rfl, fun w hSw => by clear hSw; go_simp⟩) hHeld ?_
      simp only [Act.put, List.setIfInBounds_toArray, List.set_cons_zero, List.set_cons_succ]
      refine wpAnyH_ready (rs := [2]) (by kernel_rfl) (by simp) ?_
      refine AllReadyH.cons rfl (fun K hK => ?_) AllReadyH.nil
      go_simp
      (go_at_call 67; (with_reducible refine (specOk_any r s t (turnF r s t F fed cover) _ lr ur _ ?_).mono ?_); (focus (repeat (first | (with_reducible assumption) | ((with_reducible refine blk_new _ _ _ ?_); focus (simp; done)) | ((with_reducible refine blk_old _ _ _ ?_ ?_); focus (simp; done)) | ((with_reducible refine blk_old _ _ _ ?_ ?_); focus (first | omega | (simp; omega))) | ((with_reducible apply blk_set); focus (simp; done)) | ((with_reducible refine blk_off _ _ _ _ ?_ ?_); focus (simp; done)) | ((with_reducible refine blk_offc _ _ _ _ ?_ ?_); focus (first | (simp; done) | omega | (simp; omega))) | ((with_reducible refine blk_off _ _ _ _ ?_ ?_); focus (first | omega | (simp; omega))) | (with_reducible refine blk_drew _ _ ?_) | ((with_reducible refine blk_below (by assumption) ?_ ?_); focus (simp; done)) | ((with_reducible refine blk_below (by assumption) ?_ ?_); focus (first | omega | (simp; omega)))))); rintro e w' ⟨rfl, rfl⟩)
      (try go_wp2_with fail)
      refine hK.out _ _ ?_ (fun hHeld => ?_)
      · exact (by repeat (first | (with_reducible assumption) | ((with_reducible refine blk_new _ _ _ ?_); focus (simp; done)) | ((with_reducible refine blk_old _ _ _ ?_ ?_); focus (simp; done)) | ((with_reducible refine blk_old _ _ _ ?_ ?_); focus (first | omega | (simp; omega))) | ((with_reducible apply blk_set); focus (simp; done)) | ((with_reducible refine blk_off _ _ _ _ ?_ ?_); focus (simp; done)) | ((with_reducible refine blk_offc _ _ _ _ ?_ ?_); focus (first | (simp; done) | omega | (simp; omega))) | ((with_reducible refine blk_off _ _ _ _ ?_ ?_); focus (first | omega | (simp; omega))) | (with_reducible refine blk_drew _ _ ?_) | ((with_reducible refine blk_below (by assumption) ?_ ?_); focus (simp; done)) | ((with_reducible refine blk_below (by assumption) ?_ ?_); focus (first | omega | (simp; omega)))))
      clear hK K
      (try simp only [Act.put, List.setIfInBounds_toArray, List.set_cons_zero, List.set_cons_succ])
      refine wpAnyH_ready (rs := [3]) (by kernel_rfl) (by simp) ?_
      refine AllReadyH.cons rfl (fun K hK => ?_) AllReadyH.nil
      simp only [List.getElem_toArray, List.getElem_cons_succ, List.getElem_cons_zero]
      rw [if_pos (by rfl)]
      refine wp_store_row 28 (.tmp 6) (.tmp 89) (by rfl) _ [.int .i8 0, .float .f32 0, .float .f32 0] (tpre r s t) 12 (fun _ => 0) (turnF r s t F fed cover) (by rfl) (by rfl) 28 (by repeat (first | (with_reducible assumption) | ((with_reducible refine blk_new _ _ _ ?_); focus (simp; done)) | ((with_reducible refine blk_old _ _ _ ?_ ?_); focus (simp; done)) | ((with_reducible refine blk_old _ _ _ ?_ ?_); focus (first | omega | (simp; omega))) | ((with_reducible apply blk_set); focus (simp; done)) | ((with_reducible refine blk_off _ _ _ _ ?_ ?_); focus (simp; done)) | ((with_reducible refine blk_offc _ _ _ _ ?_ ?_); focus (first | (simp; done) | omega | (simp; omega))) | ((with_reducible refine blk_off _ _ _ _ ?_ ?_); focus (first | omega | (simp; omega))) | (with_reducible refine blk_drew _ _ ?_) | ((with_reducible refine blk_below (by assumption) ?_ ?_); focus (simp; done)) | ((with_reducible refine blk_below (by assumption) ?_ ?_); focus (first | omega | (simp; omega))))) rfl (by kernel_rfl) rfl ?_
      refine hK.out _ _ ?_ (fun hHeld => ?_)
      · exact (by repeat (first | (with_reducible assumption) | ((with_reducible refine blk_new _ _ _ ?_); focus (simp; done)) | ((with_reducible refine blk_old _ _ _ ?_ ?_); focus (simp; done)) | ((with_reducible refine blk_old _ _ _ ?_ ?_); focus (first | omega | (simp; omega))) | ((with_reducible apply blk_set); focus (simp; done)) | ((with_reducible refine blk_off _ _ _ _ ?_ ?_); focus (simp; done)) | ((with_reducible refine blk_offc _ _ _ _ ?_ ?_); focus (first | (simp; done) | omega | (simp; omega))) | ((with_reducible refine blk_off _ _ _ _ ?_ ?_); focus (first | omega | (simp; omega))) | (with_reducible refine blk_drew _ _ ?_) | ((with_reducible refine blk_below (by assumption) ?_ ?_); focus (simp; done)) | ((with_reducible refine blk_below (by assumption) ?_ ?_); focus (first | omega | (simp; omega)))))
      clear hK K
      (try simp only [Act.put, List.setIfInBounds_toArray, List.set_cons_zero, List.set_cons_succ])
      refine wpAnyH_ready (rs := [4]) (by kernel_rfl) (by simp) ?_
      refine AllReadyH.cons rfl (fun K hK => ?_) AllReadyH.nil
      go_simp
      refine hK.out _ _ ?_ (fun hHeld => ?_)
      · exact (by repeat (first | (with_reducible assumption) | ((with_reducible refine blk_new _ _ _ ?_); focus (simp; done)) | ((with_reducible refine blk_old _ _ _ ?_ ?_); focus (simp; done)) | ((with_reducible refine blk_old _ _ _ ?_ ?_); focus (first | omega | (simp; omega))) | ((with_reducible apply blk_set); focus (simp; done)) | ((with_reducible refine blk_off _ _ _ _ ?_ ?_); focus (simp; done)) | ((with_reducible refine blk_offc _ _ _ _ ?_ ?_); focus (first | (simp; done) | omega | (simp; omega))) | ((with_reducible refine blk_off _ _ _ _ ?_ ?_); focus (first | omega | (simp; omega))) | (with_reducible refine blk_drew _ _ ?_) | ((with_reducible refine blk_below (by assumption) ?_ ?_); focus (simp; done)) | ((with_reducible refine blk_below (by assumption) ?_ ?_); focus (first | omega | (simp; omega)))))
      clear hK K
      (try simp only [Act.put, List.setIfInBounds_toArray, List.set_cons_zero, List.set_cons_succ])
      refine wpAnyH_ready (rs := [5]) (by kernel_rfl) (by simp) ?_
      refine AllReadyH.cons rfl (fun K hK => ?_) AllReadyH.nil
      go_simp
      refine hK.out _ _ ?_ (fun hHeld => ?_)
      · exact (by repeat (first | (with_reducible assumption) | ((with_reducible refine blk_new _ _ _ ?_); focus (simp; done)) | ((with_reducible refine blk_old _ _ _ ?_ ?_); focus (simp; done)) | ((with_reducible refine blk_old _ _ _ ?_ ?_); focus (first | omega | (simp; omega))) | ((with_reducible apply blk_set); focus (simp; done)) | ((with_reducible refine blk_off _ _ _ _ ?_ ?_); focus (simp; done)) | ((with_reducible refine blk_offc _ _ _ _ ?_ ?_); focus (first | (simp; done) | omega | (simp; omega))) | ((with_reducible refine blk_off _ _ _ _ ?_ ?_); focus (first | omega | (simp; omega))) | (with_reducible refine blk_drew _ _ ?_) | ((with_reducible refine blk_below (by assumption) ?_ ?_); focus (simp; done)) | ((with_reducible refine blk_below (by assumption) ?_ ?_); focus (first | omega | (simp; omega)))))
      clear hK K
      (try simp only [Act.put, List.setIfInBounds_toArray, List.set_cons_zero, List.set_cons_succ])
      refine wpAnyH_done (by kernel_rfl) ?_ _
      refine NoPanic.normal ?_
      clear hHeld
      have hb := HB.out
      go_wp2
      refine bodyPost_ret (v := .tuple #[.agg (train r s t (turnF r s t F fed cover)), .float .f32 (fmul (turnK s F fed k (k + 1)) (fmul t cover)), .bool (trainB r s t (turnF r s t F fed cover))]) ?_ ?_ ?_
      · refine results_row_tmp2 Tryz.results49 _ _ _ 28 (train r s t (turnF r s t F fed cover)) (0, 0) _ _ _ rfl rfl rfl ?_ Tryz.underlying28 rfl (by simp only [row_size]; kernel_rfl)
        exact (by repeat (first | (with_reducible assumption) | ((with_reducible refine blk_new _ _ _ ?_); focus (simp; done)) | ((with_reducible refine blk_old _ _ _ ?_ ?_); focus (simp; done)) | ((with_reducible refine blk_old _ _ _ ?_ ?_); focus (first | omega | (simp; omega))) | ((with_reducible apply blk_set); focus (simp; done)) | ((with_reducible refine blk_off _ _ _ _ ?_ ?_); focus (simp; done)) | ((with_reducible refine blk_offc _ _ _ _ ?_ ?_); focus (first | (simp; done) | omega | (simp; omega))) | ((with_reducible refine blk_off _ _ _ _ ?_ ?_); focus (first | omega | (simp; omega))) | (with_reducible refine blk_drew _ _ ?_) | ((with_reducible refine blk_below (by assumption) ?_ ?_); focus (simp; done)) | ((with_reducible refine blk_below (by assumption) ?_ ?_); focus (first | omega | (simp; omega)))))
      · rfl
      · exact ⟨by rw [HP.out], (by repeat (first | (with_reducible assumption) | (with_reducible exact Below.refl _ _) | ((with_reducible refine bel_alloc _ ?_ ?_); focus (first | omega | (simp; done) | (simp; omega))) | ((with_reducible refine bel_row _ ?_ ?_); focus (first | omega | (simp; done) | (simp; omega))) | ((with_reducible refine bel_cell _ ?_ ?_); focus (first | omega | (simp; done) | (simp; omega))) | (with_reducible refine Below.drew ?_) | (with_reducible refine below_wideW _ ?_) | ((with_reducible refine bel_next (by assumption) ?_ ?_); focus (first | omega | (simp; done) | (simp; omega)))))⟩
end Go.Proofs.YtkokekndiammpaaGreatDoor

/-! Plates: which numbers are cells', valid plates, what is done cell by cell; plain, no program in sight. -/
set_option linter.unusedVariables false
set_option linter.unusedSimpArgs false
namespace Go.Proofs.YtkokekndiammpaaGreatDoor
open Go.RowKit Ieee

/-- A plate's cells. -/
abbrev ppre (x y : Int) : List Value := [.int .i8 x, .int .i8 y]
abbrev plate (x y : Int) (F : Nat → Nat) : Array Value := row (ppre x y) 64 F

/-- The number of the k-th cell. -/
def cellAt (a k : Nat) : Nat := k % a + 8 * (k / a)
section
variable {a b : Nat} (ha : a < 9) (hb : b < 9) (g G : Nat → Nat)
include ha hb
omit ha hb in
end
section
variable {a b : Nat} (ha : a < 9) (hb : b < 9) (F : Nat → Nat)
include ha hb
end

/-! ### valid plates -/
end Go.Proofs.YtkokekndiammpaaGreatDoor

/-! Cells of plates and valid plates, as the reference and the program ask it. -/
set_option linter.unusedVariables false
set_option linter.unusedSimpArgs false
namespace Go.Proofs.YtkokekndiammpaaGreatDoor
open Go.RowKit Ieee

theorem specIn_yes {n lo hi : Int} (h1 : lo ≤ n) (h2 : n ≤ hi) (w : World) : Calls Tryz.prog 61 #[.int .i64 n, .int .i64 lo, .int .i64 hi] w fun e w' => e = .returned (.bool true) ∧ w = w' := by
  go_enter Tryz.func61, Tryz.ntmps61
  go_wp2
  go_ret
  exact ⟨rfl, rfl⟩
theorem specIn_lo {n lo hi : Int} (h1 : n < lo) (w : World) : Calls Tryz.prog 61 #[.int .i64 n, .int .i64 lo, .int .i64 hi] w fun e w' => e = .returned (.bool false) ∧ w = w' := by
  go_enter Tryz.func61, Tryz.ntmps61
  go_wp2
  go_ret
  exact ⟨rfl, rfl⟩
theorem specIn_hi {n lo hi : Int} (h1 : lo ≤ n) (h2 : hi < n) (w : World) : Calls Tryz.prog 61 #[.int .i64 n, .int .i64 lo, .int .i64 hi] w fun e w' => e = .returned (.bool false) ∧ w = w' := by
  have h3 : decide (n ≤ hi) = false := by simp; omega
  go_enter Tryz.func61, Tryz.ntmps61
  go_wp2
  go_ret
  exact ⟨rfl, rfl⟩
end Go.Proofs.YtkokekndiammpaaGreatDoor

/-! A plate of which all cells turn: eachDot, freshDots, whatever the function is that is handed to them. -/
set_option linter.unusedVariables false
set_option linter.unusedSimpArgs false
namespace Go.Proofs.YtkokekndiammpaaGreatDoor
open Go.RowKit Ieee

theorem blk_drewN {r : Option Obj} (w : World) (i m : Nat) (hr : w.heap[i]? = r) : (w.drewN m).heap[i]? = r := hr
end Go.Proofs.YtkokekndiammpaaGreatDoor
