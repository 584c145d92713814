/- Cells of plates and valid plates, as the reference and the program ask it. -/
import Derived.Test.YtckcngmbbnilnaaDoorPCopy
set_option linter.unusedVariables false
set_option linter.unusedSimpArgs false
namespace Go.Proofs.YtckcngmbbnilnaaDoor
open Go.RowKit Ieee

theorem specIn_yes {n lo hi : Int} (h1 : lo ≤ n) (h2 : n ≤ hi) (w : World) : Calls Tryd.prog 48 #[.int .i64 n, .int .i64 lo, .int .i64 hi] w fun e w' => e = .returned (.bool true) ∧ w = w' := by
  go_enter Tryd.func48, Tryd.ntmps48
  go_wp2
  go_ret
  exact ⟨rfl, rfl⟩
theorem specIn_lo {n lo hi : Int} (h1 : n < lo) (w : World) : Calls Tryd.prog 48 #[.int .i64 n, .int .i64 lo, .int .i64 hi] w fun e w' => e = .returned (.bool false) ∧ w = w' := by
  go_enter Tryd.func48, Tryd.ntmps48
  go_wp2
  go_ret
  exact ⟨rfl, rfl⟩
theorem specIn_hi {n lo hi : Int} (h1 : lo ≤ n) (h2 : hi < n) (w : World) : Calls Tryd.prog 48 #[.int .i64 n, .int .i64 lo, .int .i64 hi] w fun e w' => e = .returned (.bool false) ∧ w = w' := by
  have h3 : decide (n ≤ hi) = false := by simp; omega
  go_enter Tryd.func48, Tryd.ntmps48
  go_wp2
  go_ret
  exact ⟨rfl, rfl⟩
def inB (n lo hi : Int) : Bool := decide (lo ≤ n) && decide (n ≤ hi)
theorem specIn_any (n lo hi : Int) (w : World) : Calls Tryd.prog 48 #[.int .i64 n, .int .i64 lo, .int .i64 hi] w fun e w' => e = .returned (.bool (inB n lo hi)) ∧ w = w' := by
  unfold inB
  by_cases h1 : lo ≤ n
  · by_cases h2 : n ≤ hi
    · simpa [h1, h2] using specIn_yes h1 h2 w
    · simpa [h1, h2] using specIn_hi h1 (by omega) w
  · simpa [h1] using specIn_lo (by omega) w

theorem specIs_any {a b i : Nat} (ha : a < 9) (hb : b < 9) (hi : i < 64) (w : World) (B : Nat) (c0 : w.cell? ⟨B, 0, none⟩ = some (.int .i8 a)) (c1 : w.cell? ⟨B, 1, none⟩ = some (.int .i8 b)) :
    Calls Tryd.prog 72 #[.pointer (some ⟨B, 0, none⟩), .int .i64 i] w fun e w' => e = .returned (.bool (isC a b i)) ∧ w = w' := by
  have i0 : (0 : Int) ≤ i := by omega
  have i63 : (i : Int) ≤ 63 := by omega
  unfold isC
  by_cases h1 : i % 8 < a
  · by_cases h2 : i / 8 < b
    · have g1 : (i : Int) % 8 < a := by omega
      have g2 : (i : Int) / 8 < b := by omega
      have e1 : decide (i % 8 < a) = true := by simpa using h1
      have e2 : decide (i / 8 < b) = true := by simpa using h2
      rw [e1, e2]
      clear e1 e2 h1 h2 hi
      go_enter Tryd.func72, Tryd.ntmps72
      go_wp2_with (first | (go_at_call 48; (with_reducible refine (specIn_yes (by omega) (by omega) _).mono ?_); rintro e w' ⟨rfl, rfl⟩) | go_in)
      go_ret
      exact ⟨rfl, rfl⟩
    · have g1 : (i : Int) % 8 < a := by omega
      have g2 : ¬ (i : Int) / 8 < b := by omega
      have e1 : decide (i % 8 < a) = true := by simpa using h1
      have e2 : decide (i / 8 < b) = false := by simp; omega
      have g3 : decide ((i : Int) / 8 < b) = false := by simp; omega
      rw [e1, e2]
      clear e1 e2 h1 h2 hi g2
      go_enter Tryd.func72, Tryd.ntmps72
      go_wp2_with (first | (go_at_call 48; (with_reducible refine (specIn_yes (by omega) (by omega) _).mono ?_); rintro e w' ⟨rfl, rfl⟩) | go_in)
      go_ret
      exact ⟨rfl, rfl⟩
  · have g1 : decide ((i : Int) % 8 < a) = false := by simp; omega
    have e1 : decide (i % 8 < a) = false := by simpa using h1
    rw [e1]
    clear e1 h1 hi
    go_enter Tryd.func72, Tryd.ntmps72
    go_wp2_with (first | (go_at_call 48; (with_reducible refine (specIn_yes (by omega) (by omega) _).mono ?_); rintro e w' ⟨rfl, rfl⟩) | go_in)
    go_ret
    exact ⟨rfl, rfl⟩

/-- Does a plate of a by b cells have the cell X, Y? -/
def inXY (X Y : Int) (a b : Nat) : Bool := (decide (0 ≤ X) && decide (X < a)) && (decide (0 ≤ Y) && decide (Y < b))
theorem implIs_any (X Y : Int) (a b : Nat) (ha : a < 9) (hb : b < 9) (w : World) (B : Nat) (c0 : w.cell? ⟨B, 0, none⟩ = some (.int .i8 a)) (c1 : w.cell? ⟨B, 1, none⟩ = some (.int .i8 b)) :
    Calls Tryd.prog 73 #[.pointer (some ⟨B, 0, none⟩), .int .i64 X, .int .i64 Y] w fun e w' => e = .returned (.bool (inXY X Y a b)) ∧ w = w' := by
  unfold inXY
  by_cases h1 : 0 ≤ X
  · by_cases h2 : X < a
    · by_cases h3 : 0 ≤ Y
      · by_cases h4 : Y < b
        · rw [show decide (0 ≤ X) = true from by simpa using h1, show decide (X < a) = true from by simpa using h2, show decide (0 ≤ Y) = true from by simpa using h3, show decide (Y < b) = true from by simpa using h4]
          go_enter Tryd.func73, Tryd.ntmps73
          go_wp2
          go_ret
          exact ⟨rfl, rfl⟩
        · rw [show decide (0 ≤ X) = true from by simpa using h1, show decide (X < a) = true from by simpa using h2, show decide (0 ≤ Y) = true from by simpa using h3, show decide (Y < b) = false from by simpa using h4]
          have g : decide (Y < b) = false := by simpa using h4
          clear h4
          go_enter Tryd.func73, Tryd.ntmps73
          go_wp2
          go_ret
          exact ⟨rfl, rfl⟩
      · rw [show decide (0 ≤ X) = true from by simpa using h1, show decide (X < a) = true from by simpa using h2, show decide (0 ≤ Y) = false from by simpa using h3]
        have g : decide (0 ≤ Y) = false := by simpa using h3
        clear h3
        go_enter Tryd.func73, Tryd.ntmps73
        go_wp2
        go_ret
        exact ⟨rfl, rfl⟩
    · rw [show decide (0 ≤ X) = true from by simpa using h1, show decide (X < a) = false from by simpa using h2]
      have g : decide (X < a) = false := by simpa using h2
      clear h2
      go_enter Tryd.func73, Tryd.ntmps73
      go_wp2
      go_ret
      exact ⟨rfl, rfl⟩
  · rw [show decide (0 ≤ X) = false from by simpa using h1]
    have g : decide (0 ≤ X) = false := by simpa using h1
    clear h1
    go_enter Tryd.func73, Tryd.ntmps73
    go_wp2
    go_ret
    exact ⟨rfl, rfl⟩

set_option maxHeartbeats 1600000 in
theorem specPOk0 (a b : Nat) (F : Nat → Nat) (w : World) (ha1 : 1 ≤ a) (ha : a < 9) (hb1 : 1 ≤ b) (hb : b < 9) (B : Nat) (hB : w.heap[B]? = some (.cells (plate a b F) 39 (0, 0))) : Calls Tryd.prog 38 #[.pointer (some ⟨B, 0, none⟩)] w fun e w' => e = .returned (.bool (dotsB a b F 64)) ∧ w = w' := by
  have c0 : w.cell? ⟨B, 0, none⟩ = some (.int .i8 a) := (cell_of_row w B 0 _ _ _ hB).trans (row_g0 _ _ _ _)
  have c1 : w.cell? ⟨B, 1, none⟩ = some (.int .i8 b) := (cell_of_row w B 1 _ _ _ hB).trans (row_g1 _ _ _ _ _)
  have HB := Lib.hid hB
  clear hB
  go_enter Tryd.func38, Tryd.ntmps38
  go_wp2_with (first | (go_at_call 72; (with_reducible refine (hIs _ (by assumption) (by assumption)).mono ?_); rintro e w' ⟨rfl, rfl⟩) | (go_at_call 49; (with_reducible refine (specPart_any _ _).mono ?_); rintro e w' ⟨rfl, rfl⟩) | (go_at_call 48; (with_reducible refine (specIn_yes (by omega) (by omega) _).mono ?_); rintro e w' ⟨rfl, rfl⟩) | go_in)
  · skip
    go_loop [3] (fun i => ∃ k : Nat, k ≤ 64 ∧ i = .int .i64 k ∧ dotsB a b F k = true) (fun i => 64 - (intOf i).toNat)
    case atStart => exact ⟨0, by omega, rfl, rfl⟩
    case round =>
      obtain ⟨k, hk, rfl, hc⟩ := hrel
      have HC := Lib.hid hc
      clear hc
      by_cases hlt : k < 64
      · have cf : w.cell? ⟨B, 2 + k, none⟩ = some (.float .f32 (F k)) := (cell_of_row w B (2 + k) _ _ _ HB.out).trans (row_k2 _ _ _ _ hlt)
        cases hr : isC a b k
        · cases hz : zeroB (F k)
          · obtain ⟨z1, z2⟩ := zero_no hz
            have HZ := Lib.hid hz
            have HR := Lib.hid hr
            have hIs : ∀ w : World, w.cell? ⟨B, 0, none⟩ = some (.int .i8 a) → w.cell? ⟨B, 1, none⟩ = some (.int .i8 b) → Calls Tryd.prog 72 #[.pointer (some ⟨B, 0, none⟩), .int .i64 k] w fun e w' => e = .returned (.bool false) ∧ w = w' := fun w c0 c1 => by have := specIs_any ha hb hlt w B c0 c1; rwa [HR.out] at this
            clear hz hr
            go_wp2_with (first | (go_at_call 72; (with_reducible refine (hIs _ (by assumption) (by assumption)).mono ?_); rintro e w' ⟨rfl, rfl⟩) | (go_at_call 49; (with_reducible refine (specPart_any _ _).mono ?_); rintro e w' ⟨rfl, rfl⟩) | (go_at_call 48; (with_reducible refine (specIn_yes (by omega) (by omega) _).mono ?_); rintro e w' ⟨rfl, rfl⟩) | go_in)
            go_ret
            exact ⟨by rw [dotsB_no hlt (by simp [dotB, HR.out, HZ.out])]; rfl, rfl⟩
          · have z1 := zero_yes hz
            have HZ := Lib.hid hz
            have HR := Lib.hid hr
            have hIs : ∀ w : World, w.cell? ⟨B, 0, none⟩ = some (.int .i8 a) → w.cell? ⟨B, 1, none⟩ = some (.int .i8 b) → Calls Tryd.prog 72 #[.pointer (some ⟨B, 0, none⟩), .int .i64 k] w fun e w' => e = .returned (.bool false) ∧ w = w' := fun w c0 c1 => by have := specIs_any ha hb hlt w B c0 c1; rwa [HR.out] at this
            clear hz hr
            go_wp2_with (first | (go_at_call 72; (with_reducible refine (hIs _ (by assumption) (by assumption)).mono ?_); rintro e w' ⟨rfl, rfl⟩) | (go_at_call 49; (with_reducible refine (specPart_any _ _).mono ?_); rintro e w' ⟨rfl, rfl⟩) | (go_at_call 48; (with_reducible refine (specIn_yes (by omega) (by omega) _).mono ?_); rintro e w' ⟨rfl, rfl⟩) | go_in)
            go_round
            case rel => exact ⟨k + 1, by omega, by go_num, by simp [dotsB, dotB, HC.out, HR.out, HZ.out]⟩
            case measure => simp [intOf]; omega
        · cases hf : partB (F k)
          · have HR := Lib.hid hr
            have hIs : ∀ w : World, w.cell? ⟨B, 0, none⟩ = some (.int .i8 a) → w.cell? ⟨B, 1, none⟩ = some (.int .i8 b) → Calls Tryd.prog 72 #[.pointer (some ⟨B, 0, none⟩), .int .i64 k] w fun e w' => e = .returned (.bool true) ∧ w = w' := fun w c0 c1 => by have := specIs_any ha hb hlt w B c0 c1; rwa [HR.out] at this
            clear hr
            go_wp2_with (first | (go_at_call 72; (with_reducible refine (hIs _ (by assumption) (by assumption)).mono ?_); rintro e w' ⟨rfl, rfl⟩) | (go_at_call 49; (with_reducible refine (specPart_any _ _).mono ?_); rintro e w' ⟨rfl, rfl⟩) | (go_at_call 48; (with_reducible refine (specIn_yes (by omega) (by omega) _).mono ?_); rintro e w' ⟨rfl, rfl⟩) | go_in)
            go_ret
            exact ⟨by rw [dotsB_no hlt (by simp [dotB, HR.out, hf])]; rfl, rfl⟩
          · have HR := Lib.hid hr
            have hIs : ∀ w : World, w.cell? ⟨B, 0, none⟩ = some (.int .i8 a) → w.cell? ⟨B, 1, none⟩ = some (.int .i8 b) → Calls Tryd.prog 72 #[.pointer (some ⟨B, 0, none⟩), .int .i64 k] w fun e w' => e = .returned (.bool true) ∧ w = w' := fun w c0 c1 => by have := specIs_any ha hb hlt w B c0 c1; rwa [HR.out] at this
            clear hr
            go_wp2_with (first | (go_at_call 72; (with_reducible refine (hIs _ (by assumption) (by assumption)).mono ?_); rintro e w' ⟨rfl, rfl⟩) | (go_at_call 49; (with_reducible refine (specPart_any _ _).mono ?_); rintro e w' ⟨rfl, rfl⟩) | (go_at_call 48; (with_reducible refine (specIn_yes (by omega) (by omega) _).mono ?_); rintro e w' ⟨rfl, rfl⟩) | go_in)
            go_round
            case rel => exact ⟨k + 1, by omega, by go_num, by simp [dotsB, dotB, HC.out, HR.out, hf]⟩
            case measure => simp [intOf]; omega
      · obtain rfl : k = 64 := by omega
        go_wp2
        go_ret
        exact ⟨by rw [HC.out]; rfl, rfl⟩

set_option maxHeartbeats 1600000 in
theorem specPOk_any (x y : Int) (F : Nat → Nat) (w : World) (lx : -128 ≤ x) (ux : x ≤ 127) (ly : -128 ≤ y) (uy : y ≤ 127) (B : Nat) (hB : w.heap[B]? = some (.cells (plate x y F) 39 (0, 0))) : Calls Tryd.prog 38 #[.pointer (some ⟨B, 0, none⟩)] w fun e w' => e = .returned (.bool (plateB x y F)) ∧ w = w' := by
  by_cases h1 : 1 ≤ x ∧ x ≤ 8
  · by_cases h2 : 1 ≤ y ∧ y ≤ 8
    · obtain ⟨a, rfl⟩ : ∃ a : Nat, x = a := ⟨x.toNat, by omega⟩
      obtain ⟨b, rfl⟩ : ∃ b : Nat, y = b := ⟨y.toNat, by omega⟩
      have := specPOk0 a b F w (by omega) (by omega) (by omega) (by omega) B hB
      have e : plateB a b F = dotsB a b F 64 := by unfold plateB; rw [sizeB_iff.2 ⟨h1, h2⟩]; simp
      rwa [e]
    · have hS : plateB x y F = false := by unfold plateB; rw [show sizeB x y = false from by cases h : sizeB x y; rfl; exact absurd (sizeB_iff.1 h).2 h2]; rfl
      rw [hS]
      clear hS
      have c0 : w.cell? ⟨B, 0, none⟩ = some (.int .i8 x) := (cell_of_row w B 0 _ _ _ hB).trans (row_g0 _ _ _ _)
      have c1 : w.cell? ⟨B, 1, none⟩ = some (.int .i8 y) := (cell_of_row w B 1 _ _ _ hB).trans (row_g1 _ _ _ _ _)
      obtain ⟨x1, x2⟩ := h1
      clear hB
      by_cases hy : 1 ≤ y
      · have hy2 : 8 < y := by omega
        clear h2
        go_enter Tryd.func38, Tryd.ntmps38
        go_wp2_with (first | (go_at_call 48; (with_reducible refine (specIn_yes (by omega) (by omega) _).mono ?_); rintro e w' ⟨rfl, rfl⟩) | (go_at_call 48; (with_reducible refine (specIn_hi (by omega) (by omega) _).mono ?_); rintro e w' ⟨rfl, rfl⟩) | go_in)
        go_ret
        exact ⟨rfl, rfl⟩
      · have hy2 : y < 1 := by omega
        clear h2
        go_enter Tryd.func38, Tryd.ntmps38
        go_wp2_with (first | (go_at_call 48; (with_reducible refine (specIn_yes (by omega) (by omega) _).mono ?_); rintro e w' ⟨rfl, rfl⟩) | (go_at_call 48; (with_reducible refine (specIn_lo (by omega) _).mono ?_); rintro e w' ⟨rfl, rfl⟩) | go_in)
        go_ret
        exact ⟨rfl, rfl⟩
  · have hS : plateB x y F = false := by unfold plateB; rw [show sizeB x y = false from by cases h : sizeB x y; rfl; exact absurd (sizeB_iff.1 h).1 h1]; rfl
    rw [hS]
    clear hS
    have c0 : w.cell? ⟨B, 0, none⟩ = some (.int .i8 x) := (cell_of_row w B 0 _ _ _ hB).trans (row_g0 _ _ _ _)
    clear hB
    by_cases hy : 1 ≤ x
    · have hy2 : 8 < x := by omega
      clear h1
      go_enter Tryd.func38, Tryd.ntmps38
      go_wp2_with (first | (go_at_call 48; (with_reducible refine (specIn_hi (by omega) (by omega) _).mono ?_); rintro e w' ⟨rfl, rfl⟩) | go_in)
      go_ret
      exact ⟨rfl, rfl⟩
    · have hy2 : x < 1 := by omega
      clear h1
      go_enter Tryd.func38, Tryd.ntmps38
      go_wp2_with (first | (go_at_call 48; (with_reducible refine (specIn_lo (by omega) _).mono ?_); rintro e w' ⟨rfl, rfl⟩) | go_in)
      go_ret
      exact ⟨rfl, rfl⟩

set_option maxHeartbeats 1600000 in
theorem implPOk0 (a b : Nat) (F : Nat → Nat) (w0 : World) (ha1 : 1 ≤ a) (ha : a < 9) (hb1 : 1 ≤ b) (hb : b < 9) : Calls Tryd.prog 42 #[.agg (plate a b F)] w0 fun e w' => e = .returned (.bool (dotsB a b F 64)) ∧ Below w0.heap.size w0 w' := by
  go_enter Tryd.func42, Tryd.ntmps42
  go_wp2_with (first | (go_at_call 73; (with_reducible refine (hIs _ ?_ ?_).mono ?_); (focus (go_simp)); (focus (go_simp)); rintro e w' ⟨rfl, rfl⟩) | (go_at_call 74; (with_reducible refine (implPart_any _ _).mono ?_); rintro e w' ⟨rfl, rfl⟩) | ((with_reducible refine at_load 37 ?_); refine wpList_load_part rfl 37 _ rfl _ 2 64 rfl _ _ _ _ (by repeat (first | (with_reducible assumption) | ((with_reducible refine blk_new _ _ _ ?_); focus (simp; done)) | ((with_reducible refine blk_old _ _ _ ?_ ?_); focus (simp; done)) | ((with_reducible refine blk_old _ _ _ ?_ ?_); focus (first | omega | (simp; omega))) | ((with_reducible apply blk_set); focus (simp; done)) | ((with_reducible refine blk_off _ _ _ _ ?_ ?_); focus (simp; done)) | ((with_reducible refine blk_offc _ _ _ _ ?_ ?_); focus (first | (simp; done) | omega | (simp; omega))) | ((with_reducible refine blk_off _ _ _ _ ?_ ?_); focus (first | omega | (simp; omega))) | (with_reducible refine blk_drew _ _ ?_) | ((with_reducible refine blk_below (by assumption) ?_ ?_); focus (simp; done)) | ((with_reducible refine blk_below (by assumption) ?_ ?_); focus (first | omega | (simp; omega))))) Tryd.underlying37 rfl (by kernel_rfl) (by simp [row_size]) _ (row_tail [_, _] 64 _) ?_) | go_in)
  · skip
    go_loop [25] (fun i => ∃ k : Nat, k ≤ 64 ∧ i = .int .i64 k ∧ dotsB a b F k = true) (fun i => 64 - (intOf i).toNat)
    case atStart => exact ⟨0, by omega, rfl, rfl⟩
    case round =>
      obtain ⟨k, hk, rfl, hc⟩ := hrel
      have HC := Lib.hid hc
      clear hc
      by_cases hlt : k < 64
      · have ix := fun w => run_index_row (P := Tryd.prog) w 37 22 64 F k hlt Tryd.underlying37 Tryd.underlying22 (by kernel_rfl)
        have k0 : (0 : Int) ≤ k := by omega
        cases hr : isC a b k
        · cases hz : zeroB (F k)
          · obtain ⟨z1, z2⟩ := zero_no hz
            have HZ := Lib.hid hz
            have HR := Lib.hid hr
            have hIs : ∀ w : World, w.cell? ⟨w0.heap.size, 0, none⟩ = some (.int .i8 a) → w.cell? ⟨w0.heap.size, 1, none⟩ = some (.int .i8 b) → Calls Tryd.prog 73 #[.pointer (some ⟨w0.heap.size, 0, none⟩), .int .i64 ((k : Int) % 8), .int .i64 ((k : Int) / 8)] w fun e w' => e = .returned (.bool false) ∧ w = w' := fun w c0 c1 => by have := implIs_any ((k : Int) % 8) ((k : Int) / 8) a b ha hb w w0.heap.size c0 c1; rwa [show inXY ((k : Int) % 8) ((k : Int) / 8) a b = false from by have := HR.out; first | (rw [isC_no] at this; unfold inXY; simp; omega) | (rw [isC_iff] at this; unfold inXY; simp; omega)] at this
            clear hz hr
            go_wp2_with (first | (go_at_call 73; (with_reducible refine (hIs _ ?_ ?_).mono ?_); (focus (go_simp)); (focus (go_simp)); rintro e w' ⟨rfl, rfl⟩) | (go_at_call 74; (with_reducible refine (implPart_any _ _).mono ?_); rintro e w' ⟨rfl, rfl⟩) | ((with_reducible refine at_load 37 ?_); refine wpList_load_part rfl 37 _ rfl _ 2 64 rfl _ _ _ _ (by repeat (first | (with_reducible assumption) | ((with_reducible refine blk_new _ _ _ ?_); focus (simp; done)) | ((with_reducible refine blk_old _ _ _ ?_ ?_); focus (simp; done)) | ((with_reducible refine blk_old _ _ _ ?_ ?_); focus (first | omega | (simp; omega))) | ((with_reducible apply blk_set); focus (simp; done)) | ((with_reducible refine blk_off _ _ _ _ ?_ ?_); focus (simp; done)) | ((with_reducible refine blk_offc _ _ _ _ ?_ ?_); focus (first | (simp; done) | omega | (simp; omega))) | ((with_reducible refine blk_off _ _ _ _ ?_ ?_); focus (first | omega | (simp; omega))) | (with_reducible refine blk_drew _ _ ?_) | ((with_reducible refine blk_below (by assumption) ?_ ?_); focus (simp; done)) | ((with_reducible refine blk_below (by assumption) ?_ ?_); focus (first | omega | (simp; omega))))) Tryd.underlying37 rfl (by kernel_rfl) (by simp [row_size]) _ (row_tail [_, _] 64 _) ?_) | go_in)
            go_ret
            exact ⟨by rw [dotsB_no hlt (by simp [dotB, HR.out, HZ.out])]; rfl, (by repeat (first | (with_reducible assumption) | (with_reducible exact Below.refl _ _) | ((with_reducible refine bel_alloc _ ?_ ?_); focus (first | omega | (simp; done) | (simp; omega))) | ((with_reducible refine bel_row _ ?_ ?_); focus (first | omega | (simp; done) | (simp; omega))) | ((with_reducible refine bel_cell _ ?_ ?_); focus (first | omega | (simp; done) | (simp; omega))) | (with_reducible refine Below.drew ?_) | (with_reducible refine below_wideW _ ?_) | ((with_reducible refine bel_next (by assumption) ?_ ?_); focus (first | omega | (simp; done) | (simp; omega)))))⟩
          · have z1 := zero_yes hz
            have HZ := Lib.hid hz
            have HR := Lib.hid hr
            have hIs : ∀ w : World, w.cell? ⟨w0.heap.size, 0, none⟩ = some (.int .i8 a) → w.cell? ⟨w0.heap.size, 1, none⟩ = some (.int .i8 b) → Calls Tryd.prog 73 #[.pointer (some ⟨w0.heap.size, 0, none⟩), .int .i64 ((k : Int) % 8), .int .i64 ((k : Int) / 8)] w fun e w' => e = .returned (.bool false) ∧ w = w' := fun w c0 c1 => by have := implIs_any ((k : Int) % 8) ((k : Int) / 8) a b ha hb w w0.heap.size c0 c1; rwa [show inXY ((k : Int) % 8) ((k : Int) / 8) a b = false from by have := HR.out; first | (rw [isC_no] at this; unfold inXY; simp; omega) | (rw [isC_iff] at this; unfold inXY; simp; omega)] at this
            clear hz hr
            go_wp2_with (first | (go_at_call 73; (with_reducible refine (hIs _ ?_ ?_).mono ?_); (focus (go_simp)); (focus (go_simp)); rintro e w' ⟨rfl, rfl⟩) | (go_at_call 74; (with_reducible refine (implPart_any _ _).mono ?_); rintro e w' ⟨rfl, rfl⟩) | ((with_reducible refine at_load 37 ?_); refine wpList_load_part rfl 37 _ rfl _ 2 64 rfl _ _ _ _ (by repeat (first | (with_reducible assumption) | ((with_reducible refine blk_new _ _ _ ?_); focus (simp; done)) | ((with_reducible refine blk_old _ _ _ ?_ ?_); focus (simp; done)) | ((with_reducible refine blk_old _ _ _ ?_ ?_); focus (first | omega | (simp; omega))) | ((with_reducible apply blk_set); focus (simp; done)) | ((with_reducible refine blk_off _ _ _ _ ?_ ?_); focus (simp; done)) | ((with_reducible refine blk_offc _ _ _ _ ?_ ?_); focus (first | (simp; done) | omega | (simp; omega))) | ((with_reducible refine blk_off _ _ _ _ ?_ ?_); focus (first | omega | (simp; omega))) | (with_reducible refine blk_drew _ _ ?_) | ((with_reducible refine blk_below (by assumption) ?_ ?_); focus (simp; done)) | ((with_reducible refine blk_below (by assumption) ?_ ?_); focus (first | omega | (simp; omega))))) Tryd.underlying37 rfl (by kernel_rfl) (by simp [row_size]) _ (row_tail [_, _] 64 _) ?_) | go_in)
            go_round
            case rel => exact ⟨k + 1, by omega, by go_num, by simp [dotsB, dotB, HC.out, HR.out, HZ.out]⟩
            case measure => simp [intOf]; omega
        · cases hf : partB (F k)
          · have HR := Lib.hid hr
            have hIs : ∀ w : World, w.cell? ⟨w0.heap.size, 0, none⟩ = some (.int .i8 a) → w.cell? ⟨w0.heap.size, 1, none⟩ = some (.int .i8 b) → Calls Tryd.prog 73 #[.pointer (some ⟨w0.heap.size, 0, none⟩), .int .i64 ((k : Int) % 8), .int .i64 ((k : Int) / 8)] w fun e w' => e = .returned (.bool true) ∧ w = w' := fun w c0 c1 => by have := implIs_any ((k : Int) % 8) ((k : Int) / 8) a b ha hb w w0.heap.size c0 c1; rwa [show inXY ((k : Int) % 8) ((k : Int) / 8) a b = true from by have := HR.out; first | (rw [isC_no] at this; unfold inXY; simp; omega) | (rw [isC_iff] at this; unfold inXY; simp; omega)] at this
            clear hr
            go_wp2_with (first | (go_at_call 73; (with_reducible refine (hIs _ ?_ ?_).mono ?_); (focus (go_simp)); (focus (go_simp)); rintro e w' ⟨rfl, rfl⟩) | (go_at_call 74; (with_reducible refine (implPart_any _ _).mono ?_); rintro e w' ⟨rfl, rfl⟩) | ((with_reducible refine at_load 37 ?_); refine wpList_load_part rfl 37 _ rfl _ 2 64 rfl _ _ _ _ (by repeat (first | (with_reducible assumption) | ((with_reducible refine blk_new _ _ _ ?_); focus (simp; done)) | ((with_reducible refine blk_old _ _ _ ?_ ?_); focus (simp; done)) | ((with_reducible refine blk_old _ _ _ ?_ ?_); focus (first | omega | (simp; omega))) | ((with_reducible apply blk_set); focus (simp; done)) | ((with_reducible refine blk_off _ _ _ _ ?_ ?_); focus (simp; done)) | ((with_reducible refine blk_offc _ _ _ _ ?_ ?_); focus (first | (simp; done) | omega | (simp; omega))) | ((with_reducible refine blk_off _ _ _ _ ?_ ?_); focus (first | omega | (simp; omega))) | (with_reducible refine blk_drew _ _ ?_) | ((with_reducible refine blk_below (by assumption) ?_ ?_); focus (simp; done)) | ((with_reducible refine blk_below (by assumption) ?_ ?_); focus (first | omega | (simp; omega))))) Tryd.underlying37 rfl (by kernel_rfl) (by simp [row_size]) _ (row_tail [_, _] 64 _) ?_) | go_in)
            go_ret
            exact ⟨by rw [dotsB_no hlt (by simp [dotB, HR.out, hf])]; rfl, (by repeat (first | (with_reducible assumption) | (with_reducible exact Below.refl _ _) | ((with_reducible refine bel_alloc _ ?_ ?_); focus (first | omega | (simp; done) | (simp; omega))) | ((with_reducible refine bel_row _ ?_ ?_); focus (first | omega | (simp; done) | (simp; omega))) | ((with_reducible refine bel_cell _ ?_ ?_); focus (first | omega | (simp; done) | (simp; omega))) | (with_reducible refine Below.drew ?_) | (with_reducible refine below_wideW _ ?_) | ((with_reducible refine bel_next (by assumption) ?_ ?_); focus (first | omega | (simp; done) | (simp; omega)))))⟩
          · have HR := Lib.hid hr
            have hIs : ∀ w : World, w.cell? ⟨w0.heap.size, 0, none⟩ = some (.int .i8 a) → w.cell? ⟨w0.heap.size, 1, none⟩ = some (.int .i8 b) → Calls Tryd.prog 73 #[.pointer (some ⟨w0.heap.size, 0, none⟩), .int .i64 ((k : Int) % 8), .int .i64 ((k : Int) / 8)] w fun e w' => e = .returned (.bool true) ∧ w = w' := fun w c0 c1 => by have := implIs_any ((k : Int) % 8) ((k : Int) / 8) a b ha hb w w0.heap.size c0 c1; rwa [show inXY ((k : Int) % 8) ((k : Int) / 8) a b = true from by have := HR.out; first | (rw [isC_no] at this; unfold inXY; simp; omega) | (rw [isC_iff] at this; unfold inXY; simp; omega)] at this
            clear hr
            go_wp2_with (first | (go_at_call 73; (with_reducible refine (hIs _ ?_ ?_).mono ?_); (focus (go_simp)); (focus (go_simp)); rintro e w' ⟨rfl, rfl⟩) | (go_at_call 74; (with_reducible refine (implPart_any _ _).mono ?_); rintro e w' ⟨rfl, rfl⟩) | ((with_reducible refine at_load 37 ?_); refine wpList_load_part rfl 37 _ rfl _ 2 64 rfl _ _ _ _ (by repeat (first | (with_reducible assumption) | ((with_reducible refine blk_new _ _ _ ?_); focus (simp; done)) | ((with_reducible refine blk_old _ _ _ ?_ ?_); focus (simp; done)) | ((with_reducible refine blk_old _ _ _ ?_ ?_); focus (first | omega | (simp; omega))) | ((with_reducible apply blk_set); focus (simp; done)) | ((with_reducible refine blk_off _ _ _ _ ?_ ?_); focus (simp; done)) | ((with_reducible refine blk_offc _ _ _ _ ?_ ?_); focus (first | (simp; done) | omega | (simp; omega))) | ((with_reducible refine blk_off _ _ _ _ ?_ ?_); focus (first | omega | (simp; omega))) | (with_reducible refine blk_drew _ _ ?_) | ((with_reducible refine blk_below (by assumption) ?_ ?_); focus (simp; done)) | ((with_reducible refine blk_below (by assumption) ?_ ?_); focus (first | omega | (simp; omega))))) Tryd.underlying37 rfl (by kernel_rfl) (by simp [row_size]) _ (row_tail [_, _] 64 _) ?_) | go_in)
            go_round
            case rel => exact ⟨k + 1, by omega, by go_num, by simp [dotsB, dotB, HC.out, HR.out, hf]⟩
            case measure => simp [intOf]; omega
      · obtain rfl : k = 64 := by omega
        go_wp2
        go_ret
        exact ⟨by rw [HC.out]; rfl, (by repeat (first | (with_reducible assumption) | (with_reducible exact Below.refl _ _) | ((with_reducible refine bel_alloc _ ?_ ?_); focus (first | omega | (simp; done) | (simp; omega))) | ((with_reducible refine bel_row _ ?_ ?_); focus (first | omega | (simp; done) | (simp; omega))) | ((with_reducible refine bel_cell _ ?_ ?_); focus (first | omega | (simp; done) | (simp; omega))) | (with_reducible refine Below.drew ?_) | (with_reducible refine below_wideW _ ?_) | ((with_reducible refine bel_next (by assumption) ?_ ?_); focus (first | omega | (simp; done) | (simp; omega)))))⟩

set_option maxHeartbeats 1600000 in
theorem implPOk_any (x y : Int) (F : Nat → Nat) (w : World) (lx : -128 ≤ x) (ux : x ≤ 127) (ly : -128 ≤ y) (uy : y ≤ 127) : Calls Tryd.prog 42 #[.agg (plate x y F)] w fun e w' => e = .returned (.bool (plateB x y F)) ∧ Below w.heap.size w w' := by
  by_cases h1 : 1 ≤ x ∧ x ≤ 8
  · by_cases h2 : 1 ≤ y ∧ y ≤ 8
    · obtain ⟨a, rfl⟩ : ∃ a : Nat, x = a := ⟨x.toNat, by omega⟩
      obtain ⟨b, rfl⟩ : ∃ b : Nat, y = b := ⟨y.toNat, by omega⟩
      have := implPOk0 a b F w (by omega) (by omega) (by omega) (by omega)
      have e : plateB a b F = dotsB a b F 64 := by unfold plateB; rw [sizeB_iff.2 ⟨h1, h2⟩]; simp
      rwa [e]
    · have hS : plateB x y F = false := by unfold plateB; rw [show sizeB x y = false from by cases h : sizeB x y; rfl; exact absurd (sizeB_iff.1 h).2 h2]; rfl
      rw [hS]
      clear hS
      obtain ⟨x1, x2⟩ := h1
      by_cases hy : 1 ≤ y
      · have hy2 : 8 < y := by omega
        clear h2
        go_enter Tryd.func42, Tryd.ntmps42
        go_wp2
        go_ret
        exact ⟨rfl, (by repeat (first | (with_reducible assumption) | (with_reducible exact Below.refl _ _) | ((with_reducible refine bel_alloc _ ?_ ?_); focus (first | omega | (simp; done) | (simp; omega))) | ((with_reducible refine bel_row _ ?_ ?_); focus (first | omega | (simp; done) | (simp; omega))) | ((with_reducible refine bel_cell _ ?_ ?_); focus (first | omega | (simp; done) | (simp; omega))) | (with_reducible refine Below.drew ?_) | (with_reducible refine below_wideW _ ?_) | ((with_reducible refine bel_next (by assumption) ?_ ?_); focus (first | omega | (simp; done) | (simp; omega)))))⟩
      · have hy2 : y < 1 := by omega
        clear h2 hy
        go_enter Tryd.func42, Tryd.ntmps42
        go_wp2
        go_ret
        exact ⟨rfl, (by repeat (first | (with_reducible assumption) | (with_reducible exact Below.refl _ _) | ((with_reducible refine bel_alloc _ ?_ ?_); focus (first | omega | (simp; done) | (simp; omega))) | ((with_reducible refine bel_row _ ?_ ?_); focus (first | omega | (simp; done) | (simp; omega))) | ((with_reducible refine bel_cell _ ?_ ?_); focus (first | omega | (simp; done) | (simp; omega))) | (with_reducible refine Below.drew ?_) | (with_reducible refine below_wideW _ ?_) | ((with_reducible refine bel_next (by assumption) ?_ ?_); focus (first | omega | (simp; done) | (simp; omega)))))⟩
  · have hS : plateB x y F = false := by unfold plateB; rw [show sizeB x y = false from by cases h : sizeB x y; rfl; exact absurd (sizeB_iff.1 h).1 h1]; rfl
    rw [hS]
    clear hS
    by_cases hy : 1 ≤ x
    · have hy2 : 8 < x := by omega
      clear h1
      go_enter Tryd.func42, Tryd.ntmps42
      go_wp2
      go_ret
      exact ⟨rfl, (by repeat (first | (with_reducible assumption) | (with_reducible exact Below.refl _ _) | ((with_reducible refine bel_alloc _ ?_ ?_); focus (first | omega | (simp; done) | (simp; omega))) | ((with_reducible refine bel_row _ ?_ ?_); focus (first | omega | (simp; done) | (simp; omega))) | ((with_reducible refine bel_cell _ ?_ ?_); focus (first | omega | (simp; done) | (simp; omega))) | (with_reducible refine Below.drew ?_) | (with_reducible refine below_wideW _ ?_) | ((with_reducible refine bel_next (by assumption) ?_ ?_); focus (first | omega | (simp; done) | (simp; omega)))))⟩
    · have hy2 : x < 1 := by omega
      clear h1 hy
      go_enter Tryd.func42, Tryd.ntmps42
      go_wp2
      go_ret
      exact ⟨rfl, (by repeat (first | (with_reducible assumption) | (with_reducible exact Below.refl _ _) | ((with_reducible refine bel_alloc _ ?_ ?_); focus (first | omega | (simp; done) | (simp; omega))) | ((with_reducible refine bel_row _ ?_ ?_); focus (first | omega | (simp; done) | (simp; omega))) | ((with_reducible refine bel_cell _ ?_ ?_); focus (first | omega | (simp; done) | (simp; omega))) | (with_reducible refine Below.drew ?_) | (with_reducible refine below_wideW _ ?_) | ((with_reducible refine bel_next (by assumption) ?_ ?_); focus (first | omega | (simp; done) | (simp; omega)))))⟩
end Go.Proofs.YtckcngmbbnilnaaDoor
