/- The contracts of GainDot and LoseGain, as the program and the reference have them. -/
import Derived.Test.YtjlbnlghpecanaaBGain
set_option linter.unusedVariables false
set_option linter.unusedSimpArgs false
namespace Go.Proofs.Ytjlbnlghpecanaa
open Go.RowKit Ieee

def gainR (d g : Nat) : Nat := if partB d && gainB g then gained d g else 0
theorem gainR_num (d g : Nat) : ¬ Flt.NaN single (gainR d g) := by
  unfold gainR
  split
  · rename_i h; rw [Bool.and_eq_true] at h; exact fin_nan (part_fin (part_gained h.1 h.2))
  · decide

theorem specGainDot_any (d g : Nat) (w : World) : Calls Try.prog 23 #[.float .f32 d, .float .f32 g] w fun e w' => e = .returned (.tuple #[.float .f32 (gainR d g), .int .i64 (okC (partB d && gainB g))]) ∧ Below w.heap.size w w' := by
  unfold gainR
  cases hd : partB d
  · go_enter Try.func23, Try.ntmps23
    go_wp2_with (first | (go_at_call 42; refine (specPart_any _ _).mono ?_; rintro e w' ⟨rfl, rfl⟩) | (go_at_call 49; refine (specGain_any _ _).mono ?_; rintro e w' ⟨rfl, rfl⟩))
    go_ret2
    exact ⟨rfl, Below.refl _ _⟩
  · cases hg : gainB g
    · go_enter Try.func23, Try.ntmps23
      go_wp2_with (first | (go_at_call 42; refine (specPart_any _ _).mono ?_; rintro e w' ⟨rfl, rfl⟩) | (go_at_call 49; refine (specGain_any _ _).mono ?_; rintro e w' ⟨rfl, rfl⟩))
      go_ret2
      exact ⟨rfl, Below.refl _ _⟩
    · go_enter Try.func23, Try.ntmps23
      go_wp2_with (first | (go_at_call 42; refine (specPart_any _ _).mono ?_; rintro e w' ⟨rfl, rfl⟩) | (go_at_call 49; refine (specGain_any _ _).mono ?_; rintro e w' ⟨rfl, rfl⟩) | (go_at_call 50; refine (specGained_any _ _ _ hd hg).mono ?_; rintro e w' ⟨rfl, rfl⟩))
      go_ret2
      exact ⟨rfl, Below.refl _ _⟩

theorem implGainDot_any (d g : Nat) (w : World) : Calls Try.prog 24 #[.float .f32 d, .float .f32 g] w fun e w' => e = .returned (.tuple #[.float .f32 (gainR d g), .int .i64 (okC (partB d && gainB g))]) ∧ Below w.heap.size w w' := by
  unfold gainR
  cases hd : partB d
  · go_enter Try.func24, Try.ntmps24
    go_wp2_with (first | (go_at_call 51; refine (implPart_any _ _).mono ?_; rintro e w' ⟨rfl, rfl⟩) | (go_at_call 52; refine (implGain_any _ _).mono ?_; rintro e w' ⟨rfl, rfl⟩))
    go_ret2
    exact ⟨rfl, Below.refl _ _⟩
  · cases hg : gainB g
    · go_enter Try.func24, Try.ntmps24
      go_wp2_with (first | (go_at_call 51; refine (implPart_any _ _).mono ?_; rintro e w' ⟨rfl, rfl⟩) | (go_at_call 52; refine (implGain_any _ _).mono ?_; rintro e w' ⟨rfl, rfl⟩))
      go_ret2
      exact ⟨rfl, Below.refl _ _⟩
    · go_enter Try.func24, Try.ntmps24
      go_wp2_with (first | (go_at_call 51; refine (implPart_any _ _).mono ?_; rintro e w' ⟨rfl, rfl⟩) | (go_at_call 52; refine (implGain_any _ _).mono ?_; rintro e w' ⟨rfl, rfl⟩) | (go_at_call 53; refine (implGained_any _ _ _ hd hg).mono ?_; rintro e w' ⟨rfl, rfl⟩))
      go_ret2
      exact ⟨rfl, Below.refl _ _⟩

/-! ### taken back -/
def halfR (lo hi : Nat) : Nat := fdiv (fadd lo hi) 1073741824
def loseStep (dot g : Nat) (p : Nat × Nat) : Nat × Nat := if FloatKind.f32.format.order (gained (halfR p.1 p.2) g) dot == some .lt then (halfR p.1 p.2, p.2) else (p.1, halfR p.1 p.2)
def loseAt (dot g : Nat) : Nat → Nat × Nat
  | 0 => (0, 1065353216)
  | k + 1 => loseStep dot g (loseAt dot g k)
theorem part_sum {lo hi : Nat} (h1 : partB lo = true) (h2 : partB hi = true) : Fin32 (fadd lo hi) ∧ 0 ≤ Z32 (fadd lo hi) ∧ Z32 (fadd lo hi) ≤ 2 ^ 150 := by
  obtain ⟨_, a1, a2⟩ := (part_iff lo).1 h1
  obtain ⟨_, b1, b2⟩ := (part_iff hi).1 h2
  have fa := part_fin h1
  have fb := part_fin h2
  have c1 := fadd_ge fa fb (c := 0) (by decide) (by rw [Z_zero]; omega)
  have c2 := fadd_le fa fb (c := 1073741824) (by decide) (by rw [Z_two]; omega)
  rw [Z_zero] at c1
  rw [Z_two] at c2
  exact ⟨fin_of (num_fadd fa fb) (by omega) (by omega), c1, c2⟩
theorem part_half {lo hi : Nat} (h1 : partB lo = true) (h2 : partB hi = true) : partB (halfR lo hi) = true := by
  obtain ⟨f, c1, c2⟩ := part_sum h1 h2
  have two : Fin32 1073741824 := by decide
  have z2 : 0 < Z32 1073741824 := by rw [Z_two]; omega
  refine (part_iff _).2 ⟨num_fdiv f two (by omega), ?_, ?_⟩
  · have := fdiv_ge f two c1 z2 (c := 0) (by decide) (by rw [Z_zero]; omega) (by rw [Z_zero, Int.zero_mul]; omega)
    rwa [Z_zero] at this
  · have := fdiv_le f two c1 z2 (c := 1065353216) (by decide) (by rw [Z_one]; omega) (by rw [Z_one, Z_two]; omega)
    rwa [Z_one] at this
theorem part_lose (dot g : Nat) : ∀ k, partB (loseAt dot g k).1 = true ∧ partB (loseAt dot g k).2 = true
  | 0 => ⟨(by decide +kernel : partB 0 = true), (by decide +kernel : partB 1065353216 = true)⟩
  | k + 1 => by
    obtain ⟨h1, h2⟩ := part_lose dot g k
    have := part_half h1 h2
    unfold loseAt loseStep
    split
    · exact ⟨this, h2⟩
    · exact ⟨h1, this⟩
def loseR (d g : Nat) : Nat := if partB d && gainB g then (loseAt d g 24).2 else 0
theorem loseR_num (d g : Nat) : ¬ Flt.NaN single (loseR d g) := by
  unfold loseR
  split
  · exact fin_nan (part_fin (part_lose d g 24).2)
  · decide
theorem loseAt_lt {d g n lo hi : Nat} (e : loseAt d g n = (lo, hi)) (h : (FloatKind.f32.format.order (gained (halfR lo hi) g) d == some .lt) = true) : loseAt d g (n + 1) = (halfR lo hi, hi) := by
  show loseStep d g (loseAt d g n) = _
  rw [e]
  simp [loseStep, h]
theorem loseAt_ge {d g n lo hi : Nat} (e : loseAt d g n = (lo, hi)) (h : (FloatKind.f32.format.order (gained (halfR lo hi) g) d == some .lt) = false) : loseAt d g (n + 1) = (lo, halfR lo hi) := by
  show loseStep d g (loseAt d g n) = _
  rw [e]
  simp [loseStep, h]
theorem specLose_any (d g : Nat) (w : World) (hg : gainB g = true) : Calls Try.prog 59 #[.float .f32 d, .float .f32 g] w fun e w' => e = .returned (.float .f32 (loseAt d g 24).2) ∧ w = w' := by
  go_enter Try.func59, Try.ntmps59
  go_wp2
  go_loop [5, 6, 7] (fun lo hi i => ∃ n l h : Nat, n ≤ 24 ∧ i = .int .i64 n ∧ loseAt d g n = (l, h) ∧ lo = .float .f32 l ∧ hi = .float .f32 h) (fun _ _ i => 24 - (intOf i).toNat)
  case atStart => exact ⟨0, 0, 1065353216, by omega, rfl, rfl, rfl, rfl⟩
  case round =>
    obtain ⟨n, l, h, hn, rfl, he, rfl, rfl⟩ := hrel
    have hl : partB l = true := by have := (part_lose d g n).1; rwa [he] at this
    have hh : partB h = true := by have := (part_lose d g n).2; rwa [he] at this
    have HE := Lib.hid he
    clear he
    by_cases hlt : n < 24
    · have fs := (part_sum hl hh).1
      have hp := part_half hl hh
      have e1 := fun w => run_fadd (P := Try.prog) w 22 (part_fin hl) (part_fin hh)
      have e2 : ∀ w, (binOp .quo 22 (.float .f32 (fadd l h)) (.float .f32 1073741824)).run Try.prog w = .ok (.float .f32 (halfR l h)) w := fun w => run_fdiv (P := Try.prog) w 22 fs (by decide) (by rw [Z_two]; omega)
      cases ht : (FloatKind.f32.format.order (gained (halfR l h) g) d == some .lt)
      · go_wp2_with (go_at_call 50; refine (specGained_any _ _ _ hp hg).mono ?_; rintro e w' ⟨rfl, rfl⟩)
        go_round
        case rel => exact ⟨n + 1, l, halfR l h, by omega, by go_num, loseAt_ge HE.out ht, rfl, rfl⟩
        case measure => simp [intOf]; omega
      · go_wp2_with (go_at_call 50; refine (specGained_any _ _ _ hp hg).mono ?_; rintro e w' ⟨rfl, rfl⟩)
        go_round
        case rel => exact ⟨n + 1, halfR l h, h, by omega, by go_num, loseAt_lt HE.out ht, rfl, rfl⟩
        case measure => simp [intOf]; omega
    · obtain rfl : n = 24 := by omega
      go_wp2
      go_ret
      exact ⟨by rw [HE.out]; rfl, rfl⟩
theorem implLoseIn_any (d g : Nat) (w : World) (hd : partB d = true) (hg : gainB g = true) : Calls Try.prog 33 #[.float .f32 d, .float .f32 g] w fun e w' => e = .returned (.tuple #[.float .f32 (loseAt d g 24).2, .int .i64 0]) ∧ w = w' := by
  go_enter Try.func33, Try.ntmps33
  go_wp2_with (first | (go_at_call 51; refine (implPart_any _ _).mono ?_; rintro e w' ⟨rfl, rfl⟩) | (go_at_call 52; refine (implGain_any _ _).mono ?_; rintro e w' ⟨rfl, rfl⟩))
  go_loop [6, 7, 17] (fun lo hi i => ∃ n l h : Nat, n ≤ 24 ∧ i = .int .i64 n ∧ loseAt d g n = (l, h) ∧ lo = .float .f32 l ∧ hi = .float .f32 h) (fun _ _ i => 24 - (intOf i).toNat)
  case atStart => exact ⟨0, 0, 1065353216, by omega, rfl, rfl, rfl, rfl⟩
  case round =>
    obtain ⟨n, l, h, hn, rfl, he, rfl, rfl⟩ := hrel
    have hl : partB l = true := by have := (part_lose d g n).1; rwa [he] at this
    have hh : partB h = true := by have := (part_lose d g n).2; rwa [he] at this
    have HE := Lib.hid he
    clear he
    by_cases hlt : n < 24
    · have fs := (part_sum hl hh).1
      have hp := part_half hl hh
      have e1 := fun w => run_fadd (P := Try.prog) w 22 (part_fin hl) (part_fin hh)
      have e2 : ∀ w, (binOp .quo 22 (.float .f32 (fadd l h)) (.float .f32 1073741824)).run Try.prog w = .ok (.float .f32 (halfR l h)) w := fun w => run_fdiv (P := Try.prog) w 22 fs (by decide) (by rw [Z_two]; omega)
      cases ht : (FloatKind.f32.format.order (gained (halfR l h) g) d == some .lt)
      · go_wp2_with (go_at_call 53; refine (implGained_any _ _ _ hp hg).mono ?_; rintro e w' ⟨rfl, rfl⟩)
        go_round
        case rel => exact ⟨n + 1, l, halfR l h, by omega, by go_num, loseAt_ge HE.out ht, rfl, rfl⟩
        case measure => simp [intOf]; omega
      · go_wp2_with (go_at_call 53; refine (implGained_any _ _ _ hp hg).mono ?_; rintro e w' ⟨rfl, rfl⟩)
        go_round
        case rel => exact ⟨n + 1, halfR l h, h, by omega, by go_num, loseAt_lt HE.out ht, rfl, rfl⟩
        case measure => simp [intOf]; omega
    · obtain rfl : n = 24 := by omega
      go_wp2
      go_ret2
      exact ⟨by rw [HE.out]; rfl, rfl⟩
theorem implLoseGain_any (d g : Nat) (w : World) : Calls Try.prog 33 #[.float .f32 d, .float .f32 g] w fun e w' => e = .returned (.tuple #[.float .f32 (loseR d g), .int .i64 (okC (partB d && gainB g))]) ∧ Below w.heap.size w w' := by
  unfold loseR
  cases hd : partB d
  · go_enter Try.func33, Try.ntmps33
    go_wp2_with (first | (go_at_call 51; refine (implPart_any _ _).mono ?_; rintro e w' ⟨rfl, rfl⟩) | (go_at_call 52; refine (implGain_any _ _).mono ?_; rintro e w' ⟨rfl, rfl⟩))
    go_ret2
    exact ⟨rfl, Below.refl _ _⟩
  · cases hg : gainB g
    · go_enter Try.func33, Try.ntmps33
      go_wp2_with (first | (go_at_call 51; refine (implPart_any _ _).mono ?_; rintro e w' ⟨rfl, rfl⟩) | (go_at_call 52; refine (implGain_any _ _).mono ?_; rintro e w' ⟨rfl, rfl⟩))
      go_ret2
      exact ⟨rfl, Below.refl _ _⟩
    · refine (implLoseIn_any d g w hd hg).mono ?_
      rintro e w' ⟨rfl, rfl⟩
      exact ⟨rfl, Below.refl _ _⟩
theorem specLoseGain_any (d g : Nat) (w : World) : Calls Try.prog 32 #[.float .f32 d, .float .f32 g] w fun e w' => e = .returned (.tuple #[.float .f32 (loseR d g), .int .i64 (okC (partB d && gainB g))]) ∧ Below w.heap.size w w' := by
  unfold loseR
  cases hd : partB d
  · go_enter Try.func32, Try.ntmps32
    go_wp2_with (first | (go_at_call 42; refine (specPart_any _ _).mono ?_; rintro e w' ⟨rfl, rfl⟩) | (go_at_call 49; refine (specGain_any _ _).mono ?_; rintro e w' ⟨rfl, rfl⟩))
    go_ret2
    exact ⟨rfl, Below.refl _ _⟩
  · cases hg : gainB g
    · go_enter Try.func32, Try.ntmps32
      go_wp2_with (first | (go_at_call 42; refine (specPart_any _ _).mono ?_; rintro e w' ⟨rfl, rfl⟩) | (go_at_call 49; refine (specGain_any _ _).mono ?_; rintro e w' ⟨rfl, rfl⟩))
      go_ret2
      exact ⟨rfl, Below.refl _ _⟩
    · go_enter Try.func32, Try.ntmps32
      go_wp2_with (first | (go_at_call 42; refine (specPart_any _ _).mono ?_; rintro e w' ⟨rfl, rfl⟩) | (go_at_call 49; refine (specGain_any _ _).mono ?_; rintro e w' ⟨rfl, rfl⟩) | (go_at_call 59; refine (specLose_any _ _ _ hg).mono ?_; rintro e w' ⟨rfl, rfl⟩))
      go_ret2
      exact ⟨rfl, Below.refl _ _⟩

theorem exactLightOf_any (a b : Nat) (w : World) : Calls Try.prog 3 #[.float .f32 a, .float .f32 b] w fun e w' => e = .returned (.bool true) ∧ Below w.heap.size w w' := by
  have hc := fun w => run_wide (P := Try.prog) 22 26 (lightR a b) w (by kernel_rfl) (by kernel_rfl) (lightR_num a b)
  go_enter Try.func3, Try.ntmps3
  go_wp2_with fail
  refine (specLight_any a b _).mono ?_
  rintro e w1 ⟨rfl, hb1⟩
  go_wp2_with fail
  refine (implLight_any a b _).mono ?_
  rintro e w2 ⟨rfl, hb2⟩
  go_wp2_with (go_at_call 17; refine (sameFloat_self _ _ (Flt.widen_nan (lightR_num a b))).mono ?_; rintro e w' ⟨rfl, rfl⟩)
  go_ret
  exact ⟨rfl, hb1.trans (hb2.mono hb1.size)⟩

theorem exactDotFor_any (a b : Nat) (w : World) : Calls Try.prog 4 #[.float .f32 a, .float .f32 b] w fun e w' => e = .returned (.bool true) ∧ Below w.heap.size w w' := by
  have hc := fun w => run_wide (P := Try.prog) 22 26 (dotR a b) w (by kernel_rfl) (by kernel_rfl) (dotR_num a b)
  go_enter Try.func4, Try.ntmps4
  go_wp2_with fail
  refine (specDot_any a b _).mono ?_
  rintro e w1 ⟨rfl, hb1⟩
  go_wp2_with fail
  refine (implDot_any a b _).mono ?_
  rintro e w2 ⟨rfl, hb2⟩
  go_wp2_with (go_at_call 17; refine (sameFloat_self _ _ (Flt.widen_nan (dotR_num a b))).mono ?_; rintro e w' ⟨rfl, rfl⟩)
  go_ret
  exact ⟨rfl, hb1.trans (hb2.mono hb1.size)⟩

theorem exactGainDot_any (a b : Nat) (w : World) : Calls Try.prog 6 #[.float .f32 a, .float .f32 b] w fun e w' => e = .returned (.bool true) ∧ Below w.heap.size w w' := by
  have hc := fun w => run_wide (P := Try.prog) 22 26 (gainR a b) w (by kernel_rfl) (by kernel_rfl) (gainR_num a b)
  go_enter Try.func6, Try.ntmps6
  go_wp2_with fail
  refine (specGainDot_any a b _).mono ?_
  rintro e w1 ⟨rfl, hb1⟩
  go_wp2_with fail
  refine (implGainDot_any a b _).mono ?_
  rintro e w2 ⟨rfl, hb2⟩
  go_wp2_with (go_at_call 17; refine (sameFloat_self _ _ (Flt.widen_nan (gainR_num a b))).mono ?_; rintro e w' ⟨rfl, rfl⟩)
  go_ret
  exact ⟨rfl, hb1.trans (hb2.mono hb1.size)⟩

theorem exactLoseGain_any (a b : Nat) (w : World) : Calls Try.prog 10 #[.float .f32 a, .float .f32 b] w fun e w' => e = .returned (.bool true) ∧ Below w.heap.size w w' := by
  have hc := fun w => run_wide (P := Try.prog) 22 26 (loseR a b) w (by kernel_rfl) (by kernel_rfl) (loseR_num a b)
  go_enter Try.func10, Try.ntmps10
  go_wp2_with fail
  refine (specLoseGain_any a b _).mono ?_
  rintro e w1 ⟨rfl, hb1⟩
  go_wp2_with fail
  refine (implLoseGain_any a b _).mono ?_
  rintro e w2 ⟨rfl, hb2⟩
  go_wp2_with (go_at_call 17; refine (sameFloat_self _ _ (Flt.widen_nan (loseR_num a b))).mono ?_; rintro e w' ⟨rfl, rfl⟩)
  go_ret
  exact ⟨rfl, hb1.trans (hb2.mono hb1.size)⟩
end Go.Proofs.Ytjlbnlghpecanaa
