/- The contracts of the functions that take numbers alone: ranges, light, dots for light, gain. -/
import Derived.Test.YtjlbnlghpecanaaFOps
import Derived.Test.YtjlbnlghpecanaaFNum
set_option linter.unusedVariables false
set_option linter.unusedSimpArgs false
namespace Go.Proofs.Ytjlbnlghpecanaa
open Go.RowKit

section
variable (a : Nat) (w : World)
theorem specPart_any : Calls Try.prog 42 #[.float .f32 a] w fun e w' => e = .returned (.bool (partB a)) ∧ w = w' := by
  go_enter Try.func42, Try.ntmps42
  go_wp2
  · rename_i h; go_ret; exact ⟨by simp [partB, rangeB, h], rfl⟩
  · rename_i h; go_ret; exact ⟨by simp [partB, rangeB, not_or.1 h], rfl⟩
theorem implPart_any : Calls Try.prog 51 #[.float .f32 a] w fun e w' => e = .returned (.bool (partB a)) ∧ w = w' := by
  go_enter Try.func51, Try.ntmps51
  go_wp2
  · rename_i h; go_ret; exact ⟨by simp [partB, rangeB, h], rfl⟩
  · rename_i h; go_ret; exact ⟨by simp [partB, rangeB, not_or.1 h], rfl⟩
theorem specFilm_any : Calls Try.prog 60 #[.float .f32 a] w fun e w' => e = .returned (.bool (filmB a)) ∧ w = w' := by
  go_enter Try.func60, Try.ntmps60
  go_wp2
  · rename_i h; go_ret; exact ⟨by simp [filmB, rangeB, h], rfl⟩
  · rename_i h; go_ret; exact ⟨by simp [filmB, rangeB, not_or.1 h], rfl⟩
theorem implFilm_any : Calls Try.prog 56 #[.float .f32 a] w fun e w' => e = .returned (.bool (filmB a)) ∧ w = w' := by
  go_enter Try.func56, Try.ntmps56
  go_wp2
  · rename_i h; go_ret; exact ⟨by simp [filmB, rangeB, h], rfl⟩
  · rename_i h; go_ret; exact ⟨by simp [filmB, rangeB, not_or.1 h], rfl⟩
theorem specGain_any : Calls Try.prog 49 #[.float .f32 a] w fun e w' => e = .returned (.bool (gainB a)) ∧ w = w' := by
  go_enter Try.func49, Try.ntmps49
  go_wp2
  · rename_i h; go_ret; exact ⟨by simp [gainB, rangeB, h], rfl⟩
  · rename_i h; go_ret; exact ⟨by simp [gainB, rangeB, not_or.1 h], rfl⟩
theorem implGain_any : Calls Try.prog 52 #[.float .f32 a] w fun e w' => e = .returned (.bool (gainB a)) ∧ w = w' := by
  go_enter Try.func52, Try.ntmps52
  go_wp2
  · rename_i h; go_ret; exact ⟨by simp [gainB, rangeB, h], rfl⟩
  · rename_i h; go_ret; exact ⟨by simp [gainB, rangeB, not_or.1 h], rfl⟩
end

/-- areParts of two numbers that lie in one new block. -/
theorem areParts_two (a b : Nat) (w : World) (B : Nat) (h0 : w.cell? ⟨B, 0, none⟩ = some (.float .f32 a)) (h1 : w.cell? ⟨B, 1, none⟩ = some (.float .f32 b)) :
    Calls Try.prog 43 #[.slice (some ⟨B, 0, none⟩) 2 2] w fun e w' => e = .returned (.bool (partB a && partB b)) ∧ w = w' := by
  go_enter Try.func43, Try.ntmps43
  go_wp2
  go_loop [7] (fun i => ∃ k : Nat, k ≤ 2 ∧ i = .int .i64 k ∧ (1 ≤ k → partB a = true) ∧ (2 ≤ k → partB b = true)) (fun i => 2 - (intOf i).toNat)
  case atStart => exact ⟨0, by omega, rfl, by omega, by omega⟩
  case round =>
    obtain ⟨k, hk, rfl, ha, hb⟩ := hrel
    obtain rfl | rfl | rfl : k = 0 ∨ k = 1 ∨ k = 2 := by omega
    · clear ha hb
      cases pa : partB a
      · go_wp2_with (go_at_call 51; refine (implPart_any _ _).mono ?_; rintro e w' ⟨rfl, rfl⟩)
        go_ret
        exact ⟨by simp [pa], rfl⟩
      · go_wp2_with (go_at_call 51; refine (implPart_any _ _).mono ?_; rintro e w' ⟨rfl, rfl⟩)
        go_round
        case rel => exact ⟨1, by omega, rfl, fun _ => trivial, by omega⟩
        case measure => simp [intOf]
    · have pa := ha (by omega)
      clear ha hb
      cases pb : partB b
      · go_wp2_with (go_at_call 51; refine (implPart_any _ _).mono ?_; rintro e w' ⟨rfl, rfl⟩)
        go_ret
        exact ⟨by simp [pb], rfl⟩
      · go_wp2_with (go_at_call 51; refine (implPart_any _ _).mono ?_; rintro e w' ⟨rfl, rfl⟩)
        go_round
        case rel => exact ⟨2, by omega, rfl, fun _ => pa, fun _ => trivial⟩
        case measure => simp [intOf]
    · have pa := ha (by omega)
      have pb := hb (by omega)
      clear ha hb
      go_wp2
      go_ret
      exact ⟨by simp [pa, pb], rfl⟩

/-! ### light -/
theorem part_one_sub {s : Nat} (h : partB s = true) : partB (fsub 1065353216 s) = true := by
  obtain ⟨h1, h2, h3⟩ := (part_iff s).1 h
  have f1 : Fin32 1065353216 := by decide
  have f2 := part_fin h
  refine (part_iff _).2 ⟨num_fsub f1 f2, ?_, ?_⟩
  · have := fsub_ge f1 f2 (c := 0) (by decide) (by rw [Z_zero, Z_one]; omega)
    rwa [Z_zero] at this
  · have := fsub_le f1 f2 (c := 1065353216) f1 (by rw [Z_one]; omega)
    rwa [Z_one] at this
theorem part_mul {a b : Nat} (ha : partB a = true) (hb : partB b = true) : partB (fmul a b) = true := by
  obtain ⟨_, a2, a3⟩ := (part_iff a).1 ha
  obtain ⟨_, b2, b3⟩ := (part_iff b).1 hb
  have f1 := part_fin ha
  have f2 := part_fin hb
  have hp := Int.mul_nonneg a2 b2
  have hq := Int.mul_le_mul a3 b3 b2 (by omega)
  refine (part_iff _).2 ⟨num_fmul f1 f2, ?_, ?_⟩
  · have := fmul_ge f1 f2 (c := 0) (by decide) (by rw [Z_zero, Int.zero_mul]; exact hp)
    rwa [Z_zero] at this
  · have := fmul_le f1 f2 (c := 1065353216) (by decide) (by rw [Z_one]; exact hq)
    rwa [Z_one] at this
def lightR (d s : Nat) : Nat := if partB d && partB s then fsub 1065353216 (fmul d (fsub 1065353216 s)) else 0
def okC (b : Bool) : Int := if b then 0 else 2
theorem lightR_num (d s : Nat) : ¬ Flt.NaN Ieee.single (lightR d s) := by
  unfold lightR
  split
  · rename_i h
    rw [Bool.and_eq_true] at h
    exact fin_nan (part_fin (part_one_sub (part_mul h.1 (part_one_sub h.2))))
  · decide
theorem specLight_any (d s : Nat) (w : World) : Calls Try.prog 15 #[.float .f32 d, .float .f32 s] w fun e w' => e = .returned (.tuple #[.float .f32 (lightR d s), .int .i64 (okC (partB d && partB s))]) ∧ Below w.heap.size w w' := by
  unfold lightR
  cases hd : partB d
  · go_enter Try.func15, Try.ntmps15
    go_wp2_with (go_at_call 42; refine (specPart_any _ _).mono ?_; rintro e w' ⟨rfl, rfl⟩)
    go_ret2
    exact ⟨rfl, Below.refl _ _⟩
  · cases hs : partB s
    · go_enter Try.func15, Try.ntmps15
      go_wp2_with (go_at_call 42; refine (specPart_any _ _).mono ?_; rintro e w' ⟨rfl, rfl⟩)
      go_ret2
      exact ⟨rfl, Below.refl _ _⟩
    · have e1 := fun w => run_fsub (P := Try.prog) w 22 (x := 1065353216) (by decide) (part_fin hs)
      have e2 := fun w => run_fmul (P := Try.prog) w 22 (part_fin hd) (part_fin (part_one_sub hs))
      have e3 := fun w => run_fsub (P := Try.prog) w 22 (x := 1065353216) (by decide) (part_fin (part_mul hd (part_one_sub hs)))
      have hcs := fun b w => run_conv_same (P := Try.prog) 22 22 .f32 b w (by kernel_rfl) (by kernel_rfl)
      go_enter Try.func15, Try.ntmps15
      go_wp2_with (go_at_call 42; refine (specPart_any _ _).mono ?_; rintro e w' ⟨rfl, rfl⟩)
      go_ret2
      exact ⟨rfl, Below.refl _ _⟩
theorem implLight_any (d s : Nat) (w : World) : Calls Try.prog 16 #[.float .f32 d, .float .f32 s] w fun e w' => e = .returned (.tuple #[.float .f32 (lightR d s), .int .i64 (okC (partB d && partB s))]) ∧ Below w.heap.size w w' := by
  unfold lightR
  cases hds : partB d && partB s
  · go_enter Try.func16, Try.ntmps16
    go_wp2_with fail
    refine (areParts_two d s _ _ (by go_simp) (by go_simp)).mono ?_
    rintro e w' ⟨rfl, rfl⟩
    go_wp2
    go_ret2
    exact ⟨rfl, by repeat (first | exact Below.refl _ _ | refine Below.alloc ?_ (by simp) _ | refine Below.setCell ?_ (by simp) _)⟩
  · have hd : partB d = true := by rw [Bool.and_eq_true] at hds; exact hds.1
    have hs : partB s = true := by rw [Bool.and_eq_true] at hds; exact hds.2
    have e1 := fun w => run_fsub (P := Try.prog) w 22 (x := 1065353216) (by decide) (part_fin hs)
    have e2 := fun w => run_fmul (P := Try.prog) w 22 (part_fin hd) (part_fin (part_one_sub hs))
    have e3 := fun w => run_fsub (P := Try.prog) w 22 (x := 1065353216) (by decide) (part_fin (part_mul hd (part_one_sub hs)))
    have hcs := fun b w => run_conv_same (P := Try.prog) 22 22 .f32 b w (by kernel_rfl) (by kernel_rfl)
    go_enter Try.func16, Try.ntmps16
    go_wp2_with fail
    refine (areParts_two d s _ _ (by go_simp) (by go_simp)).mono ?_
    rintro e w' ⟨rfl, rfl⟩
    go_wp2
    go_ret2
    exact ⟨rfl, by repeat (first | exact Below.refl _ _ | refine Below.alloc ?_ (by simp) _ | refine Below.setCell ?_ (by simp) _)⟩
end Go.Proofs.Ytjlbnlghpecanaa
