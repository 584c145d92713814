/- The contracts of the functions that take numbers alone: ranges, light, dots for light, gain. -/
import Derived.Test.YtiddeijhjedbbaaFOps
import Derived.Test.YtiddeijhjedbbaaFNum
set_option linter.unusedVariables false
set_option linter.unusedSimpArgs false
namespace Go.Proofs.Ytiddeijhjedbbaa
open Go.RowKit

section
variable (a : Nat) (w : World)
theorem specPart_any : Calls Try.prog 53 #[.float .f32 a] w fun e w' => e = .returned (.bool (partB a)) ∧ w = w' := by
  go_enter Try.func53, Try.ntmps53
  go_wp2
  · rename_i h; go_ret; exact ⟨by simp [partB, rangeB, h], rfl⟩
  · rename_i h; go_ret; exact ⟨by simp [partB, rangeB, not_or.1 h], rfl⟩
theorem implPart_any : Calls Try.prog 50 #[.float .f32 a] w fun e w' => e = .returned (.bool (partB a)) ∧ w = w' := by
  go_enter Try.func50, Try.ntmps50
  go_wp2
  · rename_i h; go_ret; exact ⟨by simp [partB, rangeB, h], rfl⟩
  · rename_i h; go_ret; exact ⟨by simp [partB, rangeB, not_or.1 h], rfl⟩
theorem specFilm_any : Calls Try.prog 41 #[.float .f32 a] w fun e w' => e = .returned (.bool (filmB a)) ∧ w = w' := by
  go_enter Try.func41, Try.ntmps41
  go_wp2
  · rename_i h; go_ret; exact ⟨by simp [filmB, rangeB, h], rfl⟩
  · rename_i h; go_ret; exact ⟨by simp [filmB, rangeB, not_or.1 h], rfl⟩
theorem implFilm_any : Calls Try.prog 37 #[.float .f32 a] w fun e w' => e = .returned (.bool (filmB a)) ∧ w = w' := by
  go_enter Try.func37, Try.ntmps37
  go_wp2
  · rename_i h; go_ret; exact ⟨by simp [filmB, rangeB, h], rfl⟩
  · rename_i h; go_ret; exact ⟨by simp [filmB, rangeB, not_or.1 h], rfl⟩
end

/-- areParts of two numbers that lie in one new block. -/
theorem areParts_two (a b : Nat) (w : World) (B : Nat) (h0 : w.cell? ⟨B, 0, none⟩ = some (.float .f32 a)) (h1 : w.cell? ⟨B, 1, none⟩ = some (.float .f32 b)) :
    Calls Try.prog 63 #[.slice (some ⟨B, 0, none⟩) 2 2] w fun e w' => e = .returned (.bool (partB a && partB b)) ∧ w = w' := by
  go_enter Try.func63, Try.ntmps63
  go_wp2
  go_loop [7] (fun i => ∃ k : Nat, k ≤ 2 ∧ i = .int .i64 k ∧ (1 ≤ k → partB a = true) ∧ (2 ≤ k → partB b = true)) (fun i => 2 - (intOf i).toNat)
  case atStart => exact ⟨0, by omega, rfl, by omega, by omega⟩
  case round =>
    obtain ⟨k, hk, rfl, ha, hb⟩ := hrel
    obtain rfl | rfl | rfl : k = 0 ∨ k = 1 ∨ k = 2 := by omega
    · clear ha hb
      cases pa : partB a
      · go_wp2_with (go_at_call 50; refine (implPart_any _ _).mono ?_; rintro e w' ⟨rfl, rfl⟩)
        go_ret
        exact ⟨by simp [pa], rfl⟩
      · go_wp2_with (go_at_call 50; refine (implPart_any _ _).mono ?_; rintro e w' ⟨rfl, rfl⟩)
        go_round
        case rel => exact ⟨1, by omega, rfl, fun _ => trivial, by omega⟩
        case measure => simp [intOf]
    · have pa := ha (by omega)
      clear ha hb
      cases pb : partB b
      · go_wp2_with (go_at_call 50; refine (implPart_any _ _).mono ?_; rintro e w' ⟨rfl, rfl⟩)
        go_ret
        exact ⟨by simp [pb], rfl⟩
      · go_wp2_with (go_at_call 50; refine (implPart_any _ _).mono ?_; rintro e w' ⟨rfl, rfl⟩)
        go_round
        case rel => exact ⟨2, by omega, rfl, fun _ => pa, fun _ => trivial⟩
        case measure => simp [intOf]
    · have pa := ha (by omega)
      have pb := hb (by omega)
      clear ha hb
      go_wp2
      go_ret
      exact ⟨by simp [pa, pb], rfl⟩

/-! ### light -/
theorem part_one_sub {s : Nat} (h : partB s = true) : partB (fsub 1065353216 s) = true := by
  obtain ⟨h1, h2, h3⟩ := (part_iff s).1 h
  have f1 : Fin32 1065353216 := by decide
  have f2 := part_fin h
  refine (part_iff _).2 ⟨num_fsub f1 f2, ?_, ?_⟩
  · have := fsub_ge f1 f2 (c := 0) (by decide) (by rw [Z_zero, Z_one]; omega)
    rwa [Z_zero] at this
  · have := fsub_le f1 f2 (c := 1065353216) f1 (by rw [Z_one]; omega)
    rwa [Z_one] at this
theorem part_mul {a b : Nat} (ha : partB a = true) (hb : partB b = true) : partB (fmul a b) = true := by
  obtain ⟨_, a2, a3⟩ := (part_iff a).1 ha
  obtain ⟨_, b2, b3⟩ := (part_iff b).1 hb
  have f1 := part_fin ha
  have f2 := part_fin hb
  have hp := Int.mul_nonneg a2 b2
  have hq := Int.mul_le_mul a3 b3 b2 (by omega)
  refine (part_iff _).2 ⟨num_fmul f1 f2, ?_, ?_⟩
  · have := fmul_ge f1 f2 (c := 0) (by decide) (by rw [Z_zero, Int.zero_mul]; exact hp)
    rwa [Z_zero] at this
  · have := fmul_le f1 f2 (c := 1065353216) (by decide) (by rw [Z_one]; exact hq)
    rwa [Z_one] at this
def lightR (d s : Nat) : Nat := if partB d && partB s then fsub 1065353216 (fmul d (fsub 1065353216 s)) else 0
def okC (b : Bool) : Int := if b then 0 else 2
theorem lightR_num (d s : Nat) : ¬ Flt.NaN Ieee.single (lightR d s) := by
  unfold lightR
  split
  · rename_i h
    rw [Bool.and_eq_true] at h
    exact fin_nan (part_fin (part_one_sub (part_mul h.1 (part_one_sub h.2))))
  · decide
end Go.Proofs.Ytiddeijhjedbbaa
