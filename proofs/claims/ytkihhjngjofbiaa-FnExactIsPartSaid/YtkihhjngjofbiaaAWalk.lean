/- The walks of the laws whose arguments are numbers alone. -/
import Derived.Test.YtkihhjngjofbiaaFNum
import Derived.Outline
namespace Go.Proofs.Ytkihhjngjofbiaa
open Go.RowKit

theorem exactConstants_any (w : World) : Calls Try.prog 3 #[] w fun e w' => e = .returned (.bool true) ∧ Below w.heap.size w w' := by
  go_enter Try.func3, Try.ntmps3
  go_wp2
  go_ret
  exact ⟨rfl, Below.refl _ _⟩
theorem exactIsPart_any (a : Nat) (w : World) : Calls Try.prog 4 #[.float .f32 a] w fun e w' => e = .returned (.bool true) ∧ Below w.heap.size w w' := by
  go_enter Try.func4, Try.ntmps4
  go_wp2
  all_goals (go_ret; exact ⟨rfl, Below.refl _ _⟩)
theorem exactIsPlain_any (a : Nat) (w : World) : Calls Try.prog 5 #[.float .f32 a] w fun e w' => e = .returned (.bool true) ∧ Below w.heap.size w w' := by
  go_enter Try.func5, Try.ntmps5
  go_wp2
  all_goals (go_ret; exact ⟨rfl, Below.refl _ _⟩)
theorem exactCodeName_out (n : Int) (w : World) (h : n < 0 ∨ 8 < n) : Calls Try.prog 7 #[.int .i64 n] w fun e w' => e = .returned (.bool true) ∧ Below w.heap.size w w' := by
  rcases h with h | h
  · go_enter Try.func7, Try.ntmps7
    go_wp2
    go_ret
    exact ⟨rfl, by repeat (first | exact Below.refl _ _ | refine Below.alloc ?_ (by simp) _)⟩
  · have h0 : ¬ n < 0 := by omega
    have h1 : (!decide (n ≤ 8)) = true := by simp; omega
    go_enter Try.func7, Try.ntmps7
    go_wp2
    go_ret
    exact ⟨rfl, by repeat (first | exact Below.refl _ _ | refine Below.alloc ?_ (by simp) _)⟩
set_option maxHeartbeats 4000000 in
theorem exactCodeName_in (n : Nat) (w : World) (h : n ≤ 8) : Calls Try.prog 7 #[.int .i64 n] w fun e w' => e = .returned (.bool true) ∧ Below w.heap.size w w' := by
  have : n = 0 ∨ n = 1 ∨ n = 2 ∨ n = 3 ∨ n = 4 ∨ n = 5 ∨ n = 6 ∨ n = 7 ∨ n = 8 := by omega
  rcases this with rfl | rfl | rfl | rfl | rfl | rfl | rfl | rfl | rfl
  all_goals
    go_enter Try.func7, Try.ntmps7
    go_wp2
    go_ret
    exact ⟨rfl, by repeat (first | exact Below.refl _ _ | refine Below.alloc ?_ (by simp) _)⟩
theorem exactCodeName_any (n : Int) (w : World) : Calls Try.prog 7 #[.int .i64 n] w fun e w' => e = .returned (.bool true) ∧ Below w.heap.size w w' := by
  by_cases h : n < 0 ∨ 8 < n
  · exact exactCodeName_out n w h
  · obtain ⟨k, rfl⟩ := Int.eq_ofNat_of_zero_le (by omega : 0 ≤ n)
    exact exactCodeName_in k w (by omega)
theorem quo_two_nan {x : Nat} (h : Flt.NaN Ieee.single x) : floatBits .quo .f32 x 1073741824 = none := by
  show Ieee.single.div x _ = none
  unfold Ieee.Format.div
  rw [Flt.read_nan Ieee.single (by decide) h]
  rfl
theorem quo_two_num {x : Nat} (h : ¬ Flt.NaN Ieee.single x) : ∃ q, floatBits .quo .f32 x 1073741824 = some q := by
  show ∃ q, Ieee.single.div x _ = some q
  unfold Ieee.Format.div
  rw [show Ieee.single.read 1073741824 = .number false 8388608 (-22) from by decide +kernel]
  rcases Flt.not_nan Ieee.single h with h | h
  · obtain ⟨m, k, e1, u1⟩ := Flt.read_fin Ieee.single h
    rw [e1]
    exact ⟨_, rfl⟩
  · rw [Flt.read_inf Ieee.single (by decide) h]
    exact ⟨_, rfl⟩
theorem exactSplitFilms_any (a b : Nat) (w : World) : Calls Try.prog 6 #[.float .f32 a, .float .f32 b] w fun e w' => e = .returned (.bool true) ∧ Below w.heap.size w w' := by
  have hcs := fun b w => run_conv_same (P := Try.prog) 23 23 .f32 b w (by kernel_rfl) (by kernel_rfl)
  cases hs : floatBits .add .f32 a b with
  | none =>
    have ha := fun w => run_arith_nan (P := Try.prog) w .add 23 .f32 a b (Or.inl rfl) hs
    have hq := fun w w0 => run_arith_nan (P := Try.prog) w .quo 23 .f32 (nanAt (.nanBits .f32 a b) w0) 1073741824 (by simp) (quo_two_nan (nanAt_nan32 _ _ _))
    have hc := fun w w0 x => run_wide_nan (P := Try.prog) 23 27 (nanAt (.nanBits .f32 x 1073741824) w0) w (by kernel_rfl) (by kernel_rfl) (nanAt_nan32 _ _ _)
    clear hs
    go_enter Try.func6, Try.ntmps6
    go_wp2_with (first | (go_at_call 16; refine (sameFloat_nan _ _ _ (nanAt_conv64 _ _) (nanAt_conv64 _ _)).mono ?_; rintro e w' ⟨rfl, rfl⟩) | go_in)
    go_ret
    exact ⟨rfl, by repeat (first | exact Below.refl _ _ | apply Below.drew)⟩
  | some s =>
    have h1 := floatBits_num hs
    obtain ⟨q, hq0⟩ := quo_two_num h1
    have h2 := floatBits_num hq0
    have ha := fun w => run_float_arith (P := Try.prog) w .add 23 .f32 a b s hs
    have hq := fun w => run_float_arith (P := Try.prog) w .quo 23 .f32 _ _ _ hq0
    have hc := fun w => run_wide (P := Try.prog) 23 27 q w (by kernel_rfl) (by kernel_rfl) h2
    clear hs hq0
    go_enter Try.func6, Try.ntmps6
    go_wp2_with (first | (go_at_call 16; refine (sameFloat_self _ _ (Flt.widen_nan h2)).mono ?_; rintro e w' ⟨rfl, rfl⟩) | go_in)
    go_ret
    exact ⟨rfl, by repeat (first | exact Below.refl _ _ | apply Below.drew)⟩
theorem exactMarkAt_any (a b : Nat) (w : World) : Calls Try.prog 8 #[.float .f32 a, .float .f32 b] w fun e w' => e = .returned (.bool true) ∧ Below w.heap.size w w' := by
  have hcw := fun w => run_cwide (P := Try.prog) 32 35 a b w (by kernel_rfl) (by kernel_rfl)
  go_enter Try.func8, Try.ntmps8
  go_wp2_with (first | (go_at_call 16; refine (sameFloat_wide _ _ _ _).mono ?_; rintro e w' ⟨rfl, rfl⟩) | go_in)
  go_ret
  exact ⟨rfl, by repeat (first | exact Below.refl _ _ | apply below_wideW)⟩
theorem exactSameNumber_any (a b : Nat) (w : World) (ha : a < 2 ^ 32) (hb : b < 2 ^ 32) : Calls Try.prog 9 #[.float .f32 a, .float .f32 b] w fun e w' => e = .returned (.bool true) ∧ Below w.heap.size w w' := by
  go_enter Try.func9, Try.ntmps9
  go_wp2_with (first | (go_at_call 30; refine (specSame_any _ _ _).mono ?_; rintro e w' ⟨rfl, rfl⟩) | (go_at_call 23; refine (implSame_any _ _ _ ha hb).mono ?_; rintro e w' ⟨rfl, rfl⟩) | go_in)
  go_ret
  exact ⟨rfl, Below.refl _ _⟩
end Go.Proofs.Ytkihhjngjofbiaa
