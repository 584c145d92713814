/- Cells of plates and valid plates, as the reference and the program ask it. -/
import Derived.Test.YtiddeijhjedbbaaPCopy
set_option linter.unusedVariables false
set_option linter.unusedSimpArgs false
namespace Go.Proofs.Ytiddeijhjedbbaa
open Go.RowKit Ieee

theorem specIn_yes {n lo hi : Int} (h1 : lo ≤ n) (h2 : n ≤ hi) (w : World) : Calls Try.prog 57 #[.int .i64 n, .int .i64 lo, .int .i64 hi] w fun e w' => e = .returned (.bool true) ∧ w = w' := by
  go_enter Try.func57, Try.ntmps57
  go_wp2
  go_ret
  exact ⟨rfl, rfl⟩
theorem specIn_lo {n lo hi : Int} (h1 : n < lo) (w : World) : Calls Try.prog 57 #[.int .i64 n, .int .i64 lo, .int .i64 hi] w fun e w' => e = .returned (.bool false) ∧ w = w' := by
  go_enter Try.func57, Try.ntmps57
  go_wp2
  go_ret
  exact ⟨rfl, rfl⟩
theorem specIn_hi {n lo hi : Int} (h1 : lo ≤ n) (h2 : hi < n) (w : World) : Calls Try.prog 57 #[.int .i64 n, .int .i64 lo, .int .i64 hi] w fun e w' => e = .returned (.bool false) ∧ w = w' := by
  have h3 : decide (n ≤ hi) = false := by simp; omega
  go_enter Try.func57, Try.ntmps57
  go_wp2
  go_ret
  exact ⟨rfl, rfl⟩
def inB (n lo hi : Int) : Bool := decide (lo ≤ n) && decide (n ≤ hi)
theorem specIn_any (n lo hi : Int) (w : World) : Calls Try.prog 57 #[.int .i64 n, .int .i64 lo, .int .i64 hi] w fun e w' => e = .returned (.bool (inB n lo hi)) ∧ w = w' := by
  unfold inB
  by_cases h1 : lo ≤ n
  · by_cases h2 : n ≤ hi
    · simpa [h1, h2] using specIn_yes h1 h2 w
    · simpa [h1, h2] using specIn_hi h1 (by omega) w
  · simpa [h1] using specIn_lo (by omega) w

/-- Does a plate of a by b cells have the cell X, Y? -/
def inXY (X Y : Int) (a b : Nat) : Bool := (decide (0 ≤ X) && decide (X < a)) && (decide (0 ≤ Y) && decide (Y < b))
end Go.Proofs.Ytiddeijhjedbbaa
