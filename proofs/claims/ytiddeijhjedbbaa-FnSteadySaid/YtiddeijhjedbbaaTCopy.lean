/- toFloat32A12, toTrain: the copies that the laws make of their arguments. -/
import Derived.Test.YtiddeijhjedbbaaBNum
import Derived.Test.YtiddeijhjedbbaaRow
set_option linter.unusedVariables false
set_option linter.unusedSimpArgs false
namespace Go.Proofs.Ytiddeijhjedbbaa
open Go.RowKit
def mix (F G : Nat → Nat) (k : Nat) : Nat → Nat := fun j => if j < k then F j else G j
theorem mix_step (n : Nat) (F G : Nat → Nat) (k : Nat) (pre : List Value) : row pre n (upd (mix F G k) k (F k)) = row pre n (mix F G (k + 1)) := by
  apply row_congr
  intro i _
  unfold upd mix
  by_cases h : i = k
  · subst h; simp
  · rw [if_neg h]
    by_cases h2 : i < k
    · rw [if_pos h2, if_pos (by omega)]
    · rw [if_neg h2, if_neg (by omega)]
theorem mix_end (n : Nat) (F G : Nat → Nat) (pre : List Value) : row pre n (mix F G n) = row pre n F := row_congr _ _ _ (fun i hi => by simp [mix, hi])

/-- A train's cells. -/
abbrev tpre (r : Int) (s t : Nat) : List Value := [.int .i8 r, .float .f32 s, .float .f32 t]
abbrev train (r : Int) (s t : Nat) (F : Nat → Nat) : Array Value := row (tpre r s t) 12 F
end Go.Proofs.Ytiddeijhjedbbaa
