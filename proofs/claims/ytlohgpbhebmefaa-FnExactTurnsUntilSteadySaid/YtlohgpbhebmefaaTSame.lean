/- Contracts of SameTrain, the reference's and the program's, and the law on it. -/
import Derived.Test.YtlohgpbhebmefaaTMap
set_option linter.unusedVariables false
set_option linter.unusedSimpArgs false
namespace Go.Proofs.Ytlohgpbhebmefaa
open Go.RowKit Ieee

def sameTo (F G : Nat → Nat) : Nat → Bool
  | 0 => true
  | k + 1 => sameTo F G k && sameN (F k) (G k)
theorem sameTo_no {F G : Nat → Nat} {k n : Nat} (hk : k < n) (h : sameN (F k) (G k) = false) : sameTo F G n = false := by
  induction n with
  | zero => omega
  | succ n ih =>
    by_cases e : k = n
    · subst e; simp [sameTo, h]
    · simp [sameTo, ih (by omega)]

def sameT (r : Int) (s t : Nat) (F : Nat → Nat) (r' : Int) (s' t' : Nat) (F' : Nat → Nat) : Bool := (r == r') && (sameN s s' && (sameN t t' && sameTo F F' 12))

end Go.Proofs.Ytlohgpbhebmefaa
