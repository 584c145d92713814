/- Contracts of SamePlate, the reference's and the program's; the laws on ValidPlate and SamePlate. -/
import Derived.Test.YtiddeijhjedbbaaPOk
import Derived.Test.YtiddeijhjedbbaaTSame
import Derived.Test.YtiddeijhjedbbaaTwo
set_option linter.unusedVariables false
set_option linter.unusedSimpArgs false
namespace Go.Proofs.Ytiddeijhjedbbaa
open Go.RowKit Ieee

def sameP (x y : Int) (F : Nat → Nat) (x' y' : Int) (F' : Nat → Nat) : Bool := (x == x') && ((y == y') && sameTo F F' 64)
end Go.Proofs.Ytiddeijhjedbbaa
