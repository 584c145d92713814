/- Contracts of SamePlate, the reference's and the program's; the laws on ValidPlate and SamePlate. -/
import Derived.Test.YtlohgpbhebmefaaPOk
import Derived.Test.YtlohgpbhebmefaaTSame
import Derived.Test.YtlohgpbhebmefaaTwo
set_option linter.unusedVariables false
set_option linter.unusedSimpArgs false
namespace Go.Proofs.Ytlohgpbhebmefaa
open Go.RowKit Ieee

def sameP (x y : Int) (F : Nat → Nat) (x' y' : Int) (F' : Nat → Nat) : Bool := (x == x') && ((y == y') && sameTo F F' 64)
end Go.Proofs.Ytlohgpbhebmefaa
