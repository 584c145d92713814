/- What a row's listed tables give: a number's table of bits/TrailingZeros holds 4 at place 15; the powers of ten. -/
import Derived.Test.YtckcngmbbnilnaaDoorLawKit
import Derived.Test.YtckcngmbbnilnaaDoorHexF
import Derived.Lib.LaidTab
import Derived.LaidMore
import Derived.LaidHandle
import Derived.OpenShut
import Derived.Stop.Joined
import Derived.Stop.LaidErr
import Derived.Lib.ItoaNum
set_option linter.unusedVariables false
set_option linter.unusedSimpArgs false
namespace Go.Proofs.YtckcngmbbnilnaaDoor
open Go.ChangeShapes Go.WideShapes Go.ChangeAt Go.RowKit

theorem debruijn_cell {W : World} {x : String × DataW Unit} {rest : List (String × DataW Unit)} (h : laidMet Tryd.prog (x :: ("math/bits.deBruijn64tab", Rows.laid_math_bits_deBruijn64tab) :: rest) W) :
    W.cell? ⟨6, 15, none⟩ = some (.int .u8 4) := by
  have h1 : Lib.TabIs Tryd.prog W "math/bits.deBruijn64tab" .u8 deBruijn64 :=
    Lib.tabIs_of_head (g := 6) (t := 158) (e := 5) (n := 64) (rest := rest) (by kernel_rfl) (by kernel_rfl) (by kernel_rfl) (by kernel_rfl) (by kernel_rfl) (by kernel_rfl) h.tail
  exact h1.cell (by kernel_rfl) 15 (by decide)
end Go.Proofs.YtckcngmbbnilnaaDoor
