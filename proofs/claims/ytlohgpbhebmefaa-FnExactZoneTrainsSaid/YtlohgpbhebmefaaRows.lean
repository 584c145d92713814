/-
  No cell of these rows narrows 'for every input' (looked for: loops, veiled, ifaces, maps, wideKeys, modest, calm, conditions, laid).
  DERIVED. THE GIVEN ROWS OF THIS SEAT. 10 by the template 'for every input the law returns true; each argument reads behind the call as it read before'; 0 by the template 'total and deterministic' (their statements: YtlohgpbhebmefaaTotals.lean).
  GIVEN WITH THE SEED: the statements are not yours to turn. If you find one false, say at which input.
  Laid BY PROGRAM, IN A SANDBOX (cutbox-rows.mjs): the forced cells as the released guide's own fill.sh prints them over the translation 52c9ede15d1c2546… (all of the seat's roots in one cut). By AI agents, Wed Nov 11 2026. No macro, syntax, notation, axiom, sorry.
-/
import Derived.Test.YtlohgpbhebmefaaChecked
import GoSem.Claim
import GoSem.ClaimJoined
import GoSem.ClaimMapViews
import Derived.JoinedTies
import Derived.KernelRfl
namespace Go.Proofs.Ytlohgpbhebmefaa
/- THE CELL 'sum', in the pinned program and in every row, IS THE sha256 OF THE DUMP (.gsa) THAT YtlohgpbhebmefaaProg.lean LOADS. Nothing in Lean hashes anything: it is a label: what it is worth is what the hold of that sum in a sandbox is worth. -/
noncomputable def Try.pinned : Pinned := { name := "ytlohgpbhebmefaa", sum := "52c9ede15d1c25464bbe8d9c932c0c1bcb62f2a5e2092b152b4ca661107d815d", checked := Try.checked }
namespace Rows
def none {H : Type} : Left H := { results := [], args := [] }

/-- 'laws.FnExactMixTrains': WHATEVER THE INPUT: true; the input reads as it did. -/
def fnExactMixTrainsSpec : ChangeSpec := { name := "fnExactMixTrains", fn := fun _ => fun
  | [d1, d2] => { results := [.lit (.bool true)], args := [d1, d2] }
  | _ => none }
def fnExactMixTrainsRow : OpenClaim := { program := "ytlohgpbhebmefaa", sum := "52c9ede15d1c25464bbe8d9c932c0c1bcb62f2a5e2092b152b4ca661107d815d", func := "loop.example/g01320/laws.FnExactMixTrains", spec := "fnExactMixTrains", apart := false }
def FnExactMixTrainsSaid : Prop := fnExactMixTrainsRow.holds Try.pinned (OpenSpec.ofChange fnExactMixTrainsSpec)

/-- ITS FALSE NEIGHBOUR: 'it returns false'. Refute it at one input. -/
def fnExactMixTrainsWrong : ChangeSpec := { name := "fnExactMixTrains", fn := fun _ => fun
  | [d1, d2] => { results := [.lit (.bool false)], args := [d1, d2] }
  | _ => none }
def FnExactMixTrainsWrongFalsely : Prop := fnExactMixTrainsRow.holds Try.pinned (OpenSpec.ofChange fnExactMixTrainsWrong)

/-- 'laws.FnExactAddRoller': WHATEVER THE INPUT: true; the input reads as it did. -/
def fnExactAddRollerSpec : ChangeSpec := { name := "fnExactAddRoller", fn := fun _ => fun
  | [d1, d2] => { results := [.lit (.bool true)], args := [d1, d2] }
  | _ => none }
def fnExactAddRollerRow : OpenClaim := { program := "ytlohgpbhebmefaa", sum := "52c9ede15d1c25464bbe8d9c932c0c1bcb62f2a5e2092b152b4ca661107d815d", func := "loop.example/g01320/laws.FnExactAddRoller", spec := "fnExactAddRoller", apart := false }
def FnExactAddRollerSaid : Prop := fnExactAddRollerRow.holds Try.pinned (OpenSpec.ofChange fnExactAddRollerSpec)

/-- ITS FALSE NEIGHBOUR: 'it returns false'. Refute it at one input. -/
def fnExactAddRollerWrong : ChangeSpec := { name := "fnExactAddRoller", fn := fun _ => fun
  | [d1, d2] => { results := [.lit (.bool false)], args := [d1, d2] }
  | _ => none }
def FnExactAddRollerWrongFalsely : Prop := fnExactAddRollerRow.holds Try.pinned (OpenSpec.ofChange fnExactAddRollerWrong)

/-- 'laws.FnExactDropRoller': WHATEVER THE INPUT: true; the input reads as it did. -/
def fnExactDropRollerSpec : ChangeSpec := { name := "fnExactDropRoller", fn := fun _ => fun
  | [d1, d2] => { results := [.lit (.bool true)], args := [d1, d2] }
  | _ => none }
def fnExactDropRollerRow : OpenClaim := { program := "ytlohgpbhebmefaa", sum := "52c9ede15d1c25464bbe8d9c932c0c1bcb62f2a5e2092b152b4ca661107d815d", func := "loop.example/g01320/laws.FnExactDropRoller", spec := "fnExactDropRoller", apart := false }
def FnExactDropRollerSaid : Prop := fnExactDropRollerRow.holds Try.pinned (OpenSpec.ofChange fnExactDropRollerSpec)

/-- ITS FALSE NEIGHBOUR: 'it returns false'. Refute it at one input. -/
def fnExactDropRollerWrong : ChangeSpec := { name := "fnExactDropRoller", fn := fun _ => fun
  | [d1, d2] => { results := [.lit (.bool false)], args := [d1, d2] }
  | _ => none }
def FnExactDropRollerWrongFalsely : Prop := fnExactDropRollerRow.holds Try.pinned (OpenSpec.ofChange fnExactDropRollerWrong)

/-- 'laws.FnExactOverPlate': WHATEVER THE INPUT: true; the input reads as it did. -/
def fnExactOverPlateSpec : ChangeSpec := { name := "fnExactOverPlate", fn := fun _ => fun
  | [d1, d2] => { results := [.lit (.bool true)], args := [d1, d2] }
  | _ => none }
def fnExactOverPlateRow : OpenClaim := { program := "ytlohgpbhebmefaa", sum := "52c9ede15d1c25464bbe8d9c932c0c1bcb62f2a5e2092b152b4ca661107d815d", func := "loop.example/g01320/laws.FnExactOverPlate", spec := "fnExactOverPlate", unfollowed := true, recurses := true, apart := false }
def FnExactOverPlateSaid : Prop := fnExactOverPlateRow.holds Try.pinned (OpenSpec.ofChange fnExactOverPlateSpec)

/-- ITS FALSE NEIGHBOUR: 'it returns false'. Refute it at one input. -/
def fnExactOverPlateWrong : ChangeSpec := { name := "fnExactOverPlate", fn := fun _ => fun
  | [d1, d2] => { results := [.lit (.bool false)], args := [d1, d2] }
  | _ => none }
def FnExactOverPlateWrongFalsely : Prop := fnExactOverPlateRow.holds Try.pinned (OpenSpec.ofChange fnExactOverPlateWrong)

/-- 'laws.FnExactGainPlate': WHATEVER THE INPUT: true; the input reads as it did. -/
def fnExactGainPlateSpec : ChangeSpec := { name := "fnExactGainPlate", fn := fun _ => fun
  | [d1, d2] => { results := [.lit (.bool true)], args := [d1, d2] }
  | _ => none }
def fnExactGainPlateRow : OpenClaim := { program := "ytlohgpbhebmefaa", sum := "52c9ede15d1c25464bbe8d9c932c0c1bcb62f2a5e2092b152b4ca661107d815d", func := "loop.example/g01320/laws.FnExactGainPlate", spec := "fnExactGainPlate", unfollowed := true, recurses := true, apart := false }
def FnExactGainPlateSaid : Prop := fnExactGainPlateRow.holds Try.pinned (OpenSpec.ofChange fnExactGainPlateSpec)

/-- ITS FALSE NEIGHBOUR: 'it returns false'. Refute it at one input. -/
def fnExactGainPlateWrong : ChangeSpec := { name := "fnExactGainPlate", fn := fun _ => fun
  | [d1, d2] => { results := [.lit (.bool false)], args := [d1, d2] }
  | _ => none }
def FnExactGainPlateWrongFalsely : Prop := fnExactGainPlateRow.holds Try.pinned (OpenSpec.ofChange fnExactGainPlateWrong)

/-- 'laws.FnExactTurnOnce': WHATEVER THE INPUT: true; the input reads as it did. -/
def fnExactTurnOnceSpec : ChangeSpec := { name := "fnExactTurnOnce", fn := fun _ => fun
  | [d1, d2, d3] => { results := [.lit (.bool true)], args := [d1, d2, d3] }
  | _ => none }
def fnExactTurnOnceRow : OpenClaim := { program := "ytlohgpbhebmefaa", sum := "52c9ede15d1c25464bbe8d9c932c0c1bcb62f2a5e2092b152b4ca661107d815d", func := "loop.example/g01320/laws.FnExactTurnOnce", spec := "fnExactTurnOnce", apart := false }
def FnExactTurnOnceSaid : Prop := fnExactTurnOnceRow.holds Try.pinned (OpenSpec.ofChange fnExactTurnOnceSpec)

/-- ITS FALSE NEIGHBOUR: 'it returns false'. Refute it at one input. -/
def fnExactTurnOnceWrong : ChangeSpec := { name := "fnExactTurnOnce", fn := fun _ => fun
  | [d1, d2, d3] => { results := [.lit (.bool false)], args := [d1, d2, d3] }
  | _ => none }
def FnExactTurnOnceWrongFalsely : Prop := fnExactTurnOnceRow.holds Try.pinned (OpenSpec.ofChange fnExactTurnOnceWrong)

/-- 'laws.FnExactPrintedIn': WHATEVER THE INPUT: true; the input reads as it did. -/
def fnExactPrintedInSpec : ChangeSpec := { name := "fnExactPrintedIn", fn := fun _ => fun
  | [d1, d2, d3, d4] => { results := [.lit (.bool true)], args := [d1, d2, d3, d4] }
  | _ => none }
def fnExactPrintedInRow : OpenClaim := { program := "ytlohgpbhebmefaa", sum := "52c9ede15d1c25464bbe8d9c932c0c1bcb62f2a5e2092b152b4ca661107d815d", func := "loop.example/g01320/laws.FnExactPrintedIn", spec := "fnExactPrintedIn", apart := false }
def FnExactPrintedInSaid : Prop := fnExactPrintedInRow.holds Try.pinned (OpenSpec.ofChange fnExactPrintedInSpec)

/-- ITS FALSE NEIGHBOUR: 'it returns false'. Refute it at one input. -/
def fnExactPrintedInWrong : ChangeSpec := { name := "fnExactPrintedIn", fn := fun _ => fun
  | [d1, d2, d3, d4] => { results := [.lit (.bool false)], args := [d1, d2, d3, d4] }
  | _ => none }
def FnExactPrintedInWrongFalsely : Prop := fnExactPrintedInRow.holds Try.pinned (OpenSpec.ofChange fnExactPrintedInWrong)

/-- 'laws.FnExactTurnsUntilSteady': WHATEVER THE INPUT: true; the input reads as it did. -/
def fnExactTurnsUntilSteadySpec : ChangeSpec := { name := "fnExactTurnsUntilSteady", fn := fun _ => fun
  | [d1, d2, d3, d4] => { results := [.lit (.bool true)], args := [d1, d2, d3, d4] }
  | _ => none }
def fnExactTurnsUntilSteadyRow : OpenClaim := { program := "ytlohgpbhebmefaa", sum := "52c9ede15d1c25464bbe8d9c932c0c1bcb62f2a5e2092b152b4ca661107d815d", func := "loop.example/g01320/laws.FnExactTurnsUntilSteady", spec := "fnExactTurnsUntilSteady", inPlace := ["math.Float64bits", "math.Float64frombits"], apart := false }
def FnExactTurnsUntilSteadySaid : Prop := fnExactTurnsUntilSteadyRow.holds Try.pinned (OpenSpec.ofChange fnExactTurnsUntilSteadySpec)

/-- ITS FALSE NEIGHBOUR: 'it returns false'. Refute it at one input. -/
def fnExactTurnsUntilSteadyWrong : ChangeSpec := { name := "fnExactTurnsUntilSteady", fn := fun _ => fun
  | [d1, d2, d3, d4] => { results := [.lit (.bool false)], args := [d1, d2, d3, d4] }
  | _ => none }
def FnExactTurnsUntilSteadyWrongFalsely : Prop := fnExactTurnsUntilSteadyRow.holds Try.pinned (OpenSpec.ofChange fnExactTurnsUntilSteadyWrong)

/-- 'laws.FnExactZoneTrains': WHATEVER THE INPUT: true; the input reads as it did. -/
def fnExactZoneTrainsSpec : ChangeSpec := { name := "fnExactZoneTrains", fn := fun _ => fun
  | [d1, d2, d3, d4] => { results := [.lit (.bool true)], args := [d1, d2, d3, d4] }
  | _ => none }
def fnExactZoneTrainsRow : OpenClaim := { program := "ytlohgpbhebmefaa", sum := "52c9ede15d1c25464bbe8d9c932c0c1bcb62f2a5e2092b152b4ca661107d815d", func := "loop.example/g01320/laws.FnExactZoneTrains", spec := "fnExactZoneTrains", apart := false }
def FnExactZoneTrainsSaid : Prop := fnExactZoneTrainsRow.holds Try.pinned (OpenSpec.ofChange fnExactZoneTrainsSpec)

/-- ITS FALSE NEIGHBOUR: 'it returns false'. Refute it at one input. -/
def fnExactZoneTrainsWrong : ChangeSpec := { name := "fnExactZoneTrains", fn := fun _ => fun
  | [d1, d2, d3, d4] => { results := [.lit (.bool false)], args := [d1, d2, d3, d4] }
  | _ => none }
def FnExactZoneTrainsWrongFalsely : Prop := fnExactZoneTrainsRow.holds Try.pinned (OpenSpec.ofChange fnExactZoneTrainsWrong)

/-- 'laws.FnExactTurnTimes': WHATEVER THE INPUT: true; the input reads as it did. -/
def fnExactTurnTimesSpec : ChangeSpec := { name := "fnExactTurnTimes", fn := fun _ => fun
  | [d1, d2, d3, d4] => { results := [.lit (.bool true)], args := [d1, d2, d3, d4] }
  | _ => none }
def fnExactTurnTimesRow : OpenClaim := { program := "ytlohgpbhebmefaa", sum := "52c9ede15d1c25464bbe8d9c932c0c1bcb62f2a5e2092b152b4ca661107d815d", func := "loop.example/g01320/laws.FnExactTurnTimes", spec := "fnExactTurnTimes", apart := false }
def FnExactTurnTimesSaid : Prop := fnExactTurnTimesRow.holds Try.pinned (OpenSpec.ofChange fnExactTurnTimesSpec)

/-- ITS FALSE NEIGHBOUR: 'it returns false'. Refute it at one input. -/
def fnExactTurnTimesWrong : ChangeSpec := { name := "fnExactTurnTimes", fn := fun _ => fun
  | [d1, d2, d3, d4] => { results := [.lit (.bool false)], args := [d1, d2, d3, d4] }
  | _ => none }
def FnExactTurnTimesWrongFalsely : Prop := fnExactTurnTimesRow.holds Try.pinned (OpenSpec.ofChange fnExactTurnTimesWrong)

/- THE SECOND FORM. 'bulk': how many values and letters a reading holds, each counted each time it is reached (what is shared counts as often as it is met; a slice's spare places count too). A statement '..UptoSaid' is the law's where the arguments, and the package variables that the reading takes, are together of bulk at most 1048576: NARROWER than '..Said'. Prove '..Said' where nothing that the law and all that it calls make is longer than what came in: it says more and counts as full. Else prove '..UptoSaid'. A law counts once. -/
mutual
def uptoBulk {H : Type} : DataW H → Nat
  | .lit (.string bytes) => bytes.length + 1
  | .lit _ => 1
  | .nil => 1
  | .ptr d => uptoBulk d + 1
  | .slice elems spare => uptoBulkAll elems + uptoBulkAll spare + 1
  | .agg parts => uptoBulkAll parts + 1
  | .iface _ d => uptoBulk d + 1
  | .map entries => uptoBulkEntries entries + 1
  | .held _ => 1
def uptoBulkAll {H : Type} : List (DataW H) → Nat
  | [] => 0
  | d :: r => uptoBulk d + uptoBulkAll r
def uptoBulkEntries {H : Type} : List (Lit × DataW H) → Nat
  | [] => 0
  | x :: r => uptoBulkEntry x + uptoBulkEntries r
def uptoBulkEntry {H : Type} : Lit × DataW H → Nat
  | (.string bytes, d) => bytes.length + uptoBulk d + 1
  | (_, d) => uptoBulk d + 1
 end
def uptoSmall : (H : Type) → List (DataW H) → Bool := fun _ ds => decide (uptoBulkAll ds ≤ 1048576)
def OpenSpec.upto (s : _root_.Go.ChangeSpec) : _root_.Go.OpenSpec := { _root_.Go.OpenSpec.ofChange s with cond := some uptoSmall }

/-- 'laws.FnExactMixTrains', WHERE WHAT IT READS IS OF BULK AT MOST 1048576: true; the input reads as it did. -/
def fnExactMixTrainsUptoRow : OpenClaim := { program := "ytlohgpbhebmefaa", sum := "52c9ede15d1c25464bbe8d9c932c0c1bcb62f2a5e2092b152b4ca661107d815d", func := "loop.example/g01320/laws.FnExactMixTrains", spec := "fnExactMixTrains", apart := false, narrowed := true }
def FnExactMixTrainsUptoSaid : Prop := fnExactMixTrainsUptoRow.holds Try.pinned (OpenSpec.upto fnExactMixTrainsSpec)

/-- 'laws.FnExactAddRoller', WHERE WHAT IT READS IS OF BULK AT MOST 1048576: true; the input reads as it did. -/
def fnExactAddRollerUptoRow : OpenClaim := { program := "ytlohgpbhebmefaa", sum := "52c9ede15d1c25464bbe8d9c932c0c1bcb62f2a5e2092b152b4ca661107d815d", func := "loop.example/g01320/laws.FnExactAddRoller", spec := "fnExactAddRoller", apart := false, narrowed := true }
def FnExactAddRollerUptoSaid : Prop := fnExactAddRollerUptoRow.holds Try.pinned (OpenSpec.upto fnExactAddRollerSpec)

/-- 'laws.FnExactDropRoller', WHERE WHAT IT READS IS OF BULK AT MOST 1048576: true; the input reads as it did. -/
def fnExactDropRollerUptoRow : OpenClaim := { program := "ytlohgpbhebmefaa", sum := "52c9ede15d1c25464bbe8d9c932c0c1bcb62f2a5e2092b152b4ca661107d815d", func := "loop.example/g01320/laws.FnExactDropRoller", spec := "fnExactDropRoller", apart := false, narrowed := true }
def FnExactDropRollerUptoSaid : Prop := fnExactDropRollerUptoRow.holds Try.pinned (OpenSpec.upto fnExactDropRollerSpec)

/-- 'laws.FnExactOverPlate', WHERE WHAT IT READS IS OF BULK AT MOST 1048576: true; the input reads as it did. -/
def fnExactOverPlateUptoRow : OpenClaim := { program := "ytlohgpbhebmefaa", sum := "52c9ede15d1c25464bbe8d9c932c0c1bcb62f2a5e2092b152b4ca661107d815d", func := "loop.example/g01320/laws.FnExactOverPlate", spec := "fnExactOverPlate", unfollowed := true, recurses := true, apart := false, narrowed := true }
def FnExactOverPlateUptoSaid : Prop := fnExactOverPlateUptoRow.holds Try.pinned (OpenSpec.upto fnExactOverPlateSpec)

/-- 'laws.FnExactGainPlate', WHERE WHAT IT READS IS OF BULK AT MOST 1048576: true; the input reads as it did. -/
def fnExactGainPlateUptoRow : OpenClaim := { program := "ytlohgpbhebmefaa", sum := "52c9ede15d1c25464bbe8d9c932c0c1bcb62f2a5e2092b152b4ca661107d815d", func := "loop.example/g01320/laws.FnExactGainPlate", spec := "fnExactGainPlate", unfollowed := true, recurses := true, apart := false, narrowed := true }
def FnExactGainPlateUptoSaid : Prop := fnExactGainPlateUptoRow.holds Try.pinned (OpenSpec.upto fnExactGainPlateSpec)

/-- 'laws.FnExactTurnOnce', WHERE WHAT IT READS IS OF BULK AT MOST 1048576: true; the input reads as it did. -/
def fnExactTurnOnceUptoRow : OpenClaim := { program := "ytlohgpbhebmefaa", sum := "52c9ede15d1c25464bbe8d9c932c0c1bcb62f2a5e2092b152b4ca661107d815d", func := "loop.example/g01320/laws.FnExactTurnOnce", spec := "fnExactTurnOnce", apart := false, narrowed := true }
def FnExactTurnOnceUptoSaid : Prop := fnExactTurnOnceUptoRow.holds Try.pinned (OpenSpec.upto fnExactTurnOnceSpec)

/-- 'laws.FnExactPrintedIn', WHERE WHAT IT READS IS OF BULK AT MOST 1048576: true; the input reads as it did. -/
def fnExactPrintedInUptoRow : OpenClaim := { program := "ytlohgpbhebmefaa", sum := "52c9ede15d1c25464bbe8d9c932c0c1bcb62f2a5e2092b152b4ca661107d815d", func := "loop.example/g01320/laws.FnExactPrintedIn", spec := "fnExactPrintedIn", apart := false, narrowed := true }
def FnExactPrintedInUptoSaid : Prop := fnExactPrintedInUptoRow.holds Try.pinned (OpenSpec.upto fnExactPrintedInSpec)

/-- 'laws.FnExactTurnsUntilSteady', WHERE WHAT IT READS IS OF BULK AT MOST 1048576: true; the input reads as it did. -/
def fnExactTurnsUntilSteadyUptoRow : OpenClaim := { program := "ytlohgpbhebmefaa", sum := "52c9ede15d1c25464bbe8d9c932c0c1bcb62f2a5e2092b152b4ca661107d815d", func := "loop.example/g01320/laws.FnExactTurnsUntilSteady", spec := "fnExactTurnsUntilSteady", inPlace := ["math.Float64bits", "math.Float64frombits"], apart := false, narrowed := true }
def FnExactTurnsUntilSteadyUptoSaid : Prop := fnExactTurnsUntilSteadyUptoRow.holds Try.pinned (OpenSpec.upto fnExactTurnsUntilSteadySpec)

/-- 'laws.FnExactZoneTrains', WHERE WHAT IT READS IS OF BULK AT MOST 1048576: true; the input reads as it did. -/
def fnExactZoneTrainsUptoRow : OpenClaim := { program := "ytlohgpbhebmefaa", sum := "52c9ede15d1c25464bbe8d9c932c0c1bcb62f2a5e2092b152b4ca661107d815d", func := "loop.example/g01320/laws.FnExactZoneTrains", spec := "fnExactZoneTrains", apart := false, narrowed := true }
def FnExactZoneTrainsUptoSaid : Prop := fnExactZoneTrainsUptoRow.holds Try.pinned (OpenSpec.upto fnExactZoneTrainsSpec)

/-- 'laws.FnExactTurnTimes', WHERE WHAT IT READS IS OF BULK AT MOST 1048576: true; the input reads as it did. -/
def fnExactTurnTimesUptoRow : OpenClaim := { program := "ytlohgpbhebmefaa", sum := "52c9ede15d1c25464bbe8d9c932c0c1bcb62f2a5e2092b152b4ca661107d815d", func := "loop.example/g01320/laws.FnExactTurnTimes", spec := "fnExactTurnTimes", apart := false, narrowed := true }
def FnExactTurnTimesUptoSaid : Prop := fnExactTurnTimesUptoRow.holds Try.pinned (OpenSpec.upto fnExactTurnTimesSpec)

end Rows
end Go.Proofs.Ytlohgpbhebmefaa
