/-
  No cell of these rows narrows 'for every input' (looked for: loops, veiled, ifaces, maps, wideKeys, modest, calm, conditions, laid).
  DERIVED. THE GIVEN ROWS OF THIS SEAT. 12 by the template 'for every input the law returns true; each argument reads behind the call as it read before'; 0 by the template 'total and deterministic' (their statements: YtjlbnlghpecanaaTotals.lean).
  GIVEN WITH THE SEED: the statements are not yours to turn. If you find one false, say at which input.
  Laid BY PROGRAM, IN A SANDBOX (cutbox-rows.mjs): the forced cells as the released guide's own fill.sh prints them over the translation 29f16fd7bd9a3a06… (all of the seat's roots in one cut). By AI agents, Wed Nov 11 2026. No macro, syntax, notation, axiom, sorry.
-/
import Derived.Test.YtjlbnlghpecanaaChecked
import GoSem.Claim
import GoSem.ClaimJoined
import GoSem.ClaimMapViews
import Derived.JoinedTies
import Derived.KernelRfl
namespace Go.Proofs.Ytjlbnlghpecanaa
/- THE CELL 'sum', in the pinned program and in every row, IS THE sha256 OF THE DUMP (.gsa) THAT YtjlbnlghpecanaaProg.lean LOADS. Nothing in Lean hashes anything: it is a label: what it is worth is what the hold of that sum in a sandbox is worth. -/
noncomputable def Try.pinned : Pinned := { name := "ytjlbnlghpecanaa", sum := "29f16fd7bd9a3a06b751dddf7bb4af271a908e375b5b333226cc893e28a0a0b8", checked := Try.checked }
namespace Rows
def none {H : Type} : Left H := { results := [], args := [] }

/-- 'laws.FnExactLightOf': WHATEVER THE INPUT: true; the input reads as it did. -/
def fnExactLightOfSpec : ChangeSpec := { name := "fnExactLightOf", fn := fun _ => fun
  | [d1, d2] => { results := [.lit (.bool true)], args := [d1, d2] }
  | _ => none }
def fnExactLightOfRow : OpenClaim := { program := "ytjlbnlghpecanaa", sum := "29f16fd7bd9a3a06b751dddf7bb4af271a908e375b5b333226cc893e28a0a0b8", func := "loop.example/g01320/laws.FnExactLightOf", spec := "fnExactLightOf", apart := false }
def FnExactLightOfSaid : Prop := fnExactLightOfRow.holds Try.pinned (OpenSpec.ofChange fnExactLightOfSpec)

/-- ITS FALSE NEIGHBOUR: 'it returns false'. Refute it at one input. -/
def fnExactLightOfWrong : ChangeSpec := { name := "fnExactLightOf", fn := fun _ => fun
  | [d1, d2] => { results := [.lit (.bool false)], args := [d1, d2] }
  | _ => none }
def FnExactLightOfWrongFalsely : Prop := fnExactLightOfRow.holds Try.pinned (OpenSpec.ofChange fnExactLightOfWrong)

/-- 'laws.FnExactDotFor': WHATEVER THE INPUT: true; the input reads as it did. -/
def fnExactDotForSpec : ChangeSpec := { name := "fnExactDotFor", fn := fun _ => fun
  | [d1, d2] => { results := [.lit (.bool true)], args := [d1, d2] }
  | _ => none }
def fnExactDotForRow : OpenClaim := { program := "ytjlbnlghpecanaa", sum := "29f16fd7bd9a3a06b751dddf7bb4af271a908e375b5b333226cc893e28a0a0b8", func := "loop.example/g01320/laws.FnExactDotFor", spec := "fnExactDotFor", apart := false }
def FnExactDotForSaid : Prop := fnExactDotForRow.holds Try.pinned (OpenSpec.ofChange fnExactDotForSpec)

/-- ITS FALSE NEIGHBOUR: 'it returns false'. Refute it at one input. -/
def fnExactDotForWrong : ChangeSpec := { name := "fnExactDotFor", fn := fun _ => fun
  | [d1, d2] => { results := [.lit (.bool false)], args := [d1, d2] }
  | _ => none }
def FnExactDotForWrongFalsely : Prop := fnExactDotForRow.holds Try.pinned (OpenSpec.ofChange fnExactDotForWrong)

/-- 'laws.FnExactSameTrain': WHATEVER THE INPUT: true; the input reads as it did. -/
def fnExactSameTrainSpec : ChangeSpec := { name := "fnExactSameTrain", fn := fun _ => fun
  | [d1, d2] => { results := [.lit (.bool true)], args := [d1, d2] }
  | _ => none }
def fnExactSameTrainRow : OpenClaim := { program := "ytjlbnlghpecanaa", sum := "29f16fd7bd9a3a06b751dddf7bb4af271a908e375b5b333226cc893e28a0a0b8", func := "loop.example/g01320/laws.FnExactSameTrain", spec := "fnExactSameTrain", inPlace := ["math.Float32bits", "math.Float64bits"], apart := false }
def FnExactSameTrainSaid : Prop := fnExactSameTrainRow.holds Try.pinned (OpenSpec.ofChange fnExactSameTrainSpec)

/-- ITS FALSE NEIGHBOUR: 'it returns false'. Refute it at one input. -/
def fnExactSameTrainWrong : ChangeSpec := { name := "fnExactSameTrain", fn := fun _ => fun
  | [d1, d2] => { results := [.lit (.bool false)], args := [d1, d2] }
  | _ => none }
def FnExactSameTrainWrongFalsely : Prop := fnExactSameTrainRow.holds Try.pinned (OpenSpec.ofChange fnExactSameTrainWrong)

/-- 'laws.FnExactGainDot': WHATEVER THE INPUT: true; the input reads as it did. -/
def fnExactGainDotSpec : ChangeSpec := { name := "fnExactGainDot", fn := fun _ => fun
  | [d1, d2] => { results := [.lit (.bool true)], args := [d1, d2] }
  | _ => none }
def fnExactGainDotRow : OpenClaim := { program := "ytjlbnlghpecanaa", sum := "29f16fd7bd9a3a06b751dddf7bb4af271a908e375b5b333226cc893e28a0a0b8", func := "loop.example/g01320/laws.FnExactGainDot", spec := "fnExactGainDot", apart := false }
def FnExactGainDotSaid : Prop := fnExactGainDotRow.holds Try.pinned (OpenSpec.ofChange fnExactGainDotSpec)

/-- ITS FALSE NEIGHBOUR: 'it returns false'. Refute it at one input. -/
def fnExactGainDotWrong : ChangeSpec := { name := "fnExactGainDot", fn := fun _ => fun
  | [d1, d2] => { results := [.lit (.bool false)], args := [d1, d2] }
  | _ => none }
def FnExactGainDotWrongFalsely : Prop := fnExactGainDotRow.holds Try.pinned (OpenSpec.ofChange fnExactGainDotWrong)

/-- 'laws.FnExactValidTrain': WHATEVER THE INPUT: true; the input reads as it did. -/
def fnExactValidTrainSpec : ChangeSpec := { name := "fnExactValidTrain", fn := fun _ => fun
  | [d] => { results := [.lit (.bool true)], args := [d] }
  | _ => none }
def fnExactValidTrainRow : OpenClaim := { program := "ytjlbnlghpecanaa", sum := "29f16fd7bd9a3a06b751dddf7bb4af271a908e375b5b333226cc893e28a0a0b8", func := "loop.example/g01320/laws.FnExactValidTrain", spec := "fnExactValidTrain", apart := false }
def FnExactValidTrainSaid : Prop := fnExactValidTrainRow.holds Try.pinned (OpenSpec.ofChange fnExactValidTrainSpec)

/-- ITS FALSE NEIGHBOUR: 'it returns false'. Refute it at one input. -/
def fnExactValidTrainWrong : ChangeSpec := { name := "fnExactValidTrain", fn := fun _ => fun
  | [d] => { results := [.lit (.bool false)], args := [d] }
  | _ => none }
def FnExactValidTrainWrongFalsely : Prop := fnExactValidTrainRow.holds Try.pinned (OpenSpec.ofChange fnExactValidTrainWrong)

/-- 'laws.FnExactEmptyTrain': WHATEVER THE INPUT: true; the input reads as it did. -/
def fnExactEmptyTrainSpec : ChangeSpec := { name := "fnExactEmptyTrain", fn := fun _ => fun
  | [d1, d2, d3] => { results := [.lit (.bool true)], args := [d1, d2, d3] }
  | _ => none }
def fnExactEmptyTrainRow : OpenClaim := { program := "ytjlbnlghpecanaa", sum := "29f16fd7bd9a3a06b751dddf7bb4af271a908e375b5b333226cc893e28a0a0b8", func := "loop.example/g01320/laws.FnExactEmptyTrain", spec := "fnExactEmptyTrain", apart := false }
def FnExactEmptyTrainSaid : Prop := fnExactEmptyTrainRow.holds Try.pinned (OpenSpec.ofChange fnExactEmptyTrainSpec)

/-- ITS FALSE NEIGHBOUR: 'it returns false'. Refute it at one input. -/
def fnExactEmptyTrainWrong : ChangeSpec := { name := "fnExactEmptyTrain", fn := fun _ => fun
  | [d1, d2, d3] => { results := [.lit (.bool false)], args := [d1, d2, d3] }
  | _ => none }
def FnExactEmptyTrainWrongFalsely : Prop := fnExactEmptyTrainRow.holds Try.pinned (OpenSpec.ofChange fnExactEmptyTrainWrong)

/-- 'laws.FnExactFilmsFall': WHATEVER THE INPUT: true; the input reads as it did. -/
def fnExactFilmsFallSpec : ChangeSpec := { name := "fnExactFilmsFall", fn := fun _ => fun
  | [d] => { results := [.lit (.bool true)], args := [d] }
  | _ => none }
def fnExactFilmsFallRow : OpenClaim := { program := "ytjlbnlghpecanaa", sum := "29f16fd7bd9a3a06b751dddf7bb4af271a908e375b5b333226cc893e28a0a0b8", func := "loop.example/g01320/laws.FnExactFilmsFall", spec := "fnExactFilmsFall", apart := false }
def FnExactFilmsFallSaid : Prop := fnExactFilmsFallRow.holds Try.pinned (OpenSpec.ofChange fnExactFilmsFallSpec)

/-- ITS FALSE NEIGHBOUR: 'it returns false'. Refute it at one input. -/
def fnExactFilmsFallWrong : ChangeSpec := { name := "fnExactFilmsFall", fn := fun _ => fun
  | [d] => { results := [.lit (.bool false)], args := [d] }
  | _ => none }
def FnExactFilmsFallWrongFalsely : Prop := fnExactFilmsFallRow.holds Try.pinned (OpenSpec.ofChange fnExactFilmsFallWrong)

/-- 'laws.FnExactLoseGain': WHATEVER THE INPUT: true; the input reads as it did. -/
def fnExactLoseGainSpec : ChangeSpec := { name := "fnExactLoseGain", fn := fun _ => fun
  | [d1, d2] => { results := [.lit (.bool true)], args := [d1, d2] }
  | _ => none }
def fnExactLoseGainRow : OpenClaim := { program := "ytjlbnlghpecanaa", sum := "29f16fd7bd9a3a06b751dddf7bb4af271a908e375b5b333226cc893e28a0a0b8", func := "loop.example/g01320/laws.FnExactLoseGain", spec := "fnExactLoseGain", apart := false }
def FnExactLoseGainSaid : Prop := fnExactLoseGainRow.holds Try.pinned (OpenSpec.ofChange fnExactLoseGainSpec)

/-- ITS FALSE NEIGHBOUR: 'it returns false'. Refute it at one input. -/
def fnExactLoseGainWrong : ChangeSpec := { name := "fnExactLoseGain", fn := fun _ => fun
  | [d1, d2] => { results := [.lit (.bool false)], args := [d1, d2] }
  | _ => none }
def FnExactLoseGainWrongFalsely : Prop := fnExactLoseGainRow.holds Try.pinned (OpenSpec.ofChange fnExactLoseGainWrong)

/-- 'laws.FnExactSteadyFed': WHATEVER THE INPUT: true; the input reads as it did. -/
def fnExactSteadyFedSpec : ChangeSpec := { name := "fnExactSteadyFed", fn := fun _ => fun
  | [d1, d2, d3] => { results := [.lit (.bool true)], args := [d1, d2, d3] }
  | _ => none }
def fnExactSteadyFedRow : OpenClaim := { program := "ytjlbnlghpecanaa", sum := "29f16fd7bd9a3a06b751dddf7bb4af271a908e375b5b333226cc893e28a0a0b8", func := "loop.example/g01320/laws.FnExactSteadyFed", spec := "fnExactSteadyFed", apart := false }
def FnExactSteadyFedSaid : Prop := fnExactSteadyFedRow.holds Try.pinned (OpenSpec.ofChange fnExactSteadyFedSpec)

/-- ITS FALSE NEIGHBOUR: 'it returns false'. Refute it at one input. -/
def fnExactSteadyFedWrong : ChangeSpec := { name := "fnExactSteadyFed", fn := fun _ => fun
  | [d1, d2, d3] => { results := [.lit (.bool false)], args := [d1, d2, d3] }
  | _ => none }
def FnExactSteadyFedWrongFalsely : Prop := fnExactSteadyFedRow.holds Try.pinned (OpenSpec.ofChange fnExactSteadyFedWrong)

/-- 'laws.FnExactThickestRoller': WHATEVER THE INPUT: true; the input reads as it did. -/
def fnExactThickestRollerSpec : ChangeSpec := { name := "fnExactThickestRoller", fn := fun _ => fun
  | [d] => { results := [.lit (.bool true)], args := [d] }
  | _ => none }
def fnExactThickestRollerRow : OpenClaim := { program := "ytjlbnlghpecanaa", sum := "29f16fd7bd9a3a06b751dddf7bb4af271a908e375b5b333226cc893e28a0a0b8", func := "loop.example/g01320/laws.FnExactThickestRoller", spec := "fnExactThickestRoller", apart := false }
def FnExactThickestRollerSaid : Prop := fnExactThickestRollerRow.holds Try.pinned (OpenSpec.ofChange fnExactThickestRollerSpec)

/-- ITS FALSE NEIGHBOUR: 'it returns false'. Refute it at one input. -/
def fnExactThickestRollerWrong : ChangeSpec := { name := "fnExactThickestRoller", fn := fun _ => fun
  | [d] => { results := [.lit (.bool false)], args := [d] }
  | _ => none }
def FnExactThickestRollerWrongFalsely : Prop := fnExactThickestRollerRow.holds Try.pinned (OpenSpec.ofChange fnExactThickestRollerWrong)

/-- 'laws.FnExactInkOn': WHATEVER THE INPUT: true; the input reads as it did. -/
def fnExactInkOnSpec : ChangeSpec := { name := "fnExactInkOn", fn := fun _ => fun
  | [d] => { results := [.lit (.bool true)], args := [d] }
  | _ => none }
def fnExactInkOnRow : OpenClaim := { program := "ytjlbnlghpecanaa", sum := "29f16fd7bd9a3a06b751dddf7bb4af271a908e375b5b333226cc893e28a0a0b8", func := "loop.example/g01320/laws.FnExactInkOn", spec := "fnExactInkOn", apart := false }
def FnExactInkOnSaid : Prop := fnExactInkOnRow.holds Try.pinned (OpenSpec.ofChange fnExactInkOnSpec)

/-- ITS FALSE NEIGHBOUR: 'it returns false'. Refute it at one input. -/
def fnExactInkOnWrong : ChangeSpec := { name := "fnExactInkOn", fn := fun _ => fun
  | [d] => { results := [.lit (.bool false)], args := [d] }
  | _ => none }
def FnExactInkOnWrongFalsely : Prop := fnExactInkOnRow.holds Try.pinned (OpenSpec.ofChange fnExactInkOnWrong)

/-- 'laws.FnExactWashTrain': WHATEVER THE INPUT: true; the input reads as it did. -/
def fnExactWashTrainSpec : ChangeSpec := { name := "fnExactWashTrain", fn := fun _ => fun
  | [d1, d2] => { results := [.lit (.bool true)], args := [d1, d2] }
  | _ => none }
def fnExactWashTrainRow : OpenClaim := { program := "ytjlbnlghpecanaa", sum := "29f16fd7bd9a3a06b751dddf7bb4af271a908e375b5b333226cc893e28a0a0b8", func := "loop.example/g01320/laws.FnExactWashTrain", spec := "fnExactWashTrain", apart := false }
def FnExactWashTrainSaid : Prop := fnExactWashTrainRow.holds Try.pinned (OpenSpec.ofChange fnExactWashTrainSpec)

/-- ITS FALSE NEIGHBOUR: 'it returns false'. Refute it at one input. -/
def fnExactWashTrainWrong : ChangeSpec := { name := "fnExactWashTrain", fn := fun _ => fun
  | [d1, d2] => { results := [.lit (.bool false)], args := [d1, d2] }
  | _ => none }
def FnExactWashTrainWrongFalsely : Prop := fnExactWashTrainRow.holds Try.pinned (OpenSpec.ofChange fnExactWashTrainWrong)

/- THE SECOND FORM. 'bulk': how many values and letters a reading holds, each counted each time it is reached (what is shared counts as often as it is met; a slice's spare places count too). A statement '..UptoSaid' is the law's where the arguments, and the package variables that the reading takes, are together of bulk at most 1048576: NARROWER than '..Said'. Prove '..Said' where nothing that the law and all that it calls make is longer than what came in: it says more and counts as full. Else prove '..UptoSaid'. A law counts once. -/
mutual
def uptoBulk {H : Type} : DataW H → Nat
  | .lit (.string bytes) => bytes.length + 1
  | .lit _ => 1
  | .nil => 1
  | .ptr d => uptoBulk d + 1
  | .slice elems spare => uptoBulkAll elems + uptoBulkAll spare + 1
  | .agg parts => uptoBulkAll parts + 1
  | .iface _ d => uptoBulk d + 1
  | .map entries => uptoBulkEntries entries + 1
  | .held _ => 1
def uptoBulkAll {H : Type} : List (DataW H) → Nat
  | [] => 0
  | d :: r => uptoBulk d + uptoBulkAll r
def uptoBulkEntries {H : Type} : List (Lit × DataW H) → Nat
  | [] => 0
  | x :: r => uptoBulkEntry x + uptoBulkEntries r
def uptoBulkEntry {H : Type} : Lit × DataW H → Nat
  | (.string bytes, d) => bytes.length + uptoBulk d + 1
  | (_, d) => uptoBulk d + 1
 end
def uptoSmall : (H : Type) → List (DataW H) → Bool := fun _ ds => decide (uptoBulkAll ds ≤ 1048576)
def OpenSpec.upto (s : _root_.Go.ChangeSpec) : _root_.Go.OpenSpec := { _root_.Go.OpenSpec.ofChange s with cond := some uptoSmall }

/-- 'laws.FnExactLightOf', WHERE WHAT IT READS IS OF BULK AT MOST 1048576: true; the input reads as it did. -/
def fnExactLightOfUptoRow : OpenClaim := { program := "ytjlbnlghpecanaa", sum := "29f16fd7bd9a3a06b751dddf7bb4af271a908e375b5b333226cc893e28a0a0b8", func := "loop.example/g01320/laws.FnExactLightOf", spec := "fnExactLightOf", apart := false, narrowed := true }
def FnExactLightOfUptoSaid : Prop := fnExactLightOfUptoRow.holds Try.pinned (OpenSpec.upto fnExactLightOfSpec)

/-- 'laws.FnExactDotFor', WHERE WHAT IT READS IS OF BULK AT MOST 1048576: true; the input reads as it did. -/
def fnExactDotForUptoRow : OpenClaim := { program := "ytjlbnlghpecanaa", sum := "29f16fd7bd9a3a06b751dddf7bb4af271a908e375b5b333226cc893e28a0a0b8", func := "loop.example/g01320/laws.FnExactDotFor", spec := "fnExactDotFor", apart := false, narrowed := true }
def FnExactDotForUptoSaid : Prop := fnExactDotForUptoRow.holds Try.pinned (OpenSpec.upto fnExactDotForSpec)

/-- 'laws.FnExactSameTrain', WHERE WHAT IT READS IS OF BULK AT MOST 1048576: true; the input reads as it did. -/
def fnExactSameTrainUptoRow : OpenClaim := { program := "ytjlbnlghpecanaa", sum := "29f16fd7bd9a3a06b751dddf7bb4af271a908e375b5b333226cc893e28a0a0b8", func := "loop.example/g01320/laws.FnExactSameTrain", spec := "fnExactSameTrain", inPlace := ["math.Float32bits", "math.Float64bits"], apart := false, narrowed := true }
def FnExactSameTrainUptoSaid : Prop := fnExactSameTrainUptoRow.holds Try.pinned (OpenSpec.upto fnExactSameTrainSpec)

/-- 'laws.FnExactGainDot', WHERE WHAT IT READS IS OF BULK AT MOST 1048576: true; the input reads as it did. -/
def fnExactGainDotUptoRow : OpenClaim := { program := "ytjlbnlghpecanaa", sum := "29f16fd7bd9a3a06b751dddf7bb4af271a908e375b5b333226cc893e28a0a0b8", func := "loop.example/g01320/laws.FnExactGainDot", spec := "fnExactGainDot", apart := false, narrowed := true }
def FnExactGainDotUptoSaid : Prop := fnExactGainDotUptoRow.holds Try.pinned (OpenSpec.upto fnExactGainDotSpec)

/-- 'laws.FnExactValidTrain', WHERE WHAT IT READS IS OF BULK AT MOST 1048576: true; the input reads as it did. -/
def fnExactValidTrainUptoRow : OpenClaim := { program := "ytjlbnlghpecanaa", sum := "29f16fd7bd9a3a06b751dddf7bb4af271a908e375b5b333226cc893e28a0a0b8", func := "loop.example/g01320/laws.FnExactValidTrain", spec := "fnExactValidTrain", apart := false, narrowed := true }
def FnExactValidTrainUptoSaid : Prop := fnExactValidTrainUptoRow.holds Try.pinned (OpenSpec.upto fnExactValidTrainSpec)

/-- 'laws.FnExactEmptyTrain', WHERE WHAT IT READS IS OF BULK AT MOST 1048576: true; the input reads as it did. -/
def fnExactEmptyTrainUptoRow : OpenClaim := { program := "ytjlbnlghpecanaa", sum := "29f16fd7bd9a3a06b751dddf7bb4af271a908e375b5b333226cc893e28a0a0b8", func := "loop.example/g01320/laws.FnExactEmptyTrain", spec := "fnExactEmptyTrain", apart := false, narrowed := true }
def FnExactEmptyTrainUptoSaid : Prop := fnExactEmptyTrainUptoRow.holds Try.pinned (OpenSpec.upto fnExactEmptyTrainSpec)

/-- 'laws.FnExactFilmsFall', WHERE WHAT IT READS IS OF BULK AT MOST 1048576: true; the input reads as it did. -/
def fnExactFilmsFallUptoRow : OpenClaim := { program := "ytjlbnlghpecanaa", sum := "29f16fd7bd9a3a06b751dddf7bb4af271a908e375b5b333226cc893e28a0a0b8", func := "loop.example/g01320/laws.FnExactFilmsFall", spec := "fnExactFilmsFall", apart := false, narrowed := true }
def FnExactFilmsFallUptoSaid : Prop := fnExactFilmsFallUptoRow.holds Try.pinned (OpenSpec.upto fnExactFilmsFallSpec)

/-- 'laws.FnExactLoseGain', WHERE WHAT IT READS IS OF BULK AT MOST 1048576: true; the input reads as it did. -/
def fnExactLoseGainUptoRow : OpenClaim := { program := "ytjlbnlghpecanaa", sum := "29f16fd7bd9a3a06b751dddf7bb4af271a908e375b5b333226cc893e28a0a0b8", func := "loop.example/g01320/laws.FnExactLoseGain", spec := "fnExactLoseGain", apart := false, narrowed := true }
def FnExactLoseGainUptoSaid : Prop := fnExactLoseGainUptoRow.holds Try.pinned (OpenSpec.upto fnExactLoseGainSpec)

/-- 'laws.FnExactSteadyFed', WHERE WHAT IT READS IS OF BULK AT MOST 1048576: true; the input reads as it did. -/
def fnExactSteadyFedUptoRow : OpenClaim := { program := "ytjlbnlghpecanaa", sum := "29f16fd7bd9a3a06b751dddf7bb4af271a908e375b5b333226cc893e28a0a0b8", func := "loop.example/g01320/laws.FnExactSteadyFed", spec := "fnExactSteadyFed", apart := false, narrowed := true }
def FnExactSteadyFedUptoSaid : Prop := fnExactSteadyFedUptoRow.holds Try.pinned (OpenSpec.upto fnExactSteadyFedSpec)

/-- 'laws.FnExactThickestRoller', WHERE WHAT IT READS IS OF BULK AT MOST 1048576: true; the input reads as it did. -/
def fnExactThickestRollerUptoRow : OpenClaim := { program := "ytjlbnlghpecanaa", sum := "29f16fd7bd9a3a06b751dddf7bb4af271a908e375b5b333226cc893e28a0a0b8", func := "loop.example/g01320/laws.FnExactThickestRoller", spec := "fnExactThickestRoller", apart := false, narrowed := true }
def FnExactThickestRollerUptoSaid : Prop := fnExactThickestRollerUptoRow.holds Try.pinned (OpenSpec.upto fnExactThickestRollerSpec)

/-- 'laws.FnExactInkOn', WHERE WHAT IT READS IS OF BULK AT MOST 1048576: true; the input reads as it did. -/
def fnExactInkOnUptoRow : OpenClaim := { program := "ytjlbnlghpecanaa", sum := "29f16fd7bd9a3a06b751dddf7bb4af271a908e375b5b333226cc893e28a0a0b8", func := "loop.example/g01320/laws.FnExactInkOn", spec := "fnExactInkOn", apart := false, narrowed := true }
def FnExactInkOnUptoSaid : Prop := fnExactInkOnUptoRow.holds Try.pinned (OpenSpec.upto fnExactInkOnSpec)

/-- 'laws.FnExactWashTrain', WHERE WHAT IT READS IS OF BULK AT MOST 1048576: true; the input reads as it did. -/
def fnExactWashTrainUptoRow : OpenClaim := { program := "ytjlbnlghpecanaa", sum := "29f16fd7bd9a3a06b751dddf7bb4af271a908e375b5b333226cc893e28a0a0b8", func := "loop.example/g01320/laws.FnExactWashTrain", spec := "fnExactWashTrain", apart := false, narrowed := true }
def FnExactWashTrainUptoSaid : Prop := fnExactWashTrainUptoRow.holds Try.pinned (OpenSpec.upto fnExactWashTrainSpec)

end Rows
end Go.Proofs.Ytjlbnlghpecanaa
