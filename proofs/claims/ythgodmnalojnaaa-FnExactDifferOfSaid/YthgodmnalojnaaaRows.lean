/-
  No cell of these rows narrows 'for every input' (looked for: loops, veiled, ifaces, maps, wideKeys, modest, calm, conditions, laid).
  DERIVED. THE GIVEN ROWS OF THIS SEAT. 12 by the template 'for every input the law returns true; each argument reads behind the call as it read before'; 0 by the template 'total and deterministic' (their statements: YthgodmnalojnaaaTotals.lean).
  GIVEN WITH THE SEED: the statements are not yours to turn. If you find one false, say at which input.
  Laid BY PROGRAM, IN A SANDBOX (cutbox-rows.mjs): the forced cells as the released guide's own fill.sh prints them over the translation f899981d4f8c0158… (all of the seat's roots in one cut). By AI agents, Wed Nov 11 2026. No macro, syntax, notation, axiom, sorry.
-/
import Derived.Test.YthgodmnalojnaaaChecked
import GoSem.Claim
import GoSem.ClaimJoined
import GoSem.ClaimMapViews
import Derived.JoinedTies
import Derived.KernelRfl
namespace Go.Proofs.Ythgodmnalojnaaa
/- THE CELL 'sum', in the pinned program and in every row, IS THE sha256 OF THE DUMP (.gsa) THAT YthgodmnalojnaaaProg.lean LOADS. Nothing in Lean hashes anything: it is a label: what it is worth is what the hold of that sum in a sandbox is worth. -/
noncomputable def Try.pinned : Pinned := { name := "ythgodmnalojnaaa", sum := "f899981d4f8c0158f0cccd1b32b7c60ce311f22a528c76dc2649fea3ff1e6ee4", checked := Try.checked }
namespace Rows
def none {H : Type} : Left H := { results := [], args := [] }

/-- 'laws.FnExactSamePlate': WHATEVER THE INPUT: true; the input reads as it did. -/
def fnExactSamePlateSpec : ChangeSpec := { name := "fnExactSamePlate", fn := fun _ => fun
  | [d1, d2] => { results := [.lit (.bool true)], args := [d1, d2] }
  | _ => none }
def fnExactSamePlateRow : OpenClaim := { program := "ythgodmnalojnaaa", sum := "f899981d4f8c0158f0cccd1b32b7c60ce311f22a528c76dc2649fea3ff1e6ee4", func := "loop.example/g01320/laws.FnExactSamePlate", spec := "fnExactSamePlate", inPlace := ["math.Float32bits", "math.Float64bits"], apart := false }
def FnExactSamePlateSaid : Prop := fnExactSamePlateRow.holds Try.pinned (OpenSpec.ofChange fnExactSamePlateSpec)

/-- ITS FALSE NEIGHBOUR: 'it returns false'. Refute it at one input. -/
def fnExactSamePlateWrong : ChangeSpec := { name := "fnExactSamePlate", fn := fun _ => fun
  | [d1, d2] => { results := [.lit (.bool false)], args := [d1, d2] }
  | _ => none }
def FnExactSamePlateWrongFalsely : Prop := fnExactSamePlateRow.holds Try.pinned (OpenSpec.ofChange fnExactSamePlateWrong)

/-- 'laws.FnExactValidPlate': WHATEVER THE INPUT: true; the input reads as it did. -/
def fnExactValidPlateSpec : ChangeSpec := { name := "fnExactValidPlate", fn := fun _ => fun
  | [d] => { results := [.lit (.bool true)], args := [d] }
  | _ => none }
def fnExactValidPlateRow : OpenClaim := { program := "ythgodmnalojnaaa", sum := "f899981d4f8c0158f0cccd1b32b7c60ce311f22a528c76dc2649fea3ff1e6ee4", func := "loop.example/g01320/laws.FnExactValidPlate", spec := "fnExactValidPlate", apart := false }
def FnExactValidPlateSaid : Prop := fnExactValidPlateRow.holds Try.pinned (OpenSpec.ofChange fnExactValidPlateSpec)

/-- ITS FALSE NEIGHBOUR: 'it returns false'. Refute it at one input. -/
def fnExactValidPlateWrong : ChangeSpec := { name := "fnExactValidPlate", fn := fun _ => fun
  | [d] => { results := [.lit (.bool false)], args := [d] }
  | _ => none }
def FnExactValidPlateWrongFalsely : Prop := fnExactValidPlateRow.holds Try.pinned (OpenSpec.ofChange fnExactValidPlateWrong)

/-- 'laws.FnExactEvenPlate': WHATEVER THE INPUT: true; the input reads as it did. -/
def fnExactEvenPlateSpec : ChangeSpec := { name := "fnExactEvenPlate", fn := fun _ => fun
  | [d1, d2, d3] => { results := [.lit (.bool true)], args := [d1, d2, d3] }
  | _ => none }
def fnExactEvenPlateRow : OpenClaim := { program := "ythgodmnalojnaaa", sum := "f899981d4f8c0158f0cccd1b32b7c60ce311f22a528c76dc2649fea3ff1e6ee4", func := "loop.example/g01320/laws.FnExactEvenPlate", spec := "fnExactEvenPlate", unfollowed := true, recurses := true, apart := false }
def FnExactEvenPlateSaid : Prop := fnExactEvenPlateRow.holds Try.pinned (OpenSpec.ofChange fnExactEvenPlateSpec)

/-- ITS FALSE NEIGHBOUR: 'it returns false'. Refute it at one input. -/
def fnExactEvenPlateWrong : ChangeSpec := { name := "fnExactEvenPlate", fn := fun _ => fun
  | [d1, d2, d3] => { results := [.lit (.bool false)], args := [d1, d2, d3] }
  | _ => none }
def FnExactEvenPlateWrongFalsely : Prop := fnExactEvenPlateRow.holds Try.pinned (OpenSpec.ofChange fnExactEvenPlateWrong)

/-- 'laws.FnExactDotAt': WHATEVER THE INPUT: true; the input reads as it did. -/
def fnExactDotAtSpec : ChangeSpec := { name := "fnExactDotAt", fn := fun _ => fun
  | [d1, d2, d3] => { results := [.lit (.bool true)], args := [d1, d2, d3] }
  | _ => none }
def fnExactDotAtRow : OpenClaim := { program := "ythgodmnalojnaaa", sum := "f899981d4f8c0158f0cccd1b32b7c60ce311f22a528c76dc2649fea3ff1e6ee4", func := "loop.example/g01320/laws.FnExactDotAt", spec := "fnExactDotAt", apart := false }
def FnExactDotAtSaid : Prop := fnExactDotAtRow.holds Try.pinned (OpenSpec.ofChange fnExactDotAtSpec)

/-- ITS FALSE NEIGHBOUR: 'it returns false'. Refute it at one input. -/
def fnExactDotAtWrong : ChangeSpec := { name := "fnExactDotAt", fn := fun _ => fun
  | [d1, d2, d3] => { results := [.lit (.bool false)], args := [d1, d2, d3] }
  | _ => none }
def FnExactDotAtWrongFalsely : Prop := fnExactDotAtRow.holds Try.pinned (OpenSpec.ofChange fnExactDotAtWrong)

/-- 'laws.FnExactDarkestCell': WHATEVER THE INPUT: true; the input reads as it did. -/
def fnExactDarkestCellSpec : ChangeSpec := { name := "fnExactDarkestCell", fn := fun _ => fun
  | [d] => { results := [.lit (.bool true)], args := [d] }
  | _ => none }
def fnExactDarkestCellRow : OpenClaim := { program := "ythgodmnalojnaaa", sum := "f899981d4f8c0158f0cccd1b32b7c60ce311f22a528c76dc2649fea3ff1e6ee4", func := "loop.example/g01320/laws.FnExactDarkestCell", spec := "fnExactDarkestCell", apart := false }
def FnExactDarkestCellSaid : Prop := fnExactDarkestCellRow.holds Try.pinned (OpenSpec.ofChange fnExactDarkestCellSpec)

/-- ITS FALSE NEIGHBOUR: 'it returns false'. Refute it at one input. -/
def fnExactDarkestCellWrong : ChangeSpec := { name := "fnExactDarkestCell", fn := fun _ => fun
  | [d] => { results := [.lit (.bool false)], args := [d] }
  | _ => none }
def FnExactDarkestCellWrongFalsely : Prop := fnExactDarkestCellRow.holds Try.pinned (OpenSpec.ofChange fnExactDarkestCellWrong)

/-- 'laws.FnExactCoverOf': WHATEVER THE INPUT: true; the input reads as it did. -/
def fnExactCoverOfSpec : ChangeSpec := { name := "fnExactCoverOf", fn := fun _ => fun
  | [d] => { results := [.lit (.bool true)], args := [d] }
  | _ => none }
def fnExactCoverOfRow : OpenClaim := { program := "ythgodmnalojnaaa", sum := "f899981d4f8c0158f0cccd1b32b7c60ce311f22a528c76dc2649fea3ff1e6ee4", func := "loop.example/g01320/laws.FnExactCoverOf", spec := "fnExactCoverOf", apart := false }
def FnExactCoverOfSaid : Prop := fnExactCoverOfRow.holds Try.pinned (OpenSpec.ofChange fnExactCoverOfSpec)

/-- ITS FALSE NEIGHBOUR: 'it returns false'. Refute it at one input. -/
def fnExactCoverOfWrong : ChangeSpec := { name := "fnExactCoverOf", fn := fun _ => fun
  | [d] => { results := [.lit (.bool false)], args := [d] }
  | _ => none }
def FnExactCoverOfWrongFalsely : Prop := fnExactCoverOfRow.holds Try.pinned (OpenSpec.ofChange fnExactCoverOfWrong)

/-- 'laws.FnExactWithDot': WHATEVER THE INPUT: true; the input reads as it did. -/
def fnExactWithDotSpec : ChangeSpec := { name := "fnExactWithDot", fn := fun _ => fun
  | [d1, d2, d3, d4] => { results := [.lit (.bool true)], args := [d1, d2, d3, d4] }
  | _ => none }
def fnExactWithDotRow : OpenClaim := { program := "ythgodmnalojnaaa", sum := "f899981d4f8c0158f0cccd1b32b7c60ce311f22a528c76dc2649fea3ff1e6ee4", func := "loop.example/g01320/laws.FnExactWithDot", spec := "fnExactWithDot", apart := false }
def FnExactWithDotSaid : Prop := fnExactWithDotRow.holds Try.pinned (OpenSpec.ofChange fnExactWithDotSpec)

/-- ITS FALSE NEIGHBOUR: 'it returns false'. Refute it at one input. -/
def fnExactWithDotWrong : ChangeSpec := { name := "fnExactWithDot", fn := fun _ => fun
  | [d1, d2, d3, d4] => { results := [.lit (.bool false)], args := [d1, d2, d3, d4] }
  | _ => none }
def FnExactWithDotWrongFalsely : Prop := fnExactWithDotRow.holds Try.pinned (OpenSpec.ofChange fnExactWithDotWrong)

/-- 'laws.FnExactZonesOf': WHATEVER THE INPUT: true; the input reads as it did. -/
def fnExactZonesOfSpec : ChangeSpec := { name := "fnExactZonesOf", fn := fun _ => fun
  | [d] => { results := [.lit (.bool true)], args := [d] }
  | _ => none }
def fnExactZonesOfRow : OpenClaim := { program := "ythgodmnalojnaaa", sum := "f899981d4f8c0158f0cccd1b32b7c60ce311f22a528c76dc2649fea3ff1e6ee4", func := "loop.example/g01320/laws.FnExactZonesOf", spec := "fnExactZonesOf", apart := false }
def FnExactZonesOfSaid : Prop := fnExactZonesOfRow.holds Try.pinned (OpenSpec.ofChange fnExactZonesOfSpec)

/-- ITS FALSE NEIGHBOUR: 'it returns false'. Refute it at one input. -/
def fnExactZonesOfWrong : ChangeSpec := { name := "fnExactZonesOf", fn := fun _ => fun
  | [d] => { results := [.lit (.bool false)], args := [d] }
  | _ => none }
def FnExactZonesOfWrongFalsely : Prop := fnExactZonesOfRow.holds Try.pinned (OpenSpec.ofChange fnExactZonesOfWrong)

/-- 'laws.FnExactInvertPlate': WHATEVER THE INPUT: true; the input reads as it did. -/
def fnExactInvertPlateSpec : ChangeSpec := { name := "fnExactInvertPlate", fn := fun _ => fun
  | [d] => { results := [.lit (.bool true)], args := [d] }
  | _ => none }
def fnExactInvertPlateRow : OpenClaim := { program := "ythgodmnalojnaaa", sum := "f899981d4f8c0158f0cccd1b32b7c60ce311f22a528c76dc2649fea3ff1e6ee4", func := "loop.example/g01320/laws.FnExactInvertPlate", spec := "fnExactInvertPlate", unfollowed := true, recurses := true, apart := false }
def FnExactInvertPlateSaid : Prop := fnExactInvertPlateRow.holds Try.pinned (OpenSpec.ofChange fnExactInvertPlateSpec)

/-- ITS FALSE NEIGHBOUR: 'it returns false'. Refute it at one input. -/
def fnExactInvertPlateWrong : ChangeSpec := { name := "fnExactInvertPlate", fn := fun _ => fun
  | [d] => { results := [.lit (.bool false)], args := [d] }
  | _ => none }
def FnExactInvertPlateWrongFalsely : Prop := fnExactInvertPlateRow.holds Try.pinned (OpenSpec.ofChange fnExactInvertPlateWrong)

/-- 'laws.FnExactMirrorPlate': WHATEVER THE INPUT: true; the input reads as it did. -/
def fnExactMirrorPlateSpec : ChangeSpec := { name := "fnExactMirrorPlate", fn := fun _ => fun
  | [d] => { results := [.lit (.bool true)], args := [d] }
  | _ => none }
def fnExactMirrorPlateRow : OpenClaim := { program := "ythgodmnalojnaaa", sum := "f899981d4f8c0158f0cccd1b32b7c60ce311f22a528c76dc2649fea3ff1e6ee4", func := "loop.example/g01320/laws.FnExactMirrorPlate", spec := "fnExactMirrorPlate", unfollowed := true, recurses := true, apart := false }
def FnExactMirrorPlateSaid : Prop := fnExactMirrorPlateRow.holds Try.pinned (OpenSpec.ofChange fnExactMirrorPlateSpec)

/-- ITS FALSE NEIGHBOUR: 'it returns false'. Refute it at one input. -/
def fnExactMirrorPlateWrong : ChangeSpec := { name := "fnExactMirrorPlate", fn := fun _ => fun
  | [d] => { results := [.lit (.bool false)], args := [d] }
  | _ => none }
def FnExactMirrorPlateWrongFalsely : Prop := fnExactMirrorPlateRow.holds Try.pinned (OpenSpec.ofChange fnExactMirrorPlateWrong)

/-- 'laws.FnExactScreenPlate': WHATEVER THE INPUT: true; the input reads as it did. -/
def fnExactScreenPlateSpec : ChangeSpec := { name := "fnExactScreenPlate", fn := fun _ => fun
  | [d] => { results := [.lit (.bool true)], args := [d] }
  | _ => none }
def fnExactScreenPlateRow : OpenClaim := { program := "ythgodmnalojnaaa", sum := "f899981d4f8c0158f0cccd1b32b7c60ce311f22a528c76dc2649fea3ff1e6ee4", func := "loop.example/g01320/laws.FnExactScreenPlate", spec := "fnExactScreenPlate", unfollowed := true, recurses := true, apart := false }
def FnExactScreenPlateSaid : Prop := fnExactScreenPlateRow.holds Try.pinned (OpenSpec.ofChange fnExactScreenPlateSpec)

/-- ITS FALSE NEIGHBOUR: 'it returns false'. Refute it at one input. -/
def fnExactScreenPlateWrong : ChangeSpec := { name := "fnExactScreenPlate", fn := fun _ => fun
  | [d] => { results := [.lit (.bool false)], args := [d] }
  | _ => none }
def FnExactScreenPlateWrongFalsely : Prop := fnExactScreenPlateRow.holds Try.pinned (OpenSpec.ofChange fnExactScreenPlateWrong)

/-- 'laws.FnExactDifferOf': WHATEVER THE INPUT: true; the input reads as it did. -/
def fnExactDifferOfSpec : ChangeSpec := { name := "fnExactDifferOf", fn := fun _ => fun
  | [d1, d2] => { results := [.lit (.bool true)], args := [d1, d2] }
  | _ => none }
def fnExactDifferOfRow : OpenClaim := { program := "ythgodmnalojnaaa", sum := "f899981d4f8c0158f0cccd1b32b7c60ce311f22a528c76dc2649fea3ff1e6ee4", func := "loop.example/g01320/laws.FnExactDifferOf", spec := "fnExactDifferOf", inPlace := ["math.Float64bits", "math.Float64frombits"], apart := false }
def FnExactDifferOfSaid : Prop := fnExactDifferOfRow.holds Try.pinned (OpenSpec.ofChange fnExactDifferOfSpec)

/-- ITS FALSE NEIGHBOUR: 'it returns false'. Refute it at one input. -/
def fnExactDifferOfWrong : ChangeSpec := { name := "fnExactDifferOf", fn := fun _ => fun
  | [d1, d2] => { results := [.lit (.bool false)], args := [d1, d2] }
  | _ => none }
def FnExactDifferOfWrongFalsely : Prop := fnExactDifferOfRow.holds Try.pinned (OpenSpec.ofChange fnExactDifferOfWrong)

/- THE SECOND FORM. 'bulk': how many values and letters a reading holds, each counted each time it is reached (what is shared counts as often as it is met; a slice's spare places count too). A statement '..UptoSaid' is the law's where the arguments, and the package variables that the reading takes, are together of bulk at most 1048576: NARROWER than '..Said'. Prove '..Said' where nothing that the law and all that it calls make is longer than what came in: it says more and counts as full. Else prove '..UptoSaid'. A law counts once. -/
mutual
def uptoBulk {H : Type} : DataW H → Nat
  | .lit (.string bytes) => bytes.length + 1
  | .lit _ => 1
  | .nil => 1
  | .ptr d => uptoBulk d + 1
  | .slice elems spare => uptoBulkAll elems + uptoBulkAll spare + 1
  | .agg parts => uptoBulkAll parts + 1
  | .iface _ d => uptoBulk d + 1
  | .map entries => uptoBulkEntries entries + 1
  | .held _ => 1
def uptoBulkAll {H : Type} : List (DataW H) → Nat
  | [] => 0
  | d :: r => uptoBulk d + uptoBulkAll r
def uptoBulkEntries {H : Type} : List (Lit × DataW H) → Nat
  | [] => 0
  | x :: r => uptoBulkEntry x + uptoBulkEntries r
def uptoBulkEntry {H : Type} : Lit × DataW H → Nat
  | (.string bytes, d) => bytes.length + uptoBulk d + 1
  | (_, d) => uptoBulk d + 1
 end
def uptoSmall : (H : Type) → List (DataW H) → Bool := fun _ ds => decide (uptoBulkAll ds ≤ 1048576)
def OpenSpec.upto (s : _root_.Go.ChangeSpec) : _root_.Go.OpenSpec := { _root_.Go.OpenSpec.ofChange s with cond := some uptoSmall }

/-- 'laws.FnExactSamePlate', WHERE WHAT IT READS IS OF BULK AT MOST 1048576: true; the input reads as it did. -/
def fnExactSamePlateUptoRow : OpenClaim := { program := "ythgodmnalojnaaa", sum := "f899981d4f8c0158f0cccd1b32b7c60ce311f22a528c76dc2649fea3ff1e6ee4", func := "loop.example/g01320/laws.FnExactSamePlate", spec := "fnExactSamePlate", inPlace := ["math.Float32bits", "math.Float64bits"], apart := false, narrowed := true }
def FnExactSamePlateUptoSaid : Prop := fnExactSamePlateUptoRow.holds Try.pinned (OpenSpec.upto fnExactSamePlateSpec)

/-- 'laws.FnExactValidPlate', WHERE WHAT IT READS IS OF BULK AT MOST 1048576: true; the input reads as it did. -/
def fnExactValidPlateUptoRow : OpenClaim := { program := "ythgodmnalojnaaa", sum := "f899981d4f8c0158f0cccd1b32b7c60ce311f22a528c76dc2649fea3ff1e6ee4", func := "loop.example/g01320/laws.FnExactValidPlate", spec := "fnExactValidPlate", apart := false, narrowed := true }
def FnExactValidPlateUptoSaid : Prop := fnExactValidPlateUptoRow.holds Try.pinned (OpenSpec.upto fnExactValidPlateSpec)

/-- 'laws.FnExactEvenPlate', WHERE WHAT IT READS IS OF BULK AT MOST 1048576: true; the input reads as it did. -/
def fnExactEvenPlateUptoRow : OpenClaim := { program := "ythgodmnalojnaaa", sum := "f899981d4f8c0158f0cccd1b32b7c60ce311f22a528c76dc2649fea3ff1e6ee4", func := "loop.example/g01320/laws.FnExactEvenPlate", spec := "fnExactEvenPlate", unfollowed := true, recurses := true, apart := false, narrowed := true }
def FnExactEvenPlateUptoSaid : Prop := fnExactEvenPlateUptoRow.holds Try.pinned (OpenSpec.upto fnExactEvenPlateSpec)

/-- 'laws.FnExactDotAt', WHERE WHAT IT READS IS OF BULK AT MOST 1048576: true; the input reads as it did. -/
def fnExactDotAtUptoRow : OpenClaim := { program := "ythgodmnalojnaaa", sum := "f899981d4f8c0158f0cccd1b32b7c60ce311f22a528c76dc2649fea3ff1e6ee4", func := "loop.example/g01320/laws.FnExactDotAt", spec := "fnExactDotAt", apart := false, narrowed := true }
def FnExactDotAtUptoSaid : Prop := fnExactDotAtUptoRow.holds Try.pinned (OpenSpec.upto fnExactDotAtSpec)

/-- 'laws.FnExactDarkestCell', WHERE WHAT IT READS IS OF BULK AT MOST 1048576: true; the input reads as it did. -/
def fnExactDarkestCellUptoRow : OpenClaim := { program := "ythgodmnalojnaaa", sum := "f899981d4f8c0158f0cccd1b32b7c60ce311f22a528c76dc2649fea3ff1e6ee4", func := "loop.example/g01320/laws.FnExactDarkestCell", spec := "fnExactDarkestCell", apart := false, narrowed := true }
def FnExactDarkestCellUptoSaid : Prop := fnExactDarkestCellUptoRow.holds Try.pinned (OpenSpec.upto fnExactDarkestCellSpec)

/-- 'laws.FnExactCoverOf', WHERE WHAT IT READS IS OF BULK AT MOST 1048576: true; the input reads as it did. -/
def fnExactCoverOfUptoRow : OpenClaim := { program := "ythgodmnalojnaaa", sum := "f899981d4f8c0158f0cccd1b32b7c60ce311f22a528c76dc2649fea3ff1e6ee4", func := "loop.example/g01320/laws.FnExactCoverOf", spec := "fnExactCoverOf", apart := false, narrowed := true }
def FnExactCoverOfUptoSaid : Prop := fnExactCoverOfUptoRow.holds Try.pinned (OpenSpec.upto fnExactCoverOfSpec)

/-- 'laws.FnExactWithDot', WHERE WHAT IT READS IS OF BULK AT MOST 1048576: true; the input reads as it did. -/
def fnExactWithDotUptoRow : OpenClaim := { program := "ythgodmnalojnaaa", sum := "f899981d4f8c0158f0cccd1b32b7c60ce311f22a528c76dc2649fea3ff1e6ee4", func := "loop.example/g01320/laws.FnExactWithDot", spec := "fnExactWithDot", apart := false, narrowed := true }
def FnExactWithDotUptoSaid : Prop := fnExactWithDotUptoRow.holds Try.pinned (OpenSpec.upto fnExactWithDotSpec)

/-- 'laws.FnExactZonesOf', WHERE WHAT IT READS IS OF BULK AT MOST 1048576: true; the input reads as it did. -/
def fnExactZonesOfUptoRow : OpenClaim := { program := "ythgodmnalojnaaa", sum := "f899981d4f8c0158f0cccd1b32b7c60ce311f22a528c76dc2649fea3ff1e6ee4", func := "loop.example/g01320/laws.FnExactZonesOf", spec := "fnExactZonesOf", apart := false, narrowed := true }
def FnExactZonesOfUptoSaid : Prop := fnExactZonesOfUptoRow.holds Try.pinned (OpenSpec.upto fnExactZonesOfSpec)

/-- 'laws.FnExactInvertPlate', WHERE WHAT IT READS IS OF BULK AT MOST 1048576: true; the input reads as it did. -/
def fnExactInvertPlateUptoRow : OpenClaim := { program := "ythgodmnalojnaaa", sum := "f899981d4f8c0158f0cccd1b32b7c60ce311f22a528c76dc2649fea3ff1e6ee4", func := "loop.example/g01320/laws.FnExactInvertPlate", spec := "fnExactInvertPlate", unfollowed := true, recurses := true, apart := false, narrowed := true }
def FnExactInvertPlateUptoSaid : Prop := fnExactInvertPlateUptoRow.holds Try.pinned (OpenSpec.upto fnExactInvertPlateSpec)

/-- 'laws.FnExactMirrorPlate', WHERE WHAT IT READS IS OF BULK AT MOST 1048576: true; the input reads as it did. -/
def fnExactMirrorPlateUptoRow : OpenClaim := { program := "ythgodmnalojnaaa", sum := "f899981d4f8c0158f0cccd1b32b7c60ce311f22a528c76dc2649fea3ff1e6ee4", func := "loop.example/g01320/laws.FnExactMirrorPlate", spec := "fnExactMirrorPlate", unfollowed := true, recurses := true, apart := false, narrowed := true }
def FnExactMirrorPlateUptoSaid : Prop := fnExactMirrorPlateUptoRow.holds Try.pinned (OpenSpec.upto fnExactMirrorPlateSpec)

/-- 'laws.FnExactScreenPlate', WHERE WHAT IT READS IS OF BULK AT MOST 1048576: true; the input reads as it did. -/
def fnExactScreenPlateUptoRow : OpenClaim := { program := "ythgodmnalojnaaa", sum := "f899981d4f8c0158f0cccd1b32b7c60ce311f22a528c76dc2649fea3ff1e6ee4", func := "loop.example/g01320/laws.FnExactScreenPlate", spec := "fnExactScreenPlate", unfollowed := true, recurses := true, apart := false, narrowed := true }
def FnExactScreenPlateUptoSaid : Prop := fnExactScreenPlateUptoRow.holds Try.pinned (OpenSpec.upto fnExactScreenPlateSpec)

/-- 'laws.FnExactDifferOf', WHERE WHAT IT READS IS OF BULK AT MOST 1048576: true; the input reads as it did. -/
def fnExactDifferOfUptoRow : OpenClaim := { program := "ythgodmnalojnaaa", sum := "f899981d4f8c0158f0cccd1b32b7c60ce311f22a528c76dc2649fea3ff1e6ee4", func := "loop.example/g01320/laws.FnExactDifferOf", spec := "fnExactDifferOf", inPlace := ["math.Float64bits", "math.Float64frombits"], apart := false, narrowed := true }
def FnExactDifferOfUptoSaid : Prop := fnExactDifferOfUptoRow.holds Try.pinned (OpenSpec.upto fnExactDifferOfSpec)

end Rows
end Go.Proofs.Ythgodmnalojnaaa
