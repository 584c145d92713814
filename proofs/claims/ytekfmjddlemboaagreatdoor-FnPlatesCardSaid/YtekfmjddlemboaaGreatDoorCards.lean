/-
  DERIVED. GIVEN WITH THE SEED: THE CARDS: each row of YtekfmjddlemboaaGreatDoorRows.lean that lists a variable, with what it lists TIED to the program's text (the seventh form; the later family's looks); each row that meets fmt, with fmt's text TOLD by the authors' own Lean function (tested against real Go, not proved from fmt's source: count such statements apart). THE CARD IS WHAT COUNTS. Prove the row's statement (the work); the ties are given (YtekfmjddlemboaaGreatDoorTie.lean); close each card by the builder's one call (the guide's Derived/Test/ToyasCard.lean, 'card_holds'). Laid BY PROGRAM, IN A SANDBOX (cutbox-door.mjs). By AI agents, Wed Nov 11 2026. No macro, syntax, notation, axiom, sorry.
-/
import Derived.Test.YtekfmjddlemboaaGreatDoorRows
import GoSem.ClaimSeven
namespace Go.Proofs.YtekfmjddlemboaaGreatDoor
namespace Rows

/-- THE TIED CARD OF 'laws.FnPlates'. -/
def fnPlatesCard : Claim7 := { stood := { row := fnPlatesRow, standIns := [], harness := (true, "2ec5943c91d10681412cf7f4aa9120fda2ebaf270a0824177cb59339d623c133"), looks := true }, kinds := [], alts := [], laidByText := true, laidKinds := [.data, .data, .data, .data, .sentinel, .sentinel, .pinned], laidTests := true, laidLooks := .later }
def FnPlatesCardSaid : Prop := Claim7.holds Tryz.pinned (.plain (OpenSpec.ofChange fnPlatesSpec)) fnPlatesCard

/-- THE SECOND FORM's CARD OF 'laws.FnPlates'. -/
def fnPlatesUptoCard : Claim7 := { stood := { row := fnPlatesUptoRow, standIns := [], harness := (true, "2ec5943c91d10681412cf7f4aa9120fda2ebaf270a0824177cb59339d623c133"), looks := true }, kinds := [], alts := [], laidByText := true, laidKinds := [.data, .data, .data, .data, .sentinel, .sentinel, .pinned], laidTests := true, laidLooks := .later }
def FnPlatesUptoCardSaid : Prop := Claim7.holds Tryz.pinned (.plain (OpenSpec.upto fnPlatesSpec)) fnPlatesUptoCard
end Rows
end Go.Proofs.YtekfmjddlemboaaGreatDoor
