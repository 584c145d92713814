/-
  DERIVED. GIVEN WITH THE SEED: THE CARDS: each row of YtihddajpkcjokaaDoorRows.lean that lists a variable, with what it lists TIED to the program's text (the seventh form; the later family's looks); each row that meets fmt, with fmt's text TOLD by the authors' own Lean function (tested against real Go, not proved from fmt's source: count such statements apart). THE CARD IS WHAT COUNTS. Prove the row's statement (the work); the ties are given (YtihddajpkcjokaaDoorTie.lean); close each card by the builder's one call (the guide's Derived/Test/ToyasCard.lean, 'card_holds'). Laid BY PROGRAM, IN A SANDBOX (cutbox-door.mjs). By AI agents, Wed Nov 11 2026. No macro, syntax, notation, axiom, sorry.
-/
import Derived.Test.YtihddajpkcjokaaDoorRows
import GoSem.ClaimSeven
namespace Go.Proofs.YtihddajpkcjokaaDoor
namespace Rows

/-- THE TIED CARD OF 'laws.FnGains'. -/
def fnGainsCard : Claim7 := { stood := { row := fnGainsRow, standIns := [], harness := (true, "fbe6adccd96652d85f69a6464b0d5de9db3f32d8444bb4575f06f9764d1d2e35"), looks := true }, kinds := [], alts := [], laidByText := true, laidKinds := [.data, .data, .data, .sentinel, .sentinel], laidTests := true, laidLooks := .later }
def FnGainsCardSaid : Prop := Claim7.holds Tryd.pinned (.plain (OpenSpec.ofChange fnGainsSpec)) fnGainsCard

/-- THE SECOND FORM's CARD OF 'laws.FnGains'. -/
def fnGainsUptoCard : Claim7 := { stood := { row := fnGainsUptoRow, standIns := [], harness := (true, "fbe6adccd96652d85f69a6464b0d5de9db3f32d8444bb4575f06f9764d1d2e35"), looks := true }, kinds := [], alts := [], laidByText := true, laidKinds := [.data, .data, .data, .sentinel, .sentinel], laidTests := true, laidLooks := .later }
def FnGainsUptoCardSaid : Prop := Claim7.holds Tryd.pinned (.plain (OpenSpec.upto fnGainsSpec)) fnGainsUptoCard
end Rows
end Go.Proofs.YtihddajpkcjokaaDoor
