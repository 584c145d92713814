/- Eight narrow numbers that come in by value. -/
import Derived.Test.YtlohgpbhebmefaaForm
set_option linter.unusedVariables false
set_option linter.unusedSimpArgs false
namespace Go.Proofs.Ytlohgpbhebmefaa
open Go.ChangeShapes Go.WideShapes Go.ChangeAt Go.RowKit

section
variable {H : Type} {enc : TypeId × Value → H} {P : Program} {W : World} {base : Nat} {spare : Nat → Bool} {held : Bool}
theorem agg_of_trod {t e : TypeId} {n m : Nat} {v : Value} {d : DataW H} {ps : List MemPlace} (ht : P.underlying t = some (.array (m + 2) e)) (he : P.underlying e = some (.float .f32)) (hc : P.cellsOf e = 1) (hn : P.cellsOf t = m + 2) (hd : DataW.Trod enc P W base spare held t v d ps) : ∃ cs : Array Value, v = .agg cs := by
  obtain ⟨fuel, hf⟩ := hd
  obtain ⟨F, h1, h2⟩ := cells_f32 ht he hc hn hf
  have hl : v.cells.toList.length = m + 2 := by rw [h1]; simp
  cases v <;> first | exact ⟨_, rfl⟩ | (simp [Value.cells] at hl)
end
section
variable {H : Type} {enc : TypeId × Value → H} {W : World} {base : Nat} {spare : Nat → Bool} {held : Bool}
set_option maxRecDepth 100000 in
theorem form_arr8 {r : Reach} {b0 : Nat} {v : Value} {d : DataW H} {ps : List MemPlace} (hval : Value.okWide Try.prog W r b0 64 v) (hd : DataW.Trod enc Try.prog W base spare held 64 v d ps) : ∃ F : Nat → Nat, v = .agg (row [] 8 F) ∧ ∀ i, i < 8 → F i < 2 ^ 32 :=
  form_row (r := r) (b0 := b0) (e := 23) Try.underlying64 (by kernel_rfl) (by kernel_rfl) (by kernel_rfl) (agg_of_trod (n := 8) (m := 6) (e := 23) Try.underlying64 (by kernel_rfl) (by kernel_rfl) (by kernel_rfl) hd) hd
end
end Go.Proofs.Ytlohgpbhebmefaa
