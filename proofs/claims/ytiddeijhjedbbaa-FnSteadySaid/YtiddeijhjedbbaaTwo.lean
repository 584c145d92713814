/- A region [load, call, load, call, call] that draws its order: a load of a whole row may be taken first. -/
import Derived.Test.YtiddeijhjedbbaaRow
import Derived.Deep.RegionHeld3
import Derived.Deep.MidRow
set_option linter.unusedVariables false
set_option linter.unusedSimpArgs false
namespace Go.Proofs.Ytiddeijhjedbbaa
open Go.RowKit Ieee

theorem load_row {P : Program} {w : World} {b n : Nat} {t : TypeId} {fr : Nat × Nat} {pre : List Value} {F : Nat → Nat} (ty : TypeId) (d : TypeDesc) (hu : P.underlying ty = some d) (hd : d.isRow = true) (hi : (P.info? ty).map (·.size) = some (pre.length + n)) (h : w.heap[b]? = some (.cells (row pre n F) t fr)) :
    (loadVar ty ⟨b, 0, none⟩).run P w = .ok (.agg (row pre n F)) w := by
  have h1 := World.rangeAt_of_block h 0 (pre.length + n)
  rw [Nat.zero_add, row_all] at h1
  have := run_loadVar_mid (P := P) w b 0 ty _ d h1 hu hd (by rw [Array.length_toList, row_size]; exact hi)
  simpa using this
theorem yieldsIf_load_row {P : Program} {ops : Array Oper} {S : World → Prop} {op : Oper} {a : Act} (hw : Region.wanted op (yielded ops a.tmps) = true) (ty : TypeId) (x : Operand) (ho : op.op = .load ty x)
    (b : Nat) (hx : a.eval x = .pointer (some ⟨b, 0, none⟩)) (pre : List Value) (n : Nat) (F : Nat → Nat) (t : TypeId) (fr : Nat × Nat) (d : TypeDesc) (hS : ∀ w, S w → w.heap[b]? = some (.cells (row pre n F) t fr))
    (hu : P.underlying ty = some d) (hd : d.isRow = true) (hi : (P.info? ty).map (·.size) = some (pre.length + n)) : YieldsIf P ops S op (.agg (row pre n F)) a :=
  .inl ⟨hw, fun w hw' => by
    unfold execOp
    simp only [ho, hx, Instr.loadAt, Instr.sureAddr, Sem.run_bind, Sem.run_pure, Result.andThen_ok, load_row ty d hu hd hi (hS w hw')]⟩
end Go.Proofs.Ytiddeijhjedbbaa
