/- Behind a piece of a walk all older blocks are as they were. -/
import Derived.Test.YtckcngmbbnilnaaDoorHeld2
import Derived.Test.YtckcngmbbnilnaaDoorTCopy
set_option linter.unusedVariables false
namespace Go.Proofs.YtckcngmbbnilnaaDoor
open Go.RowKit

/-- Behind a piece of a walk all older blocks are as they were. -/
def KeptS (B : Nat) (w0 wr w' : World) : Prop := (∀ i, i < wr.heap.size → w'.heap[i]? = wr.heap[i]?) ∧ wr.heap.size ≤ w'.heap.size ∧ Below B w0 w'
section
variable {B : Nat} {w0 wr w' W W2 : World}
theorem KeptS.refl (h : Below B w0 wr) : KeptS B w0 wr wr := ⟨fun _ _ => rfl, Nat.le_refl _, h⟩
theorem KeptS.drew (h : KeptS B w0 wr w') : KeptS B w0 wr w'.drew := ⟨h.1, h.2.1, Below.drew h.2.2⟩
theorem KeptS.call (h : KeptS B w0 wr W) (hB : B ≤ wr.heap.size) (hb : Below W.heap.size W W2) : KeptS B w0 wr W2 :=
  ⟨fun i hi => (hb.block i (Nat.lt_of_lt_of_le hi h.2.1)).trans (h.1 i hi), Nat.le_trans h.2.1 hb.size, h.2.2.trans (hb.mono (Nat.le_trans hB h.2.1))⟩
theorem KeptS.alloc (h : KeptS B w0 wr W) (hB : B ≤ wr.heap.size) (o : Obj) : KeptS B w0 wr (W.alloc o) :=
  ⟨fun i hi => (Below.heap_alloc W o i (Nat.lt_of_lt_of_le hi h.2.1)).trans (h.1 i hi), by have := h.2.1; simp; omega, h.2.2.alloc (Nat.le_trans hB h.2.1) o⟩
theorem KeptS.cell (h : KeptS B w0 wr w') {p : Addr} (hp : p.block < wr.heap.size) : w'.cell? p = wr.cell? p := World.cell?_of_block (w := wr) (h.1 p.block hp)
end
end Go.Proofs.YtckcngmbbnilnaaDoor
