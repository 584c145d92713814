/- The numbers of all cells: cells. -/
import Derived.Test.YtiddeijhjedbbaaPOk
import Derived.OwnWalk
import Derived.Laws.OwnMore
set_option linter.unusedVariables false
set_option linter.unusedSimpArgs false
namespace Go.Proofs.Ytiddeijhjedbbaa
open Go.RowKit Ieee

/-- The numbers of the first n cells, as values. -/
def cellsV (a n : Nat) : List Value := (List.range n).map (fun k => Value.int .i64 (cellAt a k))
theorem cellsV_len (a n : Nat) : (cellsV a n).length = n := by simp [cellsV]
theorem cellsV_snoc (a n : Nat) : cellsV a n ++ [.int .i64 (cellAt a n)] = cellsV a (n + 1) := by simp [cellsV, List.range_succ]
theorem cellsV_xy {a X Y : Nat} (h : X < a) : cellsV a (a * Y + X) ++ [.int .i64 ((X : Int) + 8 * (Y : Int))] = cellsV a (a * Y + (X + 1)) := by
  rw [← Nat.add_assoc, ← cellsV_snoc, cellAt_xy h]
  simp
theorem cellsV_at {a n k : Nat} (h : k < n) : (cellsV a n)[k]? = some (.int .i64 (cellAt a k)) := by simp [cellsV, h]
theorem Try.info_i64 : (Try.prog.info? 2).map (fun i => (i.zero, i.size, i.bytes)) = some (some (.int .i64 0), 1, 8) := by kernel_rfl
theorem own_shape {w : World} {base : Nat} {e : TypeId} {v : Value} {n : Nat} {xs : List Value} (h : w.ownsRow base e 1 v n xs) (hn : 0 < n) : ∃ g c, v = .slice (some ⟨g, 0, none⟩) n c ∧ base ≤ g ∧ g < w.heap.size := by
  obtain ⟨_, h2⟩ := h
  rcases h2 with ⟨_, h0⟩ | ⟨g, cap, cur, hv, hg, hh, _⟩
  · omega
  · refine ⟨g, cap, hv, hg, ?_⟩
    cases hlt : decide (g < w.heap.size)
    · simp only [decide_eq_false_iff_not] at hlt
      rw [Array.getElem?_eq_none (by omega)] at hh
      cases hh
    · simpa using hlt
theorem own_next {w0 wr w1 : World} {e : TypeId} {v : Value} {n : Nat} {xs : List Value} {o : Obj} (hown : wr.ownsRow w0.heap.size e 1 v n xs) (hb : Below w0.heap.size w0 wr) (hg : (wr.alloc o).grownBy w1 v.ownBlock) : Below w0.heap.size w0 w1 := by
  have h1 : Below w0.heap.size w0 (wr.alloc o) := hb.alloc hb.size o
  refine h1.grown hg ?_ ?_
  · have := hb.size; simp; omega
  · intro k hk
    exact (hown.lt k hk).1

end Go.Proofs.Ytiddeijhjedbbaa
