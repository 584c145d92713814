/- A plate of which all cells turn: eachDot, freshDots, whatever the function is that is handed to them. -/
import Derived.Test.YtiddeijhjedbbaaPCells
import Derived.Test.YtiddeijhjedbbaaTMap
set_option linter.unusedVariables false
set_option linter.unusedSimpArgs false
namespace Go.Proofs.Ytiddeijhjedbbaa
open Go.RowKit Ieee

theorem own_block {w : World} {base g c a n : Nat} {e : TypeId} (h : w.ownsRow base e 1 (.slice (some ⟨g, 0, none⟩) n c) n (cellsV a n)) : ∃ cur, w.heap[g]? = some (.cells cur e (0, 0)) ∧ ∀ j, j < n → cur[j]? = some (.int .i64 (cellAt a j : Nat)) := by
  obtain ⟨_, h2⟩ := h
  rcases h2 with ⟨h3, _⟩ | ⟨g', cap, cur, hv, _, hh, _, _, _, ht⟩
  · simp at h3
  · simp only [Value.slice.injEq, Option.some.injEq, Addr.mk.injEq, and_true, true_and] at hv
    obtain ⟨rfl, rfl⟩ := hv
    refine ⟨cur, hh, fun j hj => ?_⟩
    have h1 : (cur.toList.take (n * 1))[j]? = (cellsV a n)[j]? := by rw [ht]
    rw [cellsV_at hj, List.getElem?_take, if_pos (by omega)] at h1
    simpa using h1
/-- What a function value gives at each cell; it may draw, and turns nothing. -/
def GivesDots (P : Program) (k : FuncId) (cap : Array Value) (a b : Nat) (F g : Nat → Nat) (w : World) : Prop :=
  ∀ (n : Nat) (W : World), n < a * b → Below w.heap.size w W → Calls P k (#[.int .i64 (cellAt a n : Nat), .float .f32 (F (cellAt a n))] ++ cap) W fun e w' => e = .returned (.float .f32 (g (cellAt a n))) ∧ ∃ m, w' = W.drewN m
theorem blk_drewN {r : Option Obj} (w : World) (i m : Nat) (hr : w.heap[i]? = r) : (w.drewN m).heap[i]? = r := hr
theorem put_map {w : World} {g a b : Nat} {f G : Nat → Nat} {pre : List Value} {t : TypeId} {k o : Nat} (ha : a < 9) (hb : b < 9) (hk : k < a * b) (hl : pre.length = o) (h : w.heap[g]? = some (.cells (row pre 64 (mapC a b f G k)) t (0, 0))) :
    (w.setCell ⟨g, o + cellAt a k, none⟩ (.float .f32 (f (cellAt a k)))).heap[g]? = some (.cells (row pre 64 (mapC a b f G (k + 1))) t (0, 0)) := by
  subst hl
  have h64 := (cells_all a ha b hb).2
  rw [put_row (cells_of a ha b hb k (by omega) hk).1 h, mapC_step ha hb f G hk]

end Go.Proofs.Ytiddeijhjedbbaa
