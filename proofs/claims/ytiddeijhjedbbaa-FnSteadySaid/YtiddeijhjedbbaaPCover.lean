/- Contracts of CoverOf, the reference's and the program's, and the law on it. -/
import Derived.Test.YtiddeijhjedbbaaPMap
import Derived.Test.YtiddeijhjedbbaaPDot
import Derived.Test.YtiddeijhjedbbaaTSum
import Derived.Laws.Cover2
set_option linter.unusedVariables false
set_option linter.unusedSimpArgs false
namespace Go.Proofs.Ytiddeijhjedbbaa
open Go.RowKit Ieee

theorem part_film {a : Nat} (h : partB a = true) : filmB a = true := by
  obtain ⟨h1, h2, h3⟩ := (part_iff a).1 h
  refine (film_iff a).2 ⟨h1, h2, Int.le_trans h3 (by decide)⟩
/-- A whole number, as a narrow one. -/
abbrev cvtN (n : Nat) : Nat := floatOfInt .f32 (n : Int)
theorem cvtN_fin : ∀ n, n < 65 → Fin32 (cvtN n) := by decide +kernel
theorem cvtN_Z : ∀ n, n < 65 → Z32 (cvtN n) = (n : Int) * 2 ^ 149 := by decide +kernel
theorem cvtN_ne {n : Nat} (h : n < 65) (h0 : 0 < n) : Z32 (cvtN n) ≠ 0 := by
  rw [cvtN_Z n h]
  have : (0 : Int) < (n : Int) * 2 ^ 149 := Int.mul_pos (by omega) (by decide)
  omega
/-- Narrow numbers, as values. -/
def floatsV (G : Nat → Nat) (n : Nat) : List Value := (List.range n).map (fun k => Value.float .f32 (G k))
theorem floatsV_snoc (G : Nat → Nat) (n : Nat) : floatsV G n ++ [.float .f32 (G n)] = floatsV G (n + 1) := by simp [floatsV, List.range_succ]
theorem floatsV_at {G : Nat → Nat} {n k : Nat} (h : k < n) : (floatsV G n)[k]? = some (.float .f32 (G k)) := by simp [floatsV, h]
theorem Try.info_f32 : (Try.prog.info? 25).map (fun i => (i.zero, i.size, i.bytes)) = some (some (.float .f32 0), 1, 4) := by kernel_rfl
theorem own_off {w : World} {base n g : Nat} {e t : TypeId} {v : Value} {xs : List Value} {cs : Array Value} {fr : Nat × Nat} (h : w.ownsRow base e 1 v n xs) (hg : w.heap[g]? = some (.cells cs t fr)) (hne : g < base ∨ t ≠ e) : v.ownBlock ≠ some g := by
  intro hv
  rcases h.2 with ⟨rfl, _⟩ | ⟨g', cap, cur, rfl, hb, hh, _⟩
  · simp [Value.ownBlock] at hv
  · simp only [Value.ownBlock, Option.some.injEq] at hv
    subst hv
    rcases hne with h1 | h1
    · omega
    · rw [hg] at hh
      simp only [Option.some.injEq, Obj.cells.injEq] at hh
      exact h1 hh.2.1
theorem own_keep {w w1 : World} {o : Obj} {v : Value} {g : Nat} {r : Obj} (hg : (w.alloc o).grownBy w1 v.ownBlock) (h : w.heap[g]? = some r) (hne : v.ownBlock ≠ some g) : w1.heap[g]? = some r := by
  have hlt : g < w.heap.size := by
    cases hlt : decide (g < w.heap.size)
    · simp only [decide_eq_false_iff_not] at hlt
      rw [Array.getElem?_eq_none (by omega)] at h; cases h
    · simpa using hlt
  rw [hg.block g (by simp; omega) (fun e => hne e.symm), Below.heap_alloc w o g hlt]
  exact h
theorem own_below {w0 wr w1 : World} {B base : Nat} {e : TypeId} {v : Value} {n : Nat} {xs : List Value} {o : Obj} (hown : wr.ownsRow base e 1 v n xs) (hBb : B ≤ base) (hB : B ≤ wr.heap.size) (hb : Below B w0 wr) (hg : (wr.alloc o).grownBy w1 v.ownBlock) : Below B w0 w1 := by
  have h1 : Below B w0 (wr.alloc o) := hb.alloc hB o
  refine h1.grown hg (by simp; omega) ?_
  intro k hk
  have := (hown.lt k hk).1
  omega
theorem own_size {wr w1 : World} {v : Value} {o : Obj} (hg : (wr.alloc o).grownBy w1 v.ownBlock) : wr.heap.size + 1 ≤ w1.heap.size := by
  have := hg.size
  simpa using this
def coverR (x y : Int) (F : Nat → Nat) : Nat := if plateB x y F then fdiv (sumTo (fun k => F (cellAt x.toNat k)) (x.toNat * y.toNat)) (cvtN (x.toNat * y.toNat)) else 0
theorem cover_films {a b : Nat} {F : Nat → Nat} (ha : a < 9) (hb : b < 9) (hp : ∀ i, i < 64 → isC a b i = true → partB (F i) = true) : ∀ k, k < a * b → filmB (F (cellAt a k)) = true := by
  intro k hk
  have h64 := (cells_all a ha b hb).2
  obtain ⟨c1, c2, _⟩ := cells_of a ha b hb k (by omega) hk
  exact part_film (hp _ c1 c2)
theorem coverR_num (x y : Int) (F : Nat → Nat) : ¬ Flt.NaN single (coverR x y F) := by
  unfold coverR
  split
  · rename_i h
    obtain ⟨a, b, rfl, rfl, la, ha, lb, hb, hp, hz0⟩ := plateB_size h
    have h64 := (cells_all a ha b hb).2
    have hpos : 0 < a * b := Nat.mul_pos (by omega) (by omega)
    exact num_fdiv (sumTo_facts (by show a * b ≤ 4000; omega) (cover_films ha hb hp) _ (Nat.le_refl _)).1 (cvtN_fin _ (by show a * b < 65; omega)) (cvtN_ne (by show a * b < 65; omega) hpos)
  · decide

end Go.Proofs.Ytiddeijhjedbbaa
