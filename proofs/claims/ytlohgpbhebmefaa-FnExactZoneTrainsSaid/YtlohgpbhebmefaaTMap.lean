/- Contracts of EmptyTrain and WashTrain, the reference's and the program's, and the laws on them. -/
import Derived.Test.YtlohgpbhebmefaaTLaw
set_option linter.unusedVariables false
set_option linter.unusedSimpArgs false
namespace Go.Proofs.Ytlohgpbhebmefaa
open Go.RowKit Ieee

/-- A cell of a block is written. -/
theorem put_row {w : World} {g : Nat} {pre : List Value} {n : Nat} {G : Nat → Nat} {t : TypeId} {k v : Nat} (hk : k < n) (h : w.heap[g]? = some (.cells (row pre n G) t (0, 0))) :
    (w.setCell ⟨g, pre.length + k, none⟩ (.float .f32 v)).heap[g]? = some (.cells (row pre n (upd G k v)) t (0, 0)) := by
  rw [heap_setCell_same w g _ _ t _ h, row_set pre n G hk]
theorem put_mix {w : World} {g : Nat} {pre : List Value} {n : Nat} {F G : Nat → Nat} {t : TypeId} {k : Nat} (hk : k < n) (h : w.heap[g]? = some (.cells (row pre n (mix G F k)) t (0, 0))) :
    (w.setCell ⟨g, pre.length + k, none⟩ (.float .f32 (G k))).heap[g]? = some (.cells (row pre n (mix G F (k + 1))) t (0, 0)) := by
  rw [put_row hk h, mix_step]
theorem put_off {w : World} {g i o : Nat} {v : Value} {r : Option Obj} (h : i ≠ g) (hr : w.heap[i]? = r) : (w.setCell ⟨g, o, none⟩ v).heap[i]? = r := (heap_setCell_other w _ i v h).trans hr
theorem mix_0 (pre : List Value) (n : Nat) (F G : Nat → Nat) : row pre n (mix G F 0) = row pre n F := row_congr _ _ _ (fun i _ => by simp [mix])
theorem mix_at (F G : Nat → Nat) (k : Nat) : mix G F k k = F k := by simp [mix]

def washF (r : Int) (F : Nat → Nat) (x : Nat) : Nat → Nat := fun i => if (i : Int) < r then fmul (F i) (fsub 1065353216 x) else F i
theorem wash_end (pre : List Value) (r : Int) (h12 : r ≤ 12) (F : Nat → Nat) (x : Nat) : row pre 12 (mix (fun i => fmul (F i) (fsub 1065353216 x)) F r.toNat) = row pre 12 (washF r F x) :=
  row_congr _ _ _ (fun i _ => by
    unfold mix washF
    by_cases h : (i : Int) < r
    · rw [if_pos h, if_pos (by omega)]
    · rw [if_neg h, if_neg (by omega)])

def emptyB (n : Int) (a b : Nat) : Bool := (decide (2 ≤ n) && decide (n ≤ 12)) && (partB a && partB b)

end Go.Proofs.Ytlohgpbhebmefaa
