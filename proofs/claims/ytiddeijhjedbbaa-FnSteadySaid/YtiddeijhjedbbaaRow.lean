/- Rows of cells: some cells ahead, then a row of narrow numbers; and loads and stores of a part of a block. -/
import Derived.Test.YtiddeijhjedbbaaFRun
set_option linter.unusedVariables false
set_option linter.unusedSimpArgs false
namespace Go.Proofs.Ytiddeijhjedbbaa
open Go.RowKit

def row (pre : List Value) (n : Nat) (F : Nat → Nat) : Array Value := (pre ++ (List.range n).map (fun i => Value.float .f32 (F i))).toArray
def upd (F : Nat → Nat) (i v : Nat) : Nat → Nat := fun j => if j = i then v else F j

section
variable (pre : List Value) (n : Nat) (F : Nat → Nat)
theorem row_size : (row pre n F).size = pre.length + n := by simp [row]
theorem row_pre {i : Nat} (h : i < pre.length) : (row pre n F)[i]? = pre[i]? := by
  simp [row, List.getElem?_append, h]
theorem row_get {i : Nat} (h : i < n) : (row pre n F)[pre.length + i]? = some (.float .f32 (F i)) := by
  simp [row, List.getElem?_append, h]
@[go_sem] theorem row_g0 (a : Value) (l : List Value) : (row (a :: l) n F)[0]? = some a := row_pre _ _ _ (by simp)
@[go_sem] theorem row_g1 (a b : Value) (l : List Value) : (row (a :: b :: l) n F)[1]? = some b := row_pre _ _ _ (by simp)
@[go_sem] theorem row_g2 (a b c : Value) (l : List Value) : (row (a :: b :: c :: l) n F)[2]? = some c := row_pre _ _ _ (by simp)
@[go_sem] theorem row_k0 {k : Nat} (h : k < n) : (row [] n F)[k]? = some (.float .f32 (F k)) := by simpa using row_get [] n F h
@[go_sem] theorem row_k2 (a b : Value) {k : Nat} (h : k < n) : (row [a, b] n F)[2 + k]? = some (.float .f32 (F k)) := row_get [a, b] n F h
@[go_sem] theorem row_k3 (a b c : Value) {k : Nat} (h : k < n) : (row [a, b, c] n F)[3 + k]? = some (.float .f32 (F k)) := row_get [a, b, c] n F h
theorem row_congr {G : Nat → Nat} (h : ∀ i, i < n → F i = G i) : row pre n F = row pre n G := by
  unfold row
  congr 2
  apply List.map_congr_left
  intro i hi
  rw [h i (by simpa using hi)]
theorem row_set {i v : Nat} (h : i < n) : (row pre n F).setIfInBounds (pre.length + i) (.float .f32 v) = row pre n (upd F i v) := by
  apply Array.ext_getElem?
  intro j
  rw [Array.getElem?_setIfInBounds]
  by_cases hj : pre.length + i = j
  · subst hj
    rw [if_pos rfl, row_get pre n _ h, if_pos (by rw [row_size]; omega)]
    simp [upd]
  · rw [if_neg hj]
    by_cases hp : j < pre.length
    · rw [row_pre _ _ _ hp, row_pre _ _ _ hp]
    · obtain ⟨k, rfl⟩ : ∃ k, j = pre.length + k := ⟨j - pre.length, by omega⟩
      by_cases hk : k < n
      · rw [row_get _ _ _ hk, row_get _ _ _ hk]
        have : k ≠ i := by omega
        simp [upd, this]
      · rw [Array.getElem?_eq_none (by rw [row_size]; omega), Array.getElem?_eq_none (by rw [row_size]; omega)]
theorem row_setpre {i : Nat} (v : Value) (h : i < pre.length) : (row pre n F).setIfInBounds i v = row (pre.set i v) n F := by
  unfold row
  simp [List.set_append, h]
@[go_sem] theorem row_s0 (a v : Value) (l : List Value) : (row (a :: l) n F).setIfInBounds 0 v = row (v :: l) n F := row_setpre _ _ _ v (by simp)
@[go_sem] theorem row_s1 (a b v : Value) (l : List Value) : (row (a :: b :: l) n F).setIfInBounds 1 v = row (a :: v :: l) n F := row_setpre _ _ _ v (by simp)
@[go_sem] theorem row_s2 (a b c v : Value) (l : List Value) : (row (a :: b :: c :: l) n F).setIfInBounds 2 v = row (a :: b :: v :: l) n F := row_setpre _ _ _ v (by simp)
theorem row_tail : (row pre n F).extract pre.length (pre.length + n) = row [] n F := by
  unfold row
  apply Array.ext_getElem?
  intro j
  simp only [List.extract_toArray, List.getElem?_toArray, List.extract_eq_take_drop, List.nil_append]
  rw [List.drop_left, Nat.add_sub_cancel_left, List.take_of_length_le (by simp)]
theorem row_all : (row pre n F).extract 0 (pre.length + n) = row pre n F := by
  have := row_size pre n F
  rw [← this]; simp
theorem row_splice (G : Nat → Nat) : ((row pre n F).toList.take pre.length ++ (row [] n G).toList ++ (row pre n F).toList.drop (pre.length + (row [] n G).toList.length)).toArray = row pre n G := by
  unfold row
  simp
theorem row_cells (h : pre.all (·.oneCell') = true) : (row pre n F).all (·.oneCell') = true := by
  unfold row
  simp only [List.all_toArray, List.all_append, h, Bool.true_and]
  rw [List.all_eq_true]
  intro x hx
  simp only [List.mem_map] at hx
  obtain ⟨i, _, rfl⟩ := hx
  rfl
end

section
variable {P : Program}
/-- A part of a block, read. -/
theorem run_loadVar_part (w : World) (g o n : Nat) (t ty : TypeId) (cs : Array Value) (fr : Nat × Nat) (d : TypeDesc) (hg : w.heap[g]? = some (.cells cs t fr))
    (hu : P.underlying ty = some d) (hd : (match d with | .struct _ | .array _ _ => true | _ => false) = true) (hi : (P.info? ty).map (·.size) = some n) (hle : o + n ≤ cs.size) :
    (loadVar ty ⟨g, o, none⟩).run P w = .ok (.agg (cs.extract o (o + n))) w := by
  have hlen : (cs.extract o (o + n)).toList.length = n := by simp; omega
  have hl : (loadCells ⟨g, o, none⟩ (cs.extract o (o + n)).toList.length).run P w = .ok (cs.extract o (o + n)).toList.toArray w :=
    run_loadCells_list (P := P) w ⟨g, o, none⟩ (cs.extract o (o + n)).toList (fun j v hv => by
      have hadd : (⟨g, o, none⟩ : Addr).add j = ⟨g, o + j, none⟩ := by unfold Addr.add; split <;> simp_all
      rw [hadd, cell_of_row w g (o + j) cs t fr hg]
      have hj : j < n := by
        have := (List.getElem?_eq_some_iff.1 hv).1
        rw [hlen] at this; exact this
      rw [Array.getElem?_toList, Array.getElem?_extract] at hv
      rw [if_pos (by omega)] at hv
      exact hv)
  rw [hlen] at hl
  cases hq : P.info? ty with
  | none => simp [hq] at hi
  | some i =>
    have hs : i.size = n := by simpa [hq] using hi
    have hagg : (isAgg ty).run P w = .ok true w := by
      unfold isAgg
      rw [Sem.run_bind, run_underlying hu w]
      cases d <;> simp_all
    simp only [Array.toArray_toList] at hl
    simp [loadVar, Sem.run_bind, hagg, sizeOf, typeInfo, hq, hs, hl]
theorem wpList_load_part {ops : Array Oper} {rest : List Oper} {o : Oper} {a : Act} {w : World} {Q : Exit → Act → World → Prop} (hgd : o.guard = none) (ty : TypeId) (x : Operand) (ho : o.op = .load ty x)
    (g off n : Nat) (hx : a.eval x = .pointer (some ⟨g, off, none⟩)) (t : TypeId) (cs : Array Value) (fr : Nat × Nat) (d : TypeDesc) (hg : w.heap[g]? = some (.cells cs t fr))
    (hu : P.underlying ty = some d) (hd : (match d with | .struct _ | .array _ _ => true | _ => false) = true) (hi : (P.info? ty).map (·.size) = some n) (hle : off + n ≤ cs.size)
    (out : Array Value) (hout : cs.extract off (off + n) = out)
    (h : wpList P ops Q rest (a.put o.dst (.agg out)) w) : wpList P ops Q (o :: rest) a w := by
  subst hout
  refine wpList_plain hgd fun K hK => ?_
  unfold Oper.wp execOp
  simp only [ho, hx, Instr.loadAt, Instr.sureAddr, Sem.run_bind, Sem.run_pure, Result.andThen_ok, run_loadVar_part w g off n t ty cs fr d hg hu hd hi hle]
  exact hK _ _ h
/-- The same at an operation with a guard that wants it. -/
theorem wpList_load_partg {ops : Array Oper} {rest : List Oper} {o : Oper} {a : Act} {w : World} {Q : Exit → Act → World → Prop} (hw : Region.wanted o (yielded ops a.tmps) = true) (ty : TypeId) (x : Operand) (ho : o.op = .load ty x)
    (g off n : Nat) (hx : a.eval x = .pointer (some ⟨g, off, none⟩)) (t : TypeId) (cs : Array Value) (fr : Nat × Nat) (d : TypeDesc) (hg : w.heap[g]? = some (.cells cs t fr))
    (hu : P.underlying ty = some d) (hd : (match d with | .struct _ | .array _ _ => true | _ => false) = true) (hi : (P.info? ty).map (·.size) = some n) (hle : off + n ≤ cs.size)
    (out : Array Value) (hout : cs.extract off (off + n) = out)
    (h : wpList P ops Q rest (a.put o.dst (.agg out)) w) : wpList P ops Q (o :: rest) a w := by
  subst hout
  unfold wpList
  rw [if_pos hw]
  refine .inl ?_
  unfold Oper.wp execOp
  simp only [ho, hx, Instr.loadAt, Instr.sureAddr, Sem.run_bind, Sem.run_pure, Result.andThen_ok, run_loadVar_part w g off n t ty cs fr d hg hu hd hi hle]
  exact h
theorem at_load (ty : TypeId) {x : Operand} {d t p af gd} {ops : Array Oper} {rest : List Oper} {a : Act} {w : World} {Q : Exit → Act → World → Prop}
    (h : wpList P ops Q (⟨d, .load ty x, t, p, af, gd⟩ :: rest) a w) : wpList P ops Q (⟨d, .load ty x, t, p, af, gd⟩ :: rest) a w := h
theorem at_store (ty : TypeId) {x y : Operand} {d t p af gd} {ops : Array Oper} {rest : List Oper} {a : Act} {w : World} {Q : Exit → Act → World → Prop}
    (h : wpList P ops Q (⟨d, .store ty x y, t, p, af, gd⟩ :: rest) a w) : wpList P ops Q (⟨d, .store ty x y, t, p, af, gd⟩ :: rest) a w := h
/-- A part of a block, written. -/
theorem wpList_store_part {ops : Array Oper} {rest : List Oper} {o : Oper} {a : Act} {w : World} {Q : Exit → Act → World → Prop} (hgd : o.guard = none) (ty : TypeId) (x y : Operand) (ho : o.op = .store ty x y)
    (g off : Nat) (vs : Array Value) (hx : a.eval x = .pointer (some ⟨g, off, none⟩)) (hy : a.eval y = .agg vs)
    (t : TypeId) (old : Array Value) (hg : w.heap[g]? = some (.cells old t (0, 0))) (hi : (P.info? ty).map (·.size) = some vs.size)
    (hle : off + vs.size ≤ old.size) (h1 : vs.all (·.oneCell') = true)
    (new : Array Value) (hnew : (old.toList.take off ++ vs.toList ++ old.toList.drop (off + vs.toList.length)).toArray = new)
    (h : wpList P ops Q rest (a.put o.dst undef) (w.setRow g new)) : wpList P ops Q (o :: rest) a w := by
  subst hnew
  refine wpList_plain hgd fun K hK => ?_
  have hst := run_storeCells_at P g off t vs.toList 0 old w hg (by simpa using hle) (fun v hv => (Array.all_eq_true_iff_forall_mem.1 h1) v (by simpa using hv))
  unfold Oper.wp execOp
  cases hq : P.info? ty with
  | none => simp [hq] at hi
  | some i =>
    have hs : vs.size = i.size := by simp [hq] at hi; omega
    simp only [Nat.add_zero] at hst
    have hsv : (storeVar ty ⟨g, off, none⟩ (.agg vs)).run P w = .ok () (w.setRow g (old.toList.take off ++ vs.toList ++ old.toList.drop (off + vs.toList.length)).toArray) := by
      simp [storeVar, sizeOf, typeInfo, hq, Value.cells, hs, hst]
    simp only [ho, hx, hy, Instr.storeAt, Instr.sureAddr, Sem.run_bind, Sem.run_pure, Result.andThen_ok, hsv]
    exact hK _ _ h
end
@[go_sem] theorem run_store_float {P : Program} (w : World) (a : Addr) (m : Mode) (k : FloatKind) (n : Nat) : (store a (.float k n) m).run P w = stored P w a (.float k n) m := run_store P w a _ m rfl
theorem blk_new (w : World) (o : Obj) (i : Nat) (h : i = w.heap.size) : (w.alloc o).heap[i]? = some o := by
  subst h; exact heap_alloc_new w o
theorem blk_old {r : Option Obj} (w : World) (o : Obj) (i : Nat) (h : i < w.heap.size) (hr : w.heap[i]? = r) : (w.alloc o).heap[i]? = r := (Below.heap_alloc w o i h).trans hr
theorem blk_set (w : World) (g i : Nat) (cs cur : Array Value) (t : TypeId) (fr : Nat × Nat) (h : i = g) (hg : w.heap[g]? = some (.cells cur t fr)) : (w.setRow g cs).heap[i]? = some (.cells cs t fr) := by
  subst h; exact setRow_heap w i cur cs t fr hg
theorem blk_off {r : Option Obj} (w : World) (g i : Nat) (cs : Array Value) (h : i ≠ g) (hr : w.heap[i]? = r) : (w.setRow g cs).heap[i]? = r := (setRow_other w g i cs h).trans hr
theorem blk_offc {r : Option Obj} (w : World) (p : Addr) (v : Value) (i : Nat) (h : i ≠ p.block) (hr : w.heap[i]? = r) : (w.setCell p v).heap[i]? = r := (heap_setCell_other w p i v h).trans hr
theorem blk_below {B : Nat} {w w' : World} {r : Option Obj} {i : Nat} (hb : Below B w w') (h : i < B) (hr : w.heap[i]? = r) : w'.heap[i]? = r := (hb.block i h).trans hr
theorem blk_drew {r : Option Obj} (w : World) (i : Nat) (hr : w.heap[i]? = r) : w.drew.heap[i]? = r := hr
theorem below_setRow {B : Nat} {a w : World} (h : Below B a w) {g : Nat} (hg : B ≤ g) (cs : Array Value) : Below B a (w.setRow g cs) :=
  ⟨h.os, h.tape, h.output, by rw [size_setRow]; exact h.size, fun k hk => (setRow_other w g k cs (by omega)).trans (h.block k hk)⟩
theorem bel_alloc {B : Nat} {a w : World} (o : Obj) (hB : B ≤ w.heap.size) (h : Below B a w) : Below B a (w.alloc o) := h.alloc hB o
theorem bel_row {B : Nat} {a w : World} {g : Nat} (cs : Array Value) (hg : B ≤ g) (h : Below B a w) : Below B a (w.setRow g cs) := below_setRow h hg cs
theorem bel_cell {B : Nat} {a w : World} {p : Addr} (u : Value) (hp : B ≤ p.block) (h : Below B a w) : Below B a (w.setCell p u) := h.setCell hp u
/-- Behind a contract that lays new blocks. -/
theorem bel_next {B : Nat} {a w w' : World} (hb : Below w.heap.size w w') (hB : B ≤ w.heap.size) (h : Below B a w) : Below B a w' := h.trans (hb.mono hB)
theorem row_over (pre pre' : List Value) (n : Nat) (F G : Nat → Nat) (h : pre.length = pre'.length) : ((row pre n F).toList.take 0 ++ (row pre' n G).toList ++ (row pre n F).toList.drop (0 + (row pre' n G).toList.length)).toArray = row pre' n G := by
  unfold row
  simp [h]
theorem bcell {B : Nat} {W w1 : World} (hb : Below B W w1) : (∀ b o, b < B → w1.cell? ⟨b, o, none⟩ = W.cell? ⟨b, o, none⟩) ∧ (∀ b o, b < B → w1.frozen? ⟨b, o, none⟩ = W.frozen? ⟨b, o, none⟩) :=
  ⟨fun b o h => hb.cell (p := ⟨b, o, none⟩) h, fun b o h => hb.frozen (p := ⟨b, o, none⟩) h⟩
theorem setRow_alloc_new (w : World) (a b : Array Value) (t : TypeId) : (w.alloc (.cells a t)).setRow w.heap.size b = w.alloc (.cells b t) := by
  unfold World.setRow World.alloc
  simp only
  congr 1
  apply Array.ext_getElem?
  intro i
  simp only [Array.getElem?_modify, Array.getElem?_push]
  by_cases h : w.heap.size = i
  · subst h; simp
  · rw [if_neg h, if_neg (fun e => h e.symm), if_neg (fun e => h e.symm)]
theorem setRow_alloc_old (w : World) (o : Obj) (g : Nat) (b : Array Value) (h : g < w.heap.size) : (w.alloc o).setRow g b = (w.setRow g b).alloc o := by
  unfold World.setRow World.alloc
  simp only
  congr 1
  apply Array.ext_getElem?
  intro i
  simp only [Array.getElem?_modify, Array.getElem?_push, Array.size_modify]
  by_cases hi : i = w.heap.size
  · subst hi
    rw [if_neg (by omega), if_pos rfl]; simp
  · rw [if_neg hi]; simp [hi]
section
variable {P : Program} (w : World) (t e : TypeId) (n b o : Nat) (ht : P.underlying t = some (.array n e)) (hs : (P.info? e).map (·.size) = some 1)
include ht hs
/-- 'arr[:h]', 'arr[:]', 'arr[l:]', 'arr[l:h]' of an array in memory. -/
theorem run_sliceAt_h (kh : IntKind) (h : Nat) (hh : h ≤ n) : (Instr.sliceAt t (.pointer (some ⟨b, o, none⟩)) none (some (.int kh h)) none).run P w = .ok (.slice (some ⟨b, o, none⟩) h n) w := by
  cases hq : P.info? e with
  | none => simp [hq] at hs
  | some i =>
    have hi : i.size = 1 := by simpa [hq] using hs
    have h1 : (0 : Int) ≤ h ∧ (h : Int) ≤ n := ⟨by omega, by omega⟩
    by_cases hn : n = 0 <;> simp [Instr.sliceAt, run_underlying ht, sizeOf, typeInfo, hq, hi, Instr.sliceBounds, Instr.sureAddr, hn, run_sliceBound w kh h n _ h1.1 h1.2, Addr.add]
    · have : h = 0 := by omega
      subst this; subst hn
      simp [run_sliceBound w kh 0 0 _ (by omega) (by omega), hi]
theorem run_sliceAt_all : (Instr.sliceAt t (.pointer (some ⟨b, o, none⟩)) none none none).run P w = .ok (.slice (some ⟨b, o, none⟩) n n) w := by
  cases hq : P.info? e with
  | none => simp [hq] at hs
  | some i =>
    have hi : i.size = 1 := by simpa [hq] using hs
    by_cases hn : n = 0 <;> simp [Instr.sliceAt, run_underlying ht, sizeOf, typeInfo, hq, hi, Instr.sliceBounds, Instr.sureAddr, hn, Addr.add]
theorem run_sliceAt_l (kl : IntKind) (l : Nat) (hl : l < n) : (Instr.sliceAt t (.pointer (some ⟨b, o, none⟩)) (some (.int kl l)) none none).run P w = .ok (.slice (some ⟨b, o + l, none⟩) (n - l) (n - l)) w := by
  cases hq : P.info? e with
  | none => simp [hq] at hs
  | some i =>
    have hi : i.size = 1 := by simpa [hq] using hs
    have h1 : (0 : Int) ≤ l ∧ (l : Int) ≤ n := ⟨by omega, by omega⟩
    have hne : n ≠ l := by omega
    simp [Instr.sliceAt, run_underlying ht, sizeOf, typeInfo, hq, hi, Instr.sliceBounds, Instr.sureAddr, hne, run_sliceBound w kl l n _ h1.1 h1.2, Addr.add]
theorem run_sliceAt_lh (kl kh : IntKind) (l h : Nat) (hl : l ≤ h) (hh : h ≤ n) (hne : l < n) : (Instr.sliceAt t (.pointer (some ⟨b, o, none⟩)) (some (.int kl l)) (some (.int kh h)) none).run P w = .ok (.slice (some ⟨b, o + l, none⟩) (h - l) (n - l)) w := by
  cases hq : P.info? e with
  | none => simp [hq] at hs
  | some i =>
    have hi : i.size = 1 := by simpa [hq] using hs
    have h1 : (0 : Int) ≤ l ∧ (l : Int) ≤ h := ⟨by omega, by omega⟩
    have h2 : (0 : Int) ≤ h ∧ (h : Int) ≤ n := ⟨by omega, by omega⟩
    have hne : n ≠ l := by omega
    simp [Instr.sliceAt, run_underlying ht, sizeOf, typeInfo, hq, hi, Instr.sliceBounds, Instr.sureAddr, hne, run_sliceBound w kl l h _ h1.1 h1.2, run_sliceBound w kh h n _ h2.1 h2.2, Addr.add]
end
/-- Results of which the first lies in memory. -/
theorem results_row_tmp {P : Program} {fn : Func} {p u : Tmp} {ty : TypeId} (h : fn.results = #[.cell p ty, .tmp u]) (tmps : Array Value) (w : World) (g : Nat) (t : TypeId) (cs : Array Value) (fr : Nat × Nat) (d : TypeDesc) (v : Value)
    (hp : tmps.getD p undef = .pointer (some ⟨g, 0, none⟩)) (hv : tmps.getD u undef = v) (hg : w.heap[g]? = some (.cells cs t fr))
    (hu : P.underlying ty = some d) (hd : (match d with | .struct _ | .array _ _ => true | _ => false) = true) (hi : (P.info? ty).map (·.size) = some cs.size) :
    (results fn tmps).run P w = .ok (.tuple #[.agg cs, v]) w := by
  subst hv
  have hp' : tmps[p]?.getD undef = .pointer (some ⟨g, 0, none⟩) := by simpa using hp
  simp [results, h, hp', asAddr, run_loadVar_row w g t ty cs fr d hg hu hd hi]
theorem results_row_tmp2 {P : Program} {fn : Func} {p u u2 : Tmp} {ty : TypeId} (h : fn.results = #[.cell p ty, .tmp u, .tmp u2]) (tmps : Array Value) (w : World) (g : Nat) (t : TypeId) (cs : Array Value) (fr : Nat × Nat) (d : TypeDesc) (v v2 : Value)
    (hp : tmps.getD p undef = .pointer (some ⟨g, 0, none⟩)) (hv : tmps.getD u undef = v) (hv2 : tmps.getD u2 undef = v2) (hg : w.heap[g]? = some (.cells cs t fr))
    (hu : P.underlying ty = some d) (hd : (match d with | .struct _ | .array _ _ => true | _ => false) = true) (hi : (P.info? ty).map (·.size) = some cs.size) :
    (results fn tmps).run P w = .ok (.tuple #[.agg cs, v, v2]) w := by
  subst hv; subst hv2
  have hp' : tmps[p]?.getD undef = .pointer (some ⟨g, 0, none⟩) := by simpa using hp
  simp [results, h, hp', asAddr, run_loadVar_row w g t ty cs fr d hg hu hd hi]
/-- An element of an array that is a value. -/
theorem run_index_row {P : Program} (w : World) (t e : TypeId) (n : Nat) (F : Nat → Nat) (j : Nat) (hj : j < n) (ht : P.underlying t = some (.array n e)) (he : P.underlying e = some (.float .f32)) (hs : (P.info? e).map (·.size) = some 1) :
    (Instr.index t (.agg (row [] n F)) (.int .i64 j)).run P w = .ok (.float .f32 (F j)) w := by
  have hg := row_k0 n F hj
  have h1 : (0 : Int) ≤ j ∧ (j : Int) < n := ⟨by omega, by omega⟩
  cases hq : P.info? e with
  | none => simp [hq] at hs
  | some i =>
    have hi : i.size = 1 := by simpa [hq] using hs
    simp [Instr.index, asIntOf, run_underlying ht, hj, sizeOf, typeInfo, hq, hi, part, isAgg, run_underlying he, hg]
end Go.Proofs.Ytiddeijhjedbbaa
