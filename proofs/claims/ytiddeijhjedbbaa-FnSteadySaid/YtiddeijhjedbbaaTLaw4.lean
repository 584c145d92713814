/- The walks of the laws on MixTrains and AddRoller. -/
import Derived.Test.YtiddeijhjedbbaaTMix
import Derived.Test.YtiddeijhjedbbaaTwo
set_option linter.unusedVariables false
set_option linter.unusedSimpArgs false
namespace Go.Proofs.Ytiddeijhjedbbaa
open Go.RowKit Ieee

theorem wp_store_row {P : Program} {o : Oper} {a : Act} {w : World} {K : Act → World → Prop} {Q : Exit → Act → World → Prop} (ty : TypeId) (x y : Operand) (ho : o.op = .store ty x y)
    (g : Nat) (pre pre' : List Value) (n : Nat) (F G : Nat → Nat) (hx : a.eval x = .pointer (some ⟨g, 0, none⟩)) (hy : a.eval y = .agg (row pre' n G))
    (t : TypeId) (hg : w.heap[g]? = some (.cells (row pre n F) t (0, 0))) (hl : pre.length = pre'.length) (hi : (P.info? ty).map (·.size) = some (pre'.length + n)) (h1 : pre'.all (·.oneCell') = true)
    (h : K (a.put o.dst undef) (w.setRow g (row pre' n G))) : Oper.wp P o a w K Q := by
  have hc : ∀ v ∈ (row pre' n G).toList, v.oneCell' = true := fun v hv => (Array.all_eq_true_iff_forall_mem.1 (row_cells pre' n G h1)) v (by simpa using hv)
  have hst := run_storeCells_at P g 0 t (row pre' n G).toList 0 (row pre n F) w hg (by simp [row_size, hl]) hc
  unfold Oper.wp execOp
  cases hq : P.info? ty with
  | none => simp [hq] at hi
  | some i =>
    have hs : (row pre' n G).size = i.size := by simp [hq] at hi; rw [row_size]; omega
    simp only [Nat.add_zero] at hst
    rw [row_over pre pre' n F G hl] at hst
    have hsv : (storeVar ty ⟨g, 0, none⟩ (.agg (row pre' n G))).run P w = .ok () (w.setRow g (row pre' n G)) := by
      simp [storeVar, sizeOf, typeInfo, hq, Value.cells, hs, hst]
    simp only [ho, hx, hy, Instr.storeAt, Instr.sureAddr, Sem.run_bind, Sem.run_pure, Result.andThen_ok, hsv]
    exact h

theorem numMix {r : Int} {s t : Nat} {F : Nat → Nat} {r' : Int} {s' t' : Nat} {F' : Nat → Nat} (h : ((trainB r s t F && trainB r' s' t' F') && (r == r')) = true) : NumT s t (mixTF r F F') := by
  simp only [Bool.and_eq_true, beq_iff_eq] at h
  obtain ⟨⟨ho, ho'⟩, rfl⟩ := h
  obtain ⟨_, _, hs, ht, hf, hz⟩ := trainB_facts ho
  obtain ⟨_, _, _, _, hf', _⟩ := trainB_facts ho'
  refine ⟨part_num hs, part_num ht, fun i hi => ?_⟩
  unfold mixTF
  split
  · rename_i hr
    exact film_num (film_half (hf i hi hr) (hf' i hi hr)).2
  · exact (trainB_num ho).2.2 i hi
theorem numAdd {r : Int} {s t : Nat} {F : Nat → Nat} {x : Nat} (h : ((trainB r s t F && filmB x) && decide (r < 12)) = true) : NumT s t (upd F r.toNat x) := by
  simp only [Bool.and_eq_true] at h
  obtain ⟨⟨ho, hx⟩, _⟩ := h
  obtain ⟨_, _, hs, ht, _, _⟩ := trainB_facts ho
  refine ⟨part_num hs, part_num ht, fun i hi => ?_⟩
  unfold upd
  split
  · exact film_num hx
  · exact (trainB_num ho).2.2 i hi

theorem cut_at {P : Program} {c : Code} {Q : Exit → Act → World → Prop} {a : Act} {w : World} (A : Nat → Act) (H : Nat → World → Prop)
    (h1 : ∀ Q' : Exit → Act → World → Prop, (∀ p W, H p W → Q' .normal (A p) W) → c.wp P Q' a w) (h2 : ∀ p W, H p W → Q .normal (A p) W) : c.wp P Q a w := h1 Q h2

end Go.Proofs.Ytiddeijhjedbbaa
