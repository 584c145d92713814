/- A region that draws, walked by hand: two that may come up, and a merging of all orders. -/
import Derived.Test.YtiddeijhjedbbaaHeld
set_option linter.unusedVariables false
set_option linter.unusedSimpArgs false
namespace Go.Proofs.Ytiddeijhjedbbaa
open Go.RowKit Ieee

section
variable {P : Program} {ops : Array Oper} {Q : Exit → Act → World → Prop} {md : Region.Mode} {S : World → Prop}
theorem held_two {fuel : Nat} {listed : Array Bool} {a : Act} {w : World} (i j : Nat) {o o' : Oper} (hr : Region.ready md ops listed = [i, j]) (hi : ops[i]? = some o) (hgd : o.guard = none) (hj : ops[j]? = some o') (hgd' : o'.guard = none)
    (h : o.wp P a w (fun a' w' => S w' ∧ wpAnyH P md ops Q S fuel (listed.setIfInBounds i true) a' w') Q)
    (h' : o'.wp P a w (fun a' w' => S w' ∧ wpAnyH P md ops Q S fuel (listed.setIfInBounds j true) a' w') Q) : wpAnyH P md ops Q S (fuel + 1) listed a w := by
  refine wpAnyH_all hr (by simp) (fun k hk => ?_)
  have hk2 : k = i ∨ k = j := by simpa using hk
  rcases hk2 with rfl | rfl
  · unfold wpOp
    simp only [hi]
    rw [if_pos (wanted_none hgd _)]
    exact Or.inl h
  · unfold wpOp
    simp only [hj]
    rw [if_pos (wanted_none hgd' _)]
    exact Or.inl h'
theorem oper_call {o : Oper} {a : Act} {w : World} {K : Act → World → Prop} (f : FuncId) (args : Array Value) (he : (execOp a.eval o).run P w = .ok (.enter f args) w) {R : Value → World → Prop} (hc : Calls P f args w fun e w' => ∃ v, e = .returned v ∧ R v w')
    (h : ∀ v w', R v w' → K (a.put o.dst v) w') : o.wp P a w K Q := by
  unfold Oper.wp
  rw [he, Oper.upon_enter]
  refine hc.mono fun e w' h' => ?_
  obtain ⟨v, rfl, h2⟩ := h'
  exact h v w' h2
theorem oper_value {o : Oper} {a : Act} {w w1 : World} {K : Act → World → Prop} (v : Value) (he : (execOp a.eval o).run P w = .ok (.value v) w1) (h : K (a.put o.dst v) w1) : o.wp P a w K Q := by
  unfold Oper.wp
  rw [he, Oper.upon_value]
  exact h
/-- All orders of a region end alike: what follows is walked once. -/
theorem region_merge {id : Nat} {a : Act} {w : World} (R : Act → Act → World → Prop) (h1 : (Code.region id ops true).wp P (fun x a' w' => x = .normal ∧ R a a' w') a w) (h2 : ∀ a' w', R a a' w' → Q .normal a' w') : (Code.region id ops true).wp P Q a w :=
  Code.wp_mono (fun x a' w' h => by obtain ⟨rfl, h⟩ := h; exact h2 _ _ h) h1
end
end Go.Proofs.Ytiddeijhjedbbaa
