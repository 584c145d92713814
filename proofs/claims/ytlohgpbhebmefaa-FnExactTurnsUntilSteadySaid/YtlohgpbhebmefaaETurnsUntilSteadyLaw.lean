/- FnExactTurnsUntilSteady returns true for every input; no condition. -/
import Derived.Test.YtlohgpbhebmefaaTSteady2
import Derived.Test.YtlohgpbhebmefaaLawKit
import Derived.Test.YtlohgpbhebmefaaForm
set_option linter.unusedVariables false
set_option linter.unusedSimpArgs false
namespace Go.Proofs.Ytlohgpbhebmefaa
open Go.ChangeShapes Go.WideShapes Go.ChangeAt Go.RowKit

set_option maxRecDepth 100000 in
theorem fnExactTurnsUntilSteady_lifted (os : Os) (started : os.Started) (H : Type) (enc : TypeId × Value → H) :
    ReturnsInHanded {} Try.checked os 10 .any (Rows.fnExactTurnsUntilSteadySpec.pre6 enc Try.prog Try.f10 Rows.fnExactTurnsUntilSteadyRow.domain false) (Rows.fnExactTurnsUntilSteadySpec.post enc Try.prog Try.f10 false true false false) := by
  refine returnsInHanded_of_change (C := Try.checked) Try.own started (by kernel_rfl) Try.func10
    (ChangeSpec.witness6 (enc := enc) (C := Try.checked) false ⟨#[], #[.agg #[.int .i8 0, .float .f32 0, .float .f32 0, .float .f32 0, .float .f32 0, .float .f32 0, .float .f32 0, .float .f32 0, .float .f32 0, .float .f32 0, .float .f32 0, .float .f32 0, .float .f32 0, .float .f32 0, .float .f32 0], .float .f32 0, .float .f32 0, .float .f32 0], []⟩ 8 (by kernel_rfl) (by kernel_rfl) (by kernel_rfl) (by kernel_rfl)) ?_
  intro W base args ds gs before hval0 hW hcnd _
  have hval : ∀ (j : Nat) t v, Try.f10.params[j]? = some t → args[j]? = some v → Value.okWide Try.prog W .any base t v := hval0
  have hW' := hW
  obtain ⟨p, q, hA0, hV, rfl, hfz, hnd⟩ := hW
  have hA : DataW.TrodAll enc Try.prog W 0 (fun _ => true) true Try.f10.params.toList args.toList ds p := hA0
  rw [Try.params10] at hA hval
  obtain ⟨v0, v1, v2, v3, d0, d1, d2, d3, p0, p1, p2, p3, rfl, rfl, rfl, h0, h1, h2, h3⟩ := trodAll_four hA
  obtain ⟨rfl, rfl⟩ := trodVars_none hV
  obtain ⟨r0, s0, t0, F0, rfl, ⟨lr0, ur0⟩, ws0, wt0, w0⟩ := form_train (hval 0 26 v0 rfl rfl) h0
  obtain ⟨fd, rfl, w1⟩ := form_f32 Try.underlying23 (hval 1 23 v1 rfl rfl) h1
  obtain ⟨cv, rfl, w2⟩ := form_f32 Try.underlying23 (hval 2 23 v2 rfl rfl) h2
  obtain ⟨wi, rfl, w3⟩ := form_f32 Try.underlying23 (hval 3 23 v3 rfl rfl) h3
  clear hA0 hval0 hval
  refine (exactTurnsUntilSteady_any r0 s0 t0 F0 fd cv wi lr0 ur0 W).mono fun e W' ⟨he, hb⟩ => ?_
  subst he
  exact ⟨_, rfl, law_post Try.laidOut hW' hb (by kernel_rfl) Try.underlying4 rfl rfl (by kernel_rfl)⟩

theorem fnExactTurnsUntilSteady_holds : Rows.FnExactTurnsUntilSteadySaid :=
  OpenClaim.holds_of_wide 10 Try.f10 rfl rfl rfl rfl rfl rfl rfl ⟨rfl, rfl, rfl, rfl, rfl⟩ rfl rfl rfl rfl rfl (by kernel_rfl) Try.func10 (by kernel_rfl)
    (of_decide_eq_true (by kernel_rfl)) (by unfold Func.isWrapper; rw [if_neg (of_decide_eq_false (by kernel_rfl))]; exact ⟨rfl, rfl⟩)
    (fun os started H enc _ => fnExactTurnsUntilSteady_lifted os started H enc)
end Go.Proofs.Ytlohgpbhebmefaa
