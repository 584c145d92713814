/- FnExactSteadyFed returns true for every input; no condition. -/
import Derived.Test.YtjlbnlghpecanaaTLaw
import Derived.Test.YtjlbnlghpecanaaLawKit
import Derived.Test.YtjlbnlghpecanaaForm
namespace Go.Proofs.Ytjlbnlghpecanaa
open Go.ChangeShapes Go.WideShapes Go.ChangeAt Go.RowKit

set_option maxRecDepth 100000 in
theorem fnExactSteadyFed_lifted (os : Os) (started : os.Started) (H : Type) (enc : TypeId × Value → H) :
    ReturnsInHanded {} Try.checked os 11 .any (Rows.fnExactSteadyFedSpec.pre6 enc Try.prog Try.f11 Rows.fnExactSteadyFedRow.domain false) (Rows.fnExactSteadyFedSpec.post enc Try.prog Try.f11 false true false false) := by
  refine returnsInHanded_of_change (C := Try.checked) Try.own started (by kernel_rfl) Try.func11
    (ChangeSpec.witness6 (enc := enc) (C := Try.checked) false ⟨#[], #[.float .f32 0, .float .f32 0, .agg #[.int .i8 0, .float .f32 0, .float .f32 0, .float .f32 0, .float .f32 0, .float .f32 0, .float .f32 0, .float .f32 0, .float .f32 0, .float .f32 0, .float .f32 0, .float .f32 0, .float .f32 0, .float .f32 0, .float .f32 0]], []⟩ 8 (by kernel_rfl) (by kernel_rfl) (by kernel_rfl) (by kernel_rfl)) ?_
  intro W base args ds gs before hval0 hW hcnd _
  have hval : ∀ (j : Nat) t v, Try.f11.params[j]? = some t → args[j]? = some v → Value.okWide Try.prog W .any base t v := hval0
  have hW' := hW
  obtain ⟨p, q, hA0, hV, rfl, hfz, hnd⟩ := hW
  have hA : DataW.TrodAll enc Try.prog W 0 (fun _ => true) true Try.f11.params.toList args.toList ds p := hA0
  rw [Try.params11] at hA hval
  obtain ⟨v0, v1, v2, d0, d1, d2, p0, p1, p2, rfl, rfl, rfl, h0, h1, h2⟩ := trodAll_three hA
  obtain ⟨rfl, rfl⟩ := trodVars_none hV
  obtain ⟨c, rfl, w0⟩ := form_f32 Try.underlying22 (hval 0 22 v0 rfl rfl) h0
  obtain ⟨f, rfl, w1⟩ := form_f32 Try.underlying22 (hval 1 22 v1 rfl rfl) h1
  obtain ⟨r2, s2, t2, F2, rfl, ⟨lr2, ur2⟩, ws2, wt2, w2⟩ := form_train (hval 2 31 v2 rfl rfl) h2
  clear hA0 hval0 hval
  refine (exactSteadyFed_any c f r2 s2 t2 F2 W lr2 ur2).mono fun e W' ⟨he, hb⟩ => ?_
  subst he
  exact ⟨_, rfl, law_post Try.laidOut hW' hb (by kernel_rfl) Try.underlying4 rfl rfl (by kernel_rfl)⟩

theorem fnExactSteadyFed_holds : Rows.FnExactSteadyFedSaid :=
  OpenClaim.holds_of_wide 11 Try.f11 rfl rfl rfl rfl rfl rfl rfl ⟨rfl, rfl, rfl, rfl, rfl⟩ rfl rfl rfl rfl rfl (by kernel_rfl) Try.func11 (by kernel_rfl)
    (of_decide_eq_true (by kernel_rfl)) (by unfold Func.isWrapper; rw [if_neg (of_decide_eq_false (by kernel_rfl))]; exact ⟨rfl, rfl⟩)
    (fun os started H enc _ => fnExactSteadyFed_lifted os started H enc)
end Go.Proofs.Ytjlbnlghpecanaa
