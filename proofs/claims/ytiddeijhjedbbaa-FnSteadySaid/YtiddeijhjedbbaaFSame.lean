/- sameFloat answers true at one number and itself, and at two that are no numbers; the conversions to the wide format that stand before it. No condition. -/
import Derived.Test.YtiddeijhjedbbaaRows
import Derived.Test.YtiddeijhjedbbaaFRun
import Derived.Test.YtiddeijhjedbbaaFltC
set_option linter.unusedVariables false
set_option linter.unusedSimpArgs false
namespace Go.Proofs.Ytiddeijhjedbbaa
open Go.RowKit

theorem wide_conv {b : Nat} (h : ¬ Flt.NaN Ieee.single b) : floatToFloatBits .f32 b .f64 = some (Flt.widen b) := by
  unfold floatToFloatBits
  rw [if_neg (by decide)]
  have hd : FloatKind.f32.decode b = Ieee.single.read b := rfl
  rw [hd]
  rcases Flt.not_nan Ieee.single h with h1 | h1
  · obtain ⟨m, k, e1, u1⟩ := Flt.read_fin Ieee.single h1
    have hw : Flt.widen b = FloatKind.encode .f64 (.number (Flt.neg Ieee.single b) m (Ieee.single.leastPlace + (k : Nat))) := by
      show Ieee.double.write (Ieee.single.read b) = _
      rw [e1]; rfl
    rw [e1]
    simp only
    rw [← hw]
    have hf := Flt.widen_fin' h1
    obtain ⟨m', k', e2, _⟩ := Flt.read_fin Ieee.double hf
    have : (FloatKind.f64.decode (Flt.widen b)).isInfinity = false := by
      show (Ieee.double.read (Flt.widen b)).isInfinity = false
      rw [e2]; rfl
    rw [this]; rfl
  · have := Flt.read_inf Ieee.single (by decide) h1
    have hw : Flt.widen b = FloatKind.encode .f64 (.infinity (Flt.neg Ieee.single b)) := by
      show Ieee.double.write (Ieee.single.read b) = _
      rw [this]; rfl
    rw [this, hw]

section
variable {P : Program}
theorem run_conv_same (src dst : TypeId) (k : FloatKind) (b : Nat) (w : World) (hs : (P.underlying src).isSome = true) (hd : P.underlying dst = some (.float k)) :
    (convert src dst (.float k b)).run P w = .ok (.float k b) w := run_convert_float_float w src dst k k b b hs hd (by simp [floatToFloatBits])
theorem run_wide (src dst : TypeId) (b : Nat) (w : World) (hs : (P.underlying src).isSome = true) (hd : P.underlying dst = some (.float .f64)) (h : ¬ Flt.NaN Ieee.single b) :
    (convert src dst (.float .f32 b)).run P w = .ok (.float .f64 (Flt.widen b)) w := run_convert_float_float w src dst .f32 .f64 b _ hs hd (wide_conv h)
theorem run_wide_nan (src dst : TypeId) (b : Nat) (w : World) (hs : (P.underlying src).isSome = true) (hd : P.underlying dst = some (.float .f64)) (h : Flt.NaN Ieee.single b) :
    (convert src dst (.float .f32 b)).run P w = .ok (.float .f64 (nanAt (.nanConv .f64 b) w)) w.drew := run_conv_nan w src dst .f32 .f64 b hs hd (by decide) h
end

/-- The wide number of any narrow one, and the world behind the conversion: a NaN is drawn. -/
def wideAt (b : Nat) (w : World) : Nat := if Flt.NaN Ieee.single b then nanAt (.nanConv .f64 b) w else Flt.widen b
def wideW (b : Nat) (w : World) : World := if Flt.NaN Ieee.single b then w.drew else w
theorem below_wideW {B : Nat} {w w0 : World} (b : Nat) (h : Below B w w0) : Below B w (wideW b w0) := by
  unfold wideW
  split
  · exact h.drew
  · exact h
theorem run_f2f {P : Program} (b : Nat) (w : World) : (Conv.floatToFloat .f32 b .f64).run P w = .ok (.float .f64 (wideAt b w)) (wideW b w) := by
  unfold wideAt wideW
  by_cases h : Flt.NaN Ieee.single b
  · have hr : FloatKind.f32.decode b = .nan (Flt.neg Ieee.single b) (Flt.rung Ieee.single b - Ieee.single.infRung) := Flt.read_nan Ieee.single (by decide) h
    simp [Conv.floatToFloat, hr, h, nanAt, Question.forced]
  · rw [if_neg h, if_neg h]
    have hc := wide_conv h
    unfold floatToFloatBits at hc
    unfold Conv.floatToFloat
    rw [if_neg (by decide)] at hc ⊢
    cases hd : FloatKind.f32.decode b with
    | nan s t => rw [hd] at hc; cases hc
    | infinity s => rw [hd] at hc; simp only [Option.some.injEq] at hc; simp [hc]
    | number s m e =>
      rw [hd] at hc
      simp only at hc ⊢
      split at hc
      · cases hc
      · rename_i hn
        simp only [Option.some.injEq] at hc
        rw [if_neg hn, hc]; rfl
theorem run_cwide {P : Program} (src dst : TypeId) (a b : Nat) (w : World) (hs : (P.underlying src) = some (.complex .f32)) (hd : P.underlying dst = some (.complex .f64)) :
    (convert src dst (.complex .f32 a b)).run P w = .ok (.complex .f64 (wideAt a w) (wideAt b (wideW a w))) (wideW b (wideW a w)) := by
  simp [convert, run_underlying hs, run_underlying hd, Conv.complexToComplex, run_f2f]

/-- 1 by a zero is an infinity. -/
theorem recip_zero {a : Nat} (ha : ¬ Flt.NaN Ieee.double a) (h : FloatKind.f64.format.order a 0 = some .eq) : ∃ r, floatBits .quo .f64 4607182418800017408 a = some r := by
  have h1 : Ieee.double.order a 0 = some .eq := h
  rw [Flt.order_num Ieee.double (by decide) ha (by decide)] at h1
  have hz : Flt.Z Ieee.double a = 0 := by
    have := Int.compare_eq_eq.1 (Option.some.inj h1)
    rw [this]; decide
  have hfin : Flt.Fin Ieee.double a := by
    rcases Flt.not_nan Ieee.double ha with h | h
    · exact h
    · exfalso
      unfold Flt.Z Flt.sg at hz
      rw [h, Flt.double_inf] at hz
      have : 0 < 2 ^ Flt.eD := Nat.two_pow_pos _
      split at hz <;> omega
  obtain ⟨m, k, e1, u1⟩ := Flt.read_fin Ieee.double hfin
  have hm : m = 0 := by
    have : m * 2 ^ k = 0 := by
      rw [u1]
      unfold Flt.Z Flt.sg at hz
      split at hz <;> omega
    rcases Nat.mul_eq_zero.1 this with h | h
    · exact h
    · have := Nat.two_pow_pos k; omega
  subst hm
  refine ⟨Ieee.double.word (false ^^ Flt.neg Ieee.double a) Ieee.double.infRung, ?_⟩
  show Ieee.double.div 4607182418800017408 a = _
  unfold Ieee.Format.div
  rw [e1, show Ieee.double.read 4607182418800017408 = .number false 4503599627370496 (-52) from by decide +kernel]
  simp [Ieee.Datum.quotient, Ieee.Format.write]

end Go.Proofs.Ytiddeijhjedbbaa
