/- How the model runs an operation on floats where its result is a NaN, and plain facts on comparisons; no condition. -/
import Derived.Test.YtiddeijhjedbbaaFltQ
import Derived.WalkKit
import Derived.WalkLawsBesides
set_option linter.unusedVariables false
set_option linter.unusedSimpArgs false
namespace Go.Proofs.Ytiddeijhjedbbaa
open Go.RowKit

def nanAt (q : Question) (w : World) : Nat := q.cut (w.tape w.drawn q)

theorem nan_form32 (t : Nat) : Flt.NaN Ieee.single ((t % 2) * 2 ^ 31 + 0x7f800000 + 1 + (t / 2) % (2 ^ 23 - 1)) := by
  unfold Flt.NaN Flt.rung
  show 2139095040 < _ % 2147483648
  have h1 : (t / 2) % (2 ^ 23 - 1) < 8388607 := Nat.mod_lt _ (by decide)
  generalize (t / 2) % (2 ^ 23 - 1) = b at *
  rcases Nat.mod_two_eq_zero_or_one t with h | h <;> rw [h] <;> omega
theorem nan_form64 (t : Nat) : Flt.NaN Ieee.double ((t % 2) * 2 ^ 63 + 0x7ff0000000000000 + 1 + (t / 2) % (2 ^ 52 - 1)) := by
  unfold Flt.NaN Flt.rung
  show 9218868437227405312 < _ % 9223372036854775808
  have h1 : (t / 2) % (2 ^ 52 - 1) < 4503599627370495 := Nat.mod_lt _ (by decide)
  generalize (t / 2) % (2 ^ 52 - 1) = b at *
  rcases Nat.mod_two_eq_zero_or_one t with h | h <;> rw [h] <;> omega
theorem nanAt_nan32 (x y : Nat) (w : World) : Flt.NaN Ieee.single (nanAt (.nanBits .f32 x y) w) := nan_form32 _
theorem nanAt_nan64 (x y : Nat) (w : World) : Flt.NaN Ieee.double (nanAt (.nanBits .f64 x y) w) := nan_form64 _
theorem nanAt_conv64 (x : Nat) (w : World) : Flt.NaN Ieee.double (nanAt (.nanConv .f64 x) w) := nan_form64 _
theorem nanAt_conv32 (x : Nat) (w : World) : Flt.NaN Ieee.single (nanAt (.nanConv .f32 x) w) := nan_form32 _

section
variable {P : Program} (w : World)
theorem run_arith_nan (op : BinOp) (t : TypeId) (k : FloatKind) (x y : Nat) (hop : op = .add ∨ op = .sub ∨ op = .mul ∨ op = .quo) (h : floatBits op k x y = none) :
    (binOp op t (.float k x) (.float k y)).run P w = .ok (.float k (nanAt (.nanBits k x y) w)) w.drew := by
  rcases hop with rfl | rfl | rfl | rfl <;> simp only [floatBits] at h <;>
    simp [binOp, Op.floatArith, h, nanAt, Question.forced]
theorem run_conv_nan (src dst : TypeId) (s k : FloatKind) (b : Nat) (hs : (P.underlying src).isSome = true) (hd : P.underlying dst = some (.float k)) (hsk : s ≠ k) (h : Flt.NaN s.format b) :
    (convert src dst (.float s b)).run P w = .ok (.float k (nanAt (.nanConv k b) w)) w.drew := by
  obtain ⟨u, hs'⟩ := Option.isSome_iff_exists.1 hs
  have hr : s.decode b = .nan (Flt.neg s.format b) (Flt.rung s.format b - s.format.infRung) := by
    unfold FloatKind.decode
    exact Flt.read_nan s.format (by cases s <;> decide) h
  cases u <;> simp [convert, run_underlying hs', run_underlying hd, Conv.floatToFloat, hsk, hr, nanAt, Question.forced]
end

theorem single_ok : Ieee.single.binade ≤ Ieee.single.infRung := by decide
theorem double_ok : Ieee.double.binade ≤ Ieee.double.infRung := by decide
theorem order_self (k : FloatKind) {a : Nat} (h : ¬ Flt.NaN k.format a) : k.format.order a a = some .eq := by
  rw [Flt.order_num k.format (by cases k <;> decide) h h]
  simp
theorem order_nan (k : FloatKind) {a b : Nat} (h : Flt.NaN k.format a ∨ Flt.NaN k.format b) : k.format.order a b = none :=
  Flt.order_nan k.format (by cases k <;> decide) h

/-- What an operation gives is no NaN, where it gives something. -/
theorem write_num (f : Ieee.Format) {d : Ieee.Datum} (h : d.isNaN = false) : ¬ Flt.NaN f (f.write d) := by
  cases d with
  | number s m e =>
    obtain ⟨k, d, hkd⟩ : ∃ k d : Nat, e = f.leastPlace + k - d := ⟨(e - f.leastPlace).toNat, (f.leastPlace - e).toNat, by omega⟩
    simp only [Ieee.Format.write]
    rw [Flt.nearest_eq f _ _ _ k d hkd]
    refine fun hn => ?_
    have := Flt.infRung_lt' f
    unfold Flt.NaN at hn
    rw [Flt.rung_word f _ (Flt.G_lt f _ _)] at hn
    unfold Flt.G at hn
    omega
  | infinity s =>
    refine fun hn => ?_
    unfold Flt.NaN at hn
    rw [show f.write (.infinity s) = f.word s f.infRung from rfl, Flt.rung_word f _ (Flt.infRung_lt' f)] at hn
    omega
  | nan s t => cases h
theorem sum_num {p q d : Ieee.Datum} (h : p.sum q = some d) : d.isNaN = false := by
  cases p <;> cases q <;> simp only [Ieee.Datum.sum] at h <;> first
    | (cases h; rfl)
    | (cases h; done)
    | (split at h <;> cases h <;> rfl)
theorem product_num {p q d : Ieee.Datum} (h : p.product q = some d) : d.isNaN = false := by
  cases p <;> cases q <;> simp only [Ieee.Datum.product] at h <;> first
    | (cases h; rfl)
    | (cases h; done)
    | (split at h <;> cases h <;> rfl)
theorem quotient_num {n : Nat} {p q d : Ieee.Datum} (h : p.quotient n q = some d) : d.isNaN = false := by
  cases p <;> cases q <;> simp only [Ieee.Datum.quotient] at h <;> first
    | (cases h; rfl)
    | (cases h; done)
    | skip
  split at h
  · split at h
    · cases h
    · cases h; rfl
  · cases h; rfl
theorem floatBits_num {op : BinOp} {k : FloatKind} {x y r : Nat} (h : floatBits op k x y = some r) : ¬ Flt.NaN k.format r := by
  have key : ∀ o : Option Ieee.Datum, (∀ d, o = some d → d.isNaN = false) → o.map k.format.write = some r → ¬ Flt.NaN k.format r := by
    intro o ho hr
    cases o with
    | none => cases hr
    | some d =>
      simp only [Option.map_some, Option.some.injEq] at hr
      rw [← hr]
      exact write_num k.format (ho d rfl)
  unfold floatBits at h
  split at h
  · exact key _ (fun d hd => sum_num hd) h
  · exact key _ (fun d hd => sum_num hd) h
  · exact key _ (fun d hd => product_num hd) h
  · exact key _ (fun d hd => quotient_num hd) h
  · cases h
end Go.Proofs.Ytiddeijhjedbbaa
