/- Structs and arrays of narrow numbers that come in by value: their cells, as rows. -/
import Derived.Test.YtckcngmbbnilnaaDoorLawKit
import Derived.Test.YtckcngmbbnilnaaDoorTCopy
import Derived.OpenShut
import Derived.Lib.SmallJoins
import Derived.Deep.Strs
set_option linter.unusedVariables false
set_option linter.unusedSimpArgs false
namespace Go.Proofs.YtckcngmbbnilnaaDoor
open Go.ChangeShapes Go.WideShapes Go.ChangeAt Go.RowKit

section
variable {H : Type} {enc : TypeId × Value → H} {P : Program} {W : World} {base : Nat} {spare : Nat → Bool} {held : Bool}
theorem cell_f32 {e : TypeId} {fuel : Nat} {cs : List Value} {x : DataW H × List MemPlace} (he : P.underlying e = some (.float .f32)) (h : DataW.trod enc P W base spare held fuel e cs = some x) : ∃ b, cs = [.float .f32 b] ∧ b < 2 ^ 32 := by
  cases fuel with
  | zero => simp [DataW.trod] at h
  | succ n =>
    unfold DataW.trod at h
    rw [he] at h
    match cs, h with
    | [.float k b], h =>
      simp only [Option.ite_none_right_eq_some] at h
      obtain ⟨⟨rfl, h1⟩, _⟩ := h
      exact ⟨b, rfl, by simpa [Lit.wf] using h1⟩
theorem cell_i8 {e : TypeId} {fuel : Nat} {cs : List Value} {x : DataW H × List MemPlace} (he : P.underlying e = some (.int .i8)) (h : DataW.trod enc P W base spare held fuel e cs = some x) : ∃ b : Int, cs = [.int .i8 b] ∧ -128 ≤ b ∧ b ≤ 127 := by
  obtain ⟨b, h1, _, h2⟩ := DataW.trod_int he h
  refine ⟨b, h1, ?_⟩
  simp [Lit.wf, IntKind.min, IntKind.max, IntKind.signed, IntKind.bits] at h2
  omega
def numAt (cs : List Value) (i : Nat) : Nat := match cs[i]? with
  | some (.float _ b) => b
  | _ => 0
theorem cells_f32 {t e : TypeId} {n : Nat} {fuel : Nat} {cs : List Value} {x : DataW H × List MemPlace} (ht : P.underlying t = some (.array n e)) (he : P.underlying e = some (.float .f32)) (hc : P.cellsOf e = 1) (hn : P.cellsOf t = n)
    (h : DataW.trod enc P W base spare held fuel t cs = some x) : ∃ F : Nat → Nat, cs = (List.range n).map (fun i => Value.float .f32 (F i)) ∧ ∀ i, i < n → F i < 2 ^ 32 := by
  obtain ⟨xs, m, _, _, hl, hx, hi⟩ := DataW.trod_array ht h
  have hlen : cs.length = n := hl.trans hn
  have hat : ∀ i, i < n → ∃ b, cs[i]? = some (.float .f32 b) ∧ b < 2 ^ 32 := by
    intro i hin
    have h1 := hi i hin
    rw [hc, Nat.mul_one] at h1
    have hxi : i < xs.length := by omega
    rw [List.getElem?_eq_getElem hxi] at h1
    obtain ⟨b, hb, hb2⟩ := cell_f32 he h1
    refine ⟨b, ?_, hb2⟩
    have : ((cs.drop i).take 1)[0]? = some (.float .f32 b) := by rw [hb]; rfl
    simpa using this
  refine ⟨numAt cs, ?_, ?_⟩
  · apply List.ext_getElem?
    intro i
    by_cases hin : i < n
    · obtain ⟨b, hb, _⟩ := hat i hin
      rw [hb]
      simp [hin, numAt, hb]
    · rw [List.getElem?_eq_none (by omega)]
      symm
      rw [List.getElem?_eq_none (by simp; omega)]
  · intro i hin
    obtain ⟨b, hb, hb2⟩ := hat i hin
    simpa [numAt, hb] using hb2

theorem form_row {r : Reach} {b0 : Nat} {t e : TypeId} {n : Nat} {v : Value} {d : DataW H} {ps : List MemPlace} (ht : P.underlying t = some (.array n e)) (he : P.underlying e = some (.float .f32)) (hc : P.cellsOf e = 1) (hn : P.cellsOf t = n)
    (hval : ∃ cs : Array Value, v = .agg cs) (hd : DataW.Trod enc P W base spare held t v d ps) : ∃ F : Nat → Nat, v = .agg (row [] n F) ∧ ∀ i, i < n → F i < 2 ^ 32 := by
  obtain ⟨cs, rfl⟩ := hval
  obtain ⟨fuel, hf⟩ := hd
  obtain ⟨F, h1, h2⟩ := cells_f32 ht he hc hn hf
  refine ⟨F, ?_, h2⟩
  congr 1
  apply Array.toList_inj.1
  simpa [row, Value.cells] using h1
open Go.Deep in
theorem form_train4 {r : Reach} {b0 : Nat} {t : TypeId} {f0 f1 f2 f3 : Field} {e : TypeId} {v : Value} {d : DataW H} {ps : List MemPlace} (ht : P.underlying t = some (.struct #[f0, f1, f2, f3])) (hC : P.cellsOf t = 15)
    (o0 : f0.offset = 0) (o1 : f1.offset = 1) (o2 : f2.offset = 2) (o3 : f3.offset = 3) (c0 : P.cellsOf f0.type = 1) (c1 : P.cellsOf f1.type = 1) (c2 : P.cellsOf f2.type = 1) (c3 : P.cellsOf f3.type = 12)
    (u0 : P.underlying f0.type = some (.int .i8)) (u1 : P.underlying f1.type = some (.float .f32)) (u2 : P.underlying f2.type = some (.float .f32)) (u3 : P.underlying f3.type = some (.array 12 e)) (he : P.underlying e = some (.float .f32)) (hc : P.cellsOf e = 1)
    (hval : Value.okWide P W r b0 t v) (hd : DataW.Trod enc P W base spare held t v d ps) :
    ∃ (ro : Int) (s u : Nat) (F : Nat → Nat), v = .agg (train ro s u F) ∧ (-128 ≤ ro ∧ ro ≤ 127) ∧ s < 2 ^ 32 ∧ u < 2 ^ 32 ∧ ∀ i, i < 12 → F i < 2 ^ 32 := by
  obtain ⟨cs, rfl, hsz⟩ := okWide_struct ht hval
  obtain ⟨fuel, hf⟩ := hd
  have hf' : DataW.trod enc P W base spare held fuel t cs.toList = some (d, ps) := hf
  obtain ⟨y0, y1, y2, y3, n, hx, hl, h0, h1, h2, h3⟩ := Go.Joins.trod_struct4 ht hf'
  rw [o0, c0] at h0
  rw [o1, c1] at h1
  rw [o2, c2] at h2
  rw [o3, c3] at h3
  obtain ⟨ro, e0, b1, b2⟩ := cell_i8 u0 h0
  obtain ⟨s, e1, b3⟩ := cell_f32 u1 h1
  obtain ⟨u, e2, b4⟩ := cell_f32 u2 h2
  obtain ⟨F, e3, b5⟩ := cells_f32 u3 he hc c3 h3
  refine ⟨ro, s, u, F, ?_, ⟨b1, b2⟩, b3, b4, b5⟩
  congr 1
  apply Array.toList_inj.1
  rw [hC] at hl
  generalize cs.toList = l at *
  match l, hl with
  | [a0, a1, a2, a3, a4, a5, a6, a7, a8, a9, a10, a11, a12, a13, a14], _ =>
    simp at e0 e1 e2
    simp only [List.drop_succ_cons, List.drop_zero, List.take_succ_cons, List.take_zero] at e3
    rw [e0, e1, e2, e3]
    simp [row]
open Go.Deep in
theorem form_plate3 {r : Reach} {b0 : Nat} {t : TypeId} {f0 f1 f2 : Field} {e : TypeId} {v : Value} {d : DataW H} {ps : List MemPlace} (ht : P.underlying t = some (.struct #[f0, f1, f2])) (hC : P.cellsOf t = 66)
    (o0 : f0.offset = 0) (o1 : f1.offset = 1) (o2 : f2.offset = 2) (c0 : P.cellsOf f0.type = 1) (c1 : P.cellsOf f1.type = 1) (c2 : P.cellsOf f2.type = 64)
    (u0 : P.underlying f0.type = some (.int .i8)) (u1 : P.underlying f1.type = some (.int .i8)) (u2 : P.underlying f2.type = some (.array 64 e)) (he : P.underlying e = some (.float .f32)) (hc : P.cellsOf e = 1)
    (hval : Value.okWide P W r b0 t v) (hd : DataW.Trod enc P W base spare held t v d ps) :
    ∃ (x y : Int) (F : Nat → Nat), v = .agg (row [.int .i8 x, .int .i8 y] 64 F) ∧ (-128 ≤ x ∧ x ≤ 127) ∧ (-128 ≤ y ∧ y ≤ 127) ∧ ∀ i, i < 64 → F i < 2 ^ 32 := by
  obtain ⟨cs, rfl, hsz⟩ := okWide_struct ht hval
  obtain ⟨fuel, hf⟩ := hd
  have hf' : DataW.trod enc P W base spare held fuel t cs.toList = some (d, ps) := hf
  obtain ⟨y0, y1, y2, n, hx, hl, h0, h1, h2⟩ := trod_struct3 ht hf'
  rw [o0, c0] at h0
  rw [o1, c1] at h1
  rw [o2, c2] at h2
  obtain ⟨x, e0, b1, b2⟩ := cell_i8 u0 h0
  obtain ⟨y, e1, b3, b4⟩ := cell_i8 u1 h1
  obtain ⟨F, e3, b5⟩ := cells_f32 u2 he hc c2 h2
  refine ⟨x, y, F, ?_, ⟨b1, b2⟩, ⟨b3, b4⟩, b5⟩
  congr 1
  apply Array.toList_inj.1
  rw [hC] at hl
  generalize cs.toList = l at *
  match l, hl, e0, e1, e3 with
  | a0 :: a1 :: l, hl, e0, e1, e3 =>
    simp at e0 e1
    simp only [List.drop_succ_cons, List.drop_zero] at e3
    rw [List.take_of_length_le (by simp at hl; omega)] at e3
    rw [e0, e1, e3]
    simp [row]
end
section
variable {H : Type} {enc : TypeId × Value → H} {W : World} {base : Nat} {spare : Nat → Bool} {held : Bool}
set_option maxRecDepth 100000 in
theorem form_train {r : Reach} {b0 : Nat} {v : Value} {d : DataW H} {ps : List MemPlace} (hval : Value.okWide Tryd.prog W r b0 28 v) (hd : DataW.Trod enc Tryd.prog W base spare held 28 v d ps) :
    ∃ (ro : Int) (s u : Nat) (F : Nat → Nat), v = .agg (train ro s u F) ∧ (-128 ≤ ro ∧ ro ≤ 127) ∧ s < 2 ^ 32 ∧ u < 2 ^ 32 ∧ ∀ i, i < 12 → F i < 2 ^ 32 :=
  form_train4 (e := 22) Tryd.underlying28 (by kernel_rfl) rfl rfl rfl rfl (by kernel_rfl) (by kernel_rfl) (by kernel_rfl) (by kernel_rfl) (by kernel_rfl) (by kernel_rfl) (by kernel_rfl) (by kernel_rfl) (by kernel_rfl) (by kernel_rfl) hval hd
set_option maxRecDepth 100000 in
theorem form_plate {r : Reach} {b0 : Nat} {v : Value} {d : DataW H} {ps : List MemPlace} (hval : Value.okWide Tryd.prog W r b0 35 v) (hd : DataW.Trod enc Tryd.prog W base spare held 35 v d ps) :
    ∃ (x y : Int) (F : Nat → Nat), v = .agg (row [.int .i8 x, .int .i8 y] 64 F) ∧ (-128 ≤ x ∧ x ≤ 127) ∧ (-128 ≤ y ∧ y ≤ 127) ∧ ∀ i, i < 64 → F i < 2 ^ 32 :=
  form_plate3 (e := 22) Tryd.underlying35 (by kernel_rfl) rfl rfl rfl (by kernel_rfl) (by kernel_rfl) (by kernel_rfl) (by kernel_rfl) (by kernel_rfl) (by kernel_rfl) (by kernel_rfl) (by kernel_rfl) hval hd
end
end Go.Proofs.YtckcngmbbnilnaaDoor
