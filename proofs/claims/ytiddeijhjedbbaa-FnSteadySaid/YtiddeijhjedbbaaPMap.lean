/- Contracts of InvertPlate, the reference's and the program's, and the law on it. -/
import Derived.Test.YtiddeijhjedbbaaPEach
import Derived.Test.YtiddeijhjedbbaaBNum
set_option linter.unusedVariables false
set_option linter.unusedSimpArgs false
namespace Go.Proofs.Ytiddeijhjedbbaa
open Go.RowKit Ieee

theorem put_cnt {w : World} {g a b : Nat} {f G : Nat → Nat} {pre : List Value} {t : TypeId} {i o v : Nat} (ha : a < 9) (hb : b < 9) (hi : i < 64) (hc : isC a b i = true) (hl : pre.length = o) (hv : v = f i) (h : w.heap[g]? = some (.cells (row pre 64 (mapC a b f G (cntC a b i))) t (0, 0))) :
    (w.setCell ⟨g, o + i, none⟩ (.float .f32 v)).heap[g]? = some (.cells (row pre 64 (mapC a b f G (cntC a b (i + 1)))) t (0, 0)) := by
  subst hl; subst hv
  rw [put_row hi h, mapC_step' ha hb f G hi hc]

theorem numInvert {x y : Int} {F : Nat → Nat} (h : plateB x y F = true) : ∀ i, i < 64 → ¬ Flt.NaN single (mapA x.toNat y.toNat (fun i => fsub 1065353216 (F i)) (fun _ => 0) i) := by
  obtain ⟨a, b, rfl, rfl, la, ha, lb, hb, hp, hz0⟩ := plateB_size h
  intro i hi
  unfold mapA
  split
  · rename_i hc
    exact part_num' (part_one_sub (hp i hi hc))
  · exact (by decide : ¬ Flt.NaN single 0)

end Go.Proofs.Ytiddeijhjedbbaa
