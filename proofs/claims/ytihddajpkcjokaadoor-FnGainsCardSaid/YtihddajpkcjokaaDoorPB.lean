/- Parts of a proof, merged; each under its own premises. -/
import Derived.Test.YtihddajpkcjokaaDoorPA
import Derived.Deep.RegionWith
import Derived.Deep.RegionHeld3
import Derived.Deep.MidRow
import Derived.OwnWalk
import Derived.Laws.OwnMore

/-! The contracts of the functions that take numbers alone: dots for light, gain, and what has gained taken back. -/
set_option linter.unusedVariables false
set_option linter.unusedSimpArgs false
namespace Go.Proofs.YtihddajpkcjokaaDoor
open Go.RowKit Ieee

/-! ### quotients of numbers that are not negative -/
theorem Z_fdiv_pos {x y : Nat} (hx : Fin32 x) (hy : Fin32 y) (h0 : 0 ≤ Z32 x) (h1 : 0 < Z32 y) :
    ∃ g, Z32 (fdiv x y) = (Flt.U single g : Nat) ∧ g ≤ single.infRung ∧ ∀ r, r ≤ single.infRung → (Z32 x * 2 ^ 149 ≤ (Flt.U single r : Nat) * Z32 y → g ≤ r) ∧ ((Flt.U single r : Nat) * Z32 y ≤ Z32 x * 2 ^ 149 → r ≤ g) := by
  obtain ⟨g, e, hg, hr⟩ := Flt.div_fin single (D := 149) (by decide) hx hy (by unfold Z32 at h1; omega)
  have hxa : ((Flt.Z single x).natAbs : Int) = Z32 x := by unfold Z32 at *; omega
  have hya : ((Flt.Z single y).natAbs : Int) = Z32 y := by unfold Z32 at *; omega
  have hp : ((2 ^ 149 : Nat) : Int) = 2 ^ 149 := by simp
  have conv : ∀ r, r ≤ single.infRung → (Z32 x * 2 ^ 149 ≤ (Flt.U single r : Nat) * Z32 y → g ≤ r) ∧ ((Flt.U single r : Nat) * Z32 y ≤ Z32 x * 2 ^ 149 → r ≤ g) := by
    intro r hrr
    obtain ⟨c1, c2⟩ := hr r hrr
    rw [← hxa, ← hya, ← hp, ← Int.natCast_mul, ← Int.natCast_mul]
    exact ⟨fun h => c1 (by exact_mod_cast h), fun h => c2 (by exact_mod_cast h)⟩
  refine ⟨g, ?_, hg, conv⟩
  have hny : Flt.neg single y = false := by
    unfold Z32 Flt.Z Flt.sg at h1
    cases hn : Flt.neg single y
    · rfl
    · rw [hn] at h1; simp at h1; omega
  unfold fdiv Z32
  rw [e]
  simp only [Option.getD_some]
  rw [Flt.Z_word single _ (by have := Flt.infRung_lt' single; omega), hny]
  by_cases hz : Z32 x = 0
  · have : g ≤ 0 := (conv 0 (by omega)).1 (by rw [hz]; simp [Flt.U_zero])
    have : g = 0 := by omega
    subst this
    rw [Flt.U_zero]
    unfold Flt.sg; split <;> simp
  · have hnx : Flt.neg single x = false := by
      unfold Z32 Flt.Z Flt.sg at h0 hz
      cases hn : Flt.neg single x
      · rfl
      · rw [hn] at h0 hz; simp at h0 hz; omega
    rw [hnx]; rfl
theorem U_of_pos {c : Nat} (h : 0 ≤ Z32 c) : ((Flt.U single (Flt.rung single c) : Nat) : Int) = Z32 c := by
  unfold Z32 Flt.Z Flt.sg at *
  split at h
  · rename_i hn; rw [if_pos hn]; omega
  · rename_i hn; rw [if_neg hn]
theorem fdiv_le {x y c : Nat} (hx : Fin32 x) (hy : Fin32 y) (h0 : 0 ≤ Z32 x) (h1 : 0 < Z32 y) (hc : Fin32 c) (hc0 : 0 ≤ Z32 c) (h : Z32 x * 2 ^ 149 ≤ Z32 c * Z32 y) : Z32 (fdiv x y) ≤ Z32 c := by
  obtain ⟨g, e, hg, hr⟩ := Z_fdiv_pos hx hy h0 h1
  have hrc : Flt.rung single c ≤ single.infRung := Nat.le_of_lt hc
  have := (hr _ hrc).1 (by rw [U_of_pos hc0]; exact h)
  rw [e, ← U_of_pos hc0]
  exact_mod_cast Flt.U_le single this
theorem fdiv_ge {x y c : Nat} (hx : Fin32 x) (hy : Fin32 y) (h0 : 0 ≤ Z32 x) (h1 : 0 < Z32 y) (hc : Fin32 c) (hc0 : 0 ≤ Z32 c) (h : Z32 c * Z32 y ≤ Z32 x * 2 ^ 149) : Z32 c ≤ Z32 (fdiv x y) := by
  obtain ⟨g, e, hg, hr⟩ := Z_fdiv_pos hx hy h0 h1
  have hrc : Flt.rung single c ≤ single.infRung := Nat.le_of_lt hc
  have := (hr _ hrc).2 (by rw [U_of_pos hc0]; exact h)
  rw [e, ← U_of_pos hc0]
  exact_mod_cast Flt.U_le single this

/-! ### dots for light -/
def isOne (s : Nat) : Bool := FloatKind.f32.format.order s 1065353216 == some .eq
def overOne (s : Nat) : Bool := FloatKind.f32.format.order s 1065353216 == some .gt
def dotQ (l s : Nat) : Nat := fdiv (fsub 1065353216 l) (fsub 1065353216 s)
def dotR (l s : Nat) : Nat := if partB l && partB s && !isOne s && !overOne (dotQ l s) then dotQ l s else 0
def dotC (l s : Nat) : Int := if !(partB l && partB s) then 2 else if isOne s then 4 else if overOne (dotQ l s) then 6 else 0
theorem less_pos {s : Nat} (h : partB s = true) (h1 : isOne s = false) : 0 < Z32 (fsub 1065353216 s) := by
  obtain ⟨n, a, b⟩ := (part_iff s).1 h
  have hne : Z32 s ≠ 2 ^ 149 := by
    intro he
    unfold isOne at h1
    rw [show FloatKind.f32.format.order s 1065353216 = single.order s 1065353216 from rfl, Flt.order_num single (by decide) n (by decide)] at h1
    rw [show Flt.Z single s = Flt.Z single 1065353216 from by rw [show Flt.Z single s = Z32 s from rfl, he]; exact Z_one.symm] at h1
    simp at h1
  have := fsub_ge (x := 1065353216) (y := s) (by decide) (part_fin h) (c := 1) (by decide) (by rw [Z_one, show Z32 1 = 1 from by decide +kernel]; omega)
  rw [show Z32 1 = 1 from by decide +kernel] at this
  omega
theorem specDot_any (l s : Nat) (w : World) : Calls Tryd.prog 17 #[.float .f32 l, .float .f32 s] w fun e w' => e = .returned (.tuple #[.float .f32 (dotR l s), .int .i64 (dotC l s)]) ∧ Below w.heap.size w w' := by
  unfold dotR dotC
  cases hl : partB l
  · go_enter Tryd.func17, Tryd.ntmps17
    go_wp2_with (go_at_call 31; refine (specPart_any _ _).mono ?_; rintro e w' ⟨rfl, rfl⟩)
    go_ret2
    exact ⟨rfl, Below.refl _ _⟩
  · cases hs : partB s
    · go_enter Tryd.func17, Tryd.ntmps17
      go_wp2_with (go_at_call 31; refine (specPart_any _ _).mono ?_; rintro e w' ⟨rfl, rfl⟩)
      go_ret2
      exact ⟨rfl, Below.refl _ _⟩
    · cases ho : isOne s
      · have e1 := fun w => run_fsub (P := Tryd.prog) w 24 (x := 1065353216) (by decide) (part_fin hs)
        have e2 := fun w => run_fsub (P := Tryd.prog) w 24 (x := 1065353216) (by decide) (part_fin hl)
        have e3 := fun w => run_fdiv (P := Tryd.prog) w 24 (part_fin (part_one_sub hl)) (part_fin (part_one_sub hs)) (by have := less_pos hs ho; omega)
        have ho' : (FloatKind.f32.format.order s 1065353216 == some .eq) = false := ho
        cases hq : overOne (dotQ l s)
        · have hq' : (FloatKind.f32.format.order (fdiv (fsub 1065353216 l) (fsub 1065353216 s)) 1065353216 == some .gt) = false := hq
          have HO := Lib.hid ho
          clear ho
          have HQ := Lib.hid hq
          clear hq
          go_enter Tryd.func17, Tryd.ntmps17
          go_wp2_with (go_at_call 31; refine (specPart_any _ _).mono ?_; rintro e w' ⟨rfl, rfl⟩)
          go_ret2
          exact ⟨rfl, Below.refl _ _⟩
        · have hq' : (FloatKind.f32.format.order (fdiv (fsub 1065353216 l) (fsub 1065353216 s)) 1065353216 == some .gt) = true := hq
          go_enter Tryd.func17, Tryd.ntmps17
          go_wp2_with (go_at_call 31; refine (specPart_any _ _).mono ?_; rintro e w' ⟨rfl, rfl⟩)
          go_ret2
          exact ⟨rfl, Below.refl _ _⟩
      · have ho' : (FloatKind.f32.format.order s 1065353216 == some .eq) = true := ho
        go_enter Tryd.func17, Tryd.ntmps17
        go_wp2_with (go_at_call 31; refine (specPart_any _ _).mono ?_; rintro e w' ⟨rfl, rfl⟩)
        go_ret2
        exact ⟨rfl, Below.refl _ _⟩

theorem implDot_any (l s : Nat) (w : World) : Calls Tryd.prog 16 #[.float .f32 l, .float .f32 s] w fun e w' => e = .returned (.tuple #[.float .f32 (dotR l s), .int .i64 (dotC l s)]) ∧ Below w.heap.size w w' := by
  unfold dotR dotC
  cases hls : partB l && partB s
  · go_enter Tryd.func16, Tryd.ntmps16
    go_wp2_with fail
    refine (areParts_two l s _ _ (by go_simp) (by go_simp)).mono ?_
    rintro e w' ⟨rfl, rfl⟩
    go_wp2
    go_ret2
    exact ⟨rfl, by repeat (first | exact Below.refl _ _ | refine Below.alloc ?_ (by simp) _ | refine Below.setCell ?_ (by simp) _)⟩
  · have hl : partB l = true := by rw [Bool.and_eq_true] at hls; exact hls.1
    have hs : partB s = true := by rw [Bool.and_eq_true] at hls; exact hls.2
    cases ho : isOne s
    · have e1 := fun w => run_fsub (P := Tryd.prog) w 24 (x := 1065353216) (by decide) (part_fin hs)
      have e2 := fun w => run_fsub (P := Tryd.prog) w 24 (x := 1065353216) (by decide) (part_fin hl)
      have e3 := fun w => run_fdiv (P := Tryd.prog) w 24 (part_fin (part_one_sub hl)) (part_fin (part_one_sub hs)) (by have := less_pos hs ho; omega)
      have ho' : (FloatKind.f32.format.order s 1065353216 == some .eq) = false := ho
      cases hq : overOne (dotQ l s)
      · have hq' : (FloatKind.f32.format.order (fdiv (fsub 1065353216 l) (fsub 1065353216 s)) 1065353216 == some .gt) = false := hq
        have HO := Lib.hid ho
        clear ho
        have HQ := Lib.hid hq
        clear hq
        go_enter Tryd.func16, Tryd.ntmps16
        go_wp2_with fail
        refine (areParts_two l s _ _ (by go_simp) (by go_simp)).mono ?_
        rintro e w' ⟨rfl, rfl⟩
        go_wp2
        go_ret2
        exact ⟨rfl, by repeat (first | exact Below.refl _ _ | refine Below.alloc ?_ (by simp) _ | refine Below.setCell ?_ (by simp) _)⟩
      · have hq' : (FloatKind.f32.format.order (fdiv (fsub 1065353216 l) (fsub 1065353216 s)) 1065353216 == some .gt) = true := hq
        go_enter Tryd.func16, Tryd.ntmps16
        go_wp2_with fail
        refine (areParts_two l s _ _ (by go_simp) (by go_simp)).mono ?_
        rintro e w' ⟨rfl, rfl⟩
        go_wp2
        go_ret2
        exact ⟨rfl, by repeat (first | exact Below.refl _ _ | refine Below.alloc ?_ (by simp) _ | refine Below.setCell ?_ (by simp) _)⟩
    · have ho' : (FloatKind.f32.format.order s 1065353216 == some .eq) = true := ho
      go_enter Tryd.func16, Tryd.ntmps16
      go_wp2_with fail
      refine (areParts_two l s _ _ (by go_simp) (by go_simp)).mono ?_
      rintro e w' ⟨rfl, rfl⟩
      go_wp2
      go_ret2
      exact ⟨rfl, by repeat (first | exact Below.refl _ _ | refine Below.alloc ?_ (by simp) _ | refine Below.setCell ?_ (by simp) _)⟩

/-! ### gain -/
def clipR (x : Nat) : Nat := if FloatKind.f32.format.order x 1065353216 == some .gt then 1065353216 else if FloatKind.f32.format.order x 0 == some .lt then 0 else x
def gained (d g : Nat) : Nat := clipR (fadd d (fmul g (fmul (fmul 1082130432 d) (fsub 1065353216 d))))
theorem part_clip {x : Nat} (h : ¬ Flt.NaN single x) : partB (clipR x) = true := by
  unfold clipR
  rw [show FloatKind.f32.format.order x 1065353216 = single.order x 1065353216 from rfl, show FloatKind.f32.format.order x 0 = single.order x 0 from rfl, Flt.order_num single (by decide) h (by decide), Flt.order_num single (by decide) h (by decide)]
  rw [show Flt.Z single 1065353216 = 2 ^ 149 from Z_one, show Flt.Z single 0 = 0 from Z_zero, show Flt.Z single x = Z32 x from rfl]
  split
  · decide +kernel
  · split
    · decide +kernel
    · rename_i h1 h2
      refine (part_iff x).2 ⟨h, ?_, ?_⟩
      · rcases Int.lt_trichotomy (Z32 x) 0 with hz | hz | hz
        · rw [Int.compare_eq_lt.2 hz] at h2; simp at h2
        · omega
        · omega
      · rcases Int.lt_trichotomy (Z32 x) (2 ^ 149) with hz | hz | hz
        · omega
        · omega
        · rw [Int.compare_eq_gt.2 hz] at h1; simp at h1
structure GainFacts (d g : Nat) : Prop where
  f1 : Fin32 (fmul 1082130432 d)
  f2 : Fin32 (fsub 1065353216 d)
  f3 : Fin32 (fmul (fmul 1082130432 d) (fsub 1065353216 d))
  f4 : Fin32 (fmul g (fmul (fmul 1082130432 d) (fsub 1065353216 d)))
  n5 : ¬ Flt.NaN single (fadd d (fmul g (fmul (fmul 1082130432 d) (fsub 1065353216 d))))
  p4 : 0 ≤ Z32 (fmul g (fmul (fmul 1082130432 d) (fsub 1065353216 d)))
theorem gain_facts {d g : Nat} (hd : partB d = true) (hg : gainB g = true) : GainFacts d g := by
  obtain ⟨_, d2, d3⟩ := (part_iff d).1 hd
  obtain ⟨_, g2, g3⟩ := (gain_iff g).1 hg
  have fd := part_fin hd
  have fg := gain_fin hg
  have four : Fin32 1082130432 := by decide
  -- 4 d
  have a0 : 0 ≤ Z32 (fmul 1082130432 d) := by
    have := fmul_ge four fd (c := 0) (by decide) (by rw [Z_zero, Z_four, Int.zero_mul]; omega)
    rwa [Z_zero] at this
  have a1 : Z32 (fmul 1082130432 d) ≤ 2 ^ 151 := by
    have := fmul_le four fd (c := 1082130432) four (by rw [Z_four]; omega)
    rwa [Z_four] at this
  have f1 : Fin32 (fmul 1082130432 d) := fin_of (num_fmul four fd) (by omega) (by omega)
  -- 1 - d
  have hs := part_one_sub hd
  obtain ⟨_, b0, b1⟩ := (part_iff _).1 hs
  have f2 := part_fin hs
  -- their product
  have m0 := Int.mul_nonneg a0 b0
  have m1 := Int.mul_le_mul a1 b1 b0 (by omega)
  have c0 : 0 ≤ Z32 (fmul (fmul 1082130432 d) (fsub 1065353216 d)) := by
    have := fmul_ge f1 f2 (c := 0) (by decide) (by rw [Z_zero, Int.zero_mul]; exact m0)
    rwa [Z_zero] at this
  have c1 : Z32 (fmul (fmul 1082130432 d) (fsub 1065353216 d)) ≤ 2 ^ 151 := by
    have := fmul_le f1 f2 (c := 1082130432) four (by rw [Z_four]; exact m1)
    rwa [Z_four] at this
  have f3 : Fin32 (fmul (fmul 1082130432 d) (fsub 1065353216 d)) := fin_of (num_fmul f1 f2) (by omega) (by omega)
  -- with the gain
  have k0 := Int.mul_nonneg g2 c0
  have k1 := Int.mul_le_mul g3 c1 c0 (by omega)
  have e0 : 0 ≤ Z32 (fmul g (fmul (fmul 1082130432 d) (fsub 1065353216 d))) := by
    have := fmul_ge fg f3 (c := 0) (by decide) (by rw [Z_zero, Int.zero_mul]; exact k0)
    rwa [Z_zero] at this
  have e1 : Z32 (fmul g (fmul (fmul 1082130432 d) (fsub 1065353216 d))) ≤ 2 ^ 149 := by
    have := fmul_le fg f3 (c := 1065353216) (by decide) (by rw [Z_one]; exact k1)
    rwa [Z_one] at this
  have f4 : Fin32 (fmul g (fmul (fmul 1082130432 d) (fsub 1065353216 d))) := fin_of (num_fmul fg f3) (by omega) (by omega)
  exact ⟨f1, f2, f3, f4, num_fadd fd f4, e0⟩
theorem part_gained {d g : Nat} (hd : partB d = true) (hg : gainB g = true) : partB (gained d g) = true := part_clip (gain_facts hd hg).n5

theorem specGained_any (d g : Nat) (w : World) (hd : partB d = true) (hg : gainB g = true) : Calls Tryd.prog 33 #[.float .f32 d, .float .f32 g] w fun e w' => e = .returned (.float .f32 (gained d g)) ∧ w = w' := by
  obtain ⟨f1, f2, f3, f4, n5, _⟩ := gain_facts hd hg
  have e1 := fun w => run_fmul (P := Tryd.prog) w 24 (x := 1082130432) (by decide) (part_fin hd)
  have e2 := fun w => run_fsub (P := Tryd.prog) w 24 (x := 1065353216) (by decide) (part_fin hd)
  have e3 := fun w => run_fmul (P := Tryd.prog) w 24 f1 f2
  have e4 := fun w => run_fmul (P := Tryd.prog) w 24 (gain_fin hg) f3
  have e5 := fun w => run_fadd (P := Tryd.prog) w 24 (part_fin hd) f4
  have hcs := fun b w => run_conv_same (P := Tryd.prog) 24 24 .f32 b w (by kernel_rfl) (by kernel_rfl)
  unfold gained clipR
  clear f1 f2 f3 f4 n5 hd hg
  generalize hX : fadd d (fmul g (fmul (fmul 1082130432 d) (fsub 1065353216 d))) = X at *
  clear hX
  go_enter Tryd.func33, Tryd.ntmps33
  go_wp2
  all_goals (go_ret; exact ⟨by simp [*], rfl⟩)

theorem implGained_any (d g : Nat) (w : World) (hd : partB d = true) (hg : gainB g = true) : Calls Tryd.prog 30 #[.float .f32 d, .float .f32 g] w fun e w' => e = .returned (.float .f32 (gained d g)) ∧ w = w' := by
  obtain ⟨f1, f2, f3, f4, n5, _⟩ := gain_facts hd hg
  have e1 := fun w => run_fmul (P := Tryd.prog) w 24 (x := 1082130432) (by decide) (part_fin hd)
  have e2 := fun w => run_fsub (P := Tryd.prog) w 24 (x := 1065353216) (by decide) (part_fin hd)
  have e3 := fun w => run_fmul (P := Tryd.prog) w 24 f1 f2
  have e4 := fun w => run_fmul (P := Tryd.prog) w 24 (gain_fin hg) f3
  have e5 := fun w => run_fadd (P := Tryd.prog) w 24 (part_fin hd) f4
  have hcs := fun b w => run_conv_same (P := Tryd.prog) 24 24 .f32 b w (by kernel_rfl) (by kernel_rfl)
  unfold gained clipR
  clear f1 f2 f3 f4 n5 hd hg
  generalize hX : fadd d (fmul g (fmul (fmul 1082130432 d) (fsub 1065353216 d))) = X at *
  clear hX
  go_enter Tryd.func30, Tryd.ntmps30
  go_wp2
  all_goals (go_ret; exact ⟨by simp [*], rfl⟩)
end Go.Proofs.YtihddajpkcjokaaDoor

/-! The contracts of GainDot and LoseGain, as the program and the reference have them. -/
set_option linter.unusedVariables false
set_option linter.unusedSimpArgs false
namespace Go.Proofs.YtihddajpkcjokaaDoor
open Go.RowKit Ieee

def gainR (d g : Nat) : Nat := if partB d && gainB g then gained d g else 0
theorem specGainDot_any (d g : Nat) (w : World) : Calls Tryd.prog 8 #[.float .f32 d, .float .f32 g] w fun e w' => e = .returned (.tuple #[.float .f32 (gainR d g), .int .i64 (okC (partB d && gainB g))]) ∧ Below w.heap.size w w' := by
  unfold gainR
  cases hd : partB d
  · go_enter Tryd.func8, Tryd.ntmps8
    go_wp2_with (first | (go_at_call 31; refine (specPart_any _ _).mono ?_; rintro e w' ⟨rfl, rfl⟩) | (go_at_call 32; refine (specGain_any _ _).mono ?_; rintro e w' ⟨rfl, rfl⟩))
    go_ret2
    exact ⟨rfl, Below.refl _ _⟩
  · cases hg : gainB g
    · go_enter Tryd.func8, Tryd.ntmps8
      go_wp2_with (first | (go_at_call 31; refine (specPart_any _ _).mono ?_; rintro e w' ⟨rfl, rfl⟩) | (go_at_call 32; refine (specGain_any _ _).mono ?_; rintro e w' ⟨rfl, rfl⟩))
      go_ret2
      exact ⟨rfl, Below.refl _ _⟩
    · go_enter Tryd.func8, Tryd.ntmps8
      go_wp2_with (first | (go_at_call 31; refine (specPart_any _ _).mono ?_; rintro e w' ⟨rfl, rfl⟩) | (go_at_call 32; refine (specGain_any _ _).mono ?_; rintro e w' ⟨rfl, rfl⟩) | (go_at_call 33; refine (specGained_any _ _ _ hd hg).mono ?_; rintro e w' ⟨rfl, rfl⟩))
      go_ret2
      exact ⟨rfl, Below.refl _ _⟩

theorem implGainDot_any (d g : Nat) (w : World) : Calls Tryd.prog 7 #[.float .f32 d, .float .f32 g] w fun e w' => e = .returned (.tuple #[.float .f32 (gainR d g), .int .i64 (okC (partB d && gainB g))]) ∧ Below w.heap.size w w' := by
  unfold gainR
  cases hd : partB d
  · go_enter Tryd.func7, Tryd.ntmps7
    go_wp2_with (first | (go_at_call 12; refine (implPart_any _ _).mono ?_; rintro e w' ⟨rfl, rfl⟩) | (go_at_call 29; refine (implGain_any _ _).mono ?_; rintro e w' ⟨rfl, rfl⟩))
    go_ret2
    exact ⟨rfl, Below.refl _ _⟩
  · cases hg : gainB g
    · go_enter Tryd.func7, Tryd.ntmps7
      go_wp2_with (first | (go_at_call 12; refine (implPart_any _ _).mono ?_; rintro e w' ⟨rfl, rfl⟩) | (go_at_call 29; refine (implGain_any _ _).mono ?_; rintro e w' ⟨rfl, rfl⟩))
      go_ret2
      exact ⟨rfl, Below.refl _ _⟩
    · go_enter Tryd.func7, Tryd.ntmps7
      go_wp2_with (first | (go_at_call 12; refine (implPart_any _ _).mono ?_; rintro e w' ⟨rfl, rfl⟩) | (go_at_call 29; refine (implGain_any _ _).mono ?_; rintro e w' ⟨rfl, rfl⟩) | (go_at_call 30; refine (implGained_any _ _ _ hd hg).mono ?_; rintro e w' ⟨rfl, rfl⟩))
      go_ret2
      exact ⟨rfl, Below.refl _ _⟩

/-! ### taken back -/
def halfR (lo hi : Nat) : Nat := fdiv (fadd lo hi) 1073741824
def loseStep (dot g : Nat) (p : Nat × Nat) : Nat × Nat := if FloatKind.f32.format.order (gained (halfR p.1 p.2) g) dot == some .lt then (halfR p.1 p.2, p.2) else (p.1, halfR p.1 p.2)
def loseAt (dot g : Nat) : Nat → Nat × Nat
  | 0 => (0, 1065353216)
  | k + 1 => loseStep dot g (loseAt dot g k)
theorem part_sum {lo hi : Nat} (h1 : partB lo = true) (h2 : partB hi = true) : Fin32 (fadd lo hi) ∧ 0 ≤ Z32 (fadd lo hi) ∧ Z32 (fadd lo hi) ≤ 2 ^ 150 := by
  obtain ⟨_, a1, a2⟩ := (part_iff lo).1 h1
  obtain ⟨_, b1, b2⟩ := (part_iff hi).1 h2
  have fa := part_fin h1
  have fb := part_fin h2
  have c1 := fadd_ge fa fb (c := 0) (by decide) (by rw [Z_zero]; omega)
  have c2 := fadd_le fa fb (c := 1073741824) (by decide) (by rw [Z_two]; omega)
  rw [Z_zero] at c1
  rw [Z_two] at c2
  exact ⟨fin_of (num_fadd fa fb) (by omega) (by omega), c1, c2⟩
theorem part_half {lo hi : Nat} (h1 : partB lo = true) (h2 : partB hi = true) : partB (halfR lo hi) = true := by
  obtain ⟨f, c1, c2⟩ := part_sum h1 h2
  have two : Fin32 1073741824 := by decide
  have z2 : 0 < Z32 1073741824 := by rw [Z_two]; omega
  refine (part_iff _).2 ⟨num_fdiv f two (by omega), ?_, ?_⟩
  · have := fdiv_ge f two c1 z2 (c := 0) (by decide) (by rw [Z_zero]; omega) (by rw [Z_zero, Int.zero_mul]; omega)
    rwa [Z_zero] at this
  · have := fdiv_le f two c1 z2 (c := 1065353216) (by decide) (by rw [Z_one]; omega) (by rw [Z_one, Z_two]; omega)
    rwa [Z_one] at this
theorem part_lose (dot g : Nat) : ∀ k, partB (loseAt dot g k).1 = true ∧ partB (loseAt dot g k).2 = true
  | 0 => ⟨(by decide +kernel : partB 0 = true), (by decide +kernel : partB 1065353216 = true)⟩
  | k + 1 => by
    obtain ⟨h1, h2⟩ := part_lose dot g k
    have := part_half h1 h2
    unfold loseAt loseStep
    split
    · exact ⟨this, h2⟩
    · exact ⟨h1, this⟩
def loseR (d g : Nat) : Nat := if partB d && gainB g then (loseAt d g 24).2 else 0
theorem loseAt_lt {d g n lo hi : Nat} (e : loseAt d g n = (lo, hi)) (h : (FloatKind.f32.format.order (gained (halfR lo hi) g) d == some .lt) = true) : loseAt d g (n + 1) = (halfR lo hi, hi) := by
  show loseStep d g (loseAt d g n) = _
  rw [e]
  simp [loseStep, h]
theorem loseAt_ge {d g n lo hi : Nat} (e : loseAt d g n = (lo, hi)) (h : (FloatKind.f32.format.order (gained (halfR lo hi) g) d == some .lt) = false) : loseAt d g (n + 1) = (lo, halfR lo hi) := by
  show loseStep d g (loseAt d g n) = _
  rw [e]
  simp [loseStep, h]
theorem specLose_any (d g : Nat) (w : World) (hg : gainB g = true) : Calls Tryd.prog 34 #[.float .f32 d, .float .f32 g] w fun e w' => e = .returned (.float .f32 (loseAt d g 24).2) ∧ w = w' := by
  go_enter Tryd.func34, Tryd.ntmps34
  go_wp2
  go_loop [5, 6, 7] (fun lo hi i => ∃ n l h : Nat, n ≤ 24 ∧ i = .int .i64 n ∧ loseAt d g n = (l, h) ∧ lo = .float .f32 l ∧ hi = .float .f32 h) (fun _ _ i => 24 - (intOf i).toNat)
  case atStart => exact ⟨0, 0, 1065353216, by omega, rfl, rfl, rfl, rfl⟩
  case round =>
    obtain ⟨n, l, h, hn, rfl, he, rfl, rfl⟩ := hrel
    have hl : partB l = true := by have := (part_lose d g n).1; rwa [he] at this
    have hh : partB h = true := by have := (part_lose d g n).2; rwa [he] at this
    have HE := Lib.hid he
    clear he
    by_cases hlt : n < 24
    · have fs := (part_sum hl hh).1
      have hp := part_half hl hh
      have e1 := fun w => run_fadd (P := Tryd.prog) w 24 (part_fin hl) (part_fin hh)
      have e2 : ∀ w, (binOp .quo 24 (.float .f32 (fadd l h)) (.float .f32 1073741824)).run Tryd.prog w = .ok (.float .f32 (halfR l h)) w := fun w => run_fdiv (P := Tryd.prog) w 24 fs (by decide) (by rw [Z_two]; omega)
      cases ht : (FloatKind.f32.format.order (gained (halfR l h) g) d == some .lt)
      · go_wp2_with (go_at_call 33; refine (specGained_any _ _ _ hp hg).mono ?_; rintro e w' ⟨rfl, rfl⟩)
        go_round
        case rel => exact ⟨n + 1, l, halfR l h, by omega, by go_num, loseAt_ge HE.out ht, rfl, rfl⟩
        case measure => simp [intOf]; omega
      · go_wp2_with (go_at_call 33; refine (specGained_any _ _ _ hp hg).mono ?_; rintro e w' ⟨rfl, rfl⟩)
        go_round
        case rel => exact ⟨n + 1, halfR l h, h, by omega, by go_num, loseAt_lt HE.out ht, rfl, rfl⟩
        case measure => simp [intOf]; omega
    · obtain rfl : n = 24 := by omega
      go_wp2
      go_ret
      exact ⟨by rw [HE.out]; rfl, rfl⟩
theorem implLoseIn_any (d g : Nat) (w : World) (hd : partB d = true) (hg : gainB g = true) : Calls Tryd.prog 9 #[.float .f32 d, .float .f32 g] w fun e w' => e = .returned (.tuple #[.float .f32 (loseAt d g 24).2, .int .i64 0]) ∧ w = w' := by
  go_enter Tryd.func9, Tryd.ntmps9
  go_wp2_with (first | (go_at_call 12; refine (implPart_any _ _).mono ?_; rintro e w' ⟨rfl, rfl⟩) | (go_at_call 29; refine (implGain_any _ _).mono ?_; rintro e w' ⟨rfl, rfl⟩))
  go_loop [6, 7, 17] (fun lo hi i => ∃ n l h : Nat, n ≤ 24 ∧ i = .int .i64 n ∧ loseAt d g n = (l, h) ∧ lo = .float .f32 l ∧ hi = .float .f32 h) (fun _ _ i => 24 - (intOf i).toNat)
  case atStart => exact ⟨0, 0, 1065353216, by omega, rfl, rfl, rfl, rfl⟩
  case round =>
    obtain ⟨n, l, h, hn, rfl, he, rfl, rfl⟩ := hrel
    have hl : partB l = true := by have := (part_lose d g n).1; rwa [he] at this
    have hh : partB h = true := by have := (part_lose d g n).2; rwa [he] at this
    have HE := Lib.hid he
    clear he
    by_cases hlt : n < 24
    · have fs := (part_sum hl hh).1
      have hp := part_half hl hh
      have e1 := fun w => run_fadd (P := Tryd.prog) w 24 (part_fin hl) (part_fin hh)
      have e2 : ∀ w, (binOp .quo 24 (.float .f32 (fadd l h)) (.float .f32 1073741824)).run Tryd.prog w = .ok (.float .f32 (halfR l h)) w := fun w => run_fdiv (P := Tryd.prog) w 24 fs (by decide) (by rw [Z_two]; omega)
      cases ht : (FloatKind.f32.format.order (gained (halfR l h) g) d == some .lt)
      · go_wp2_with (go_at_call 30; refine (implGained_any _ _ _ hp hg).mono ?_; rintro e w' ⟨rfl, rfl⟩)
        go_round
        case rel => exact ⟨n + 1, l, halfR l h, by omega, by go_num, loseAt_ge HE.out ht, rfl, rfl⟩
        case measure => simp [intOf]; omega
      · go_wp2_with (go_at_call 30; refine (implGained_any _ _ _ hp hg).mono ?_; rintro e w' ⟨rfl, rfl⟩)
        go_round
        case rel => exact ⟨n + 1, halfR l h, h, by omega, by go_num, loseAt_lt HE.out ht, rfl, rfl⟩
        case measure => simp [intOf]; omega
    · obtain rfl : n = 24 := by omega
      go_wp2
      go_ret2
      exact ⟨by rw [HE.out]; rfl, rfl⟩
theorem implLoseGain_any (d g : Nat) (w : World) : Calls Tryd.prog 9 #[.float .f32 d, .float .f32 g] w fun e w' => e = .returned (.tuple #[.float .f32 (loseR d g), .int .i64 (okC (partB d && gainB g))]) ∧ Below w.heap.size w w' := by
  unfold loseR
  cases hd : partB d
  · go_enter Tryd.func9, Tryd.ntmps9
    go_wp2_with (first | (go_at_call 12; refine (implPart_any _ _).mono ?_; rintro e w' ⟨rfl, rfl⟩) | (go_at_call 29; refine (implGain_any _ _).mono ?_; rintro e w' ⟨rfl, rfl⟩))
    go_ret2
    exact ⟨rfl, Below.refl _ _⟩
  · cases hg : gainB g
    · go_enter Tryd.func9, Tryd.ntmps9
      go_wp2_with (first | (go_at_call 12; refine (implPart_any _ _).mono ?_; rintro e w' ⟨rfl, rfl⟩) | (go_at_call 29; refine (implGain_any _ _).mono ?_; rintro e w' ⟨rfl, rfl⟩))
      go_ret2
      exact ⟨rfl, Below.refl _ _⟩
    · refine (implLoseIn_any d g w hd hg).mono ?_
      rintro e w' ⟨rfl, rfl⟩
      exact ⟨rfl, Below.refl _ _⟩
theorem specLoseGain_any (d g : Nat) (w : World) : Calls Tryd.prog 10 #[.float .f32 d, .float .f32 g] w fun e w' => e = .returned (.tuple #[.float .f32 (loseR d g), .int .i64 (okC (partB d && gainB g))]) ∧ Below w.heap.size w w' := by
  unfold loseR
  cases hd : partB d
  · go_enter Tryd.func10, Tryd.ntmps10
    go_wp2_with (first | (go_at_call 31; refine (specPart_any _ _).mono ?_; rintro e w' ⟨rfl, rfl⟩) | (go_at_call 32; refine (specGain_any _ _).mono ?_; rintro e w' ⟨rfl, rfl⟩))
    go_ret2
    exact ⟨rfl, Below.refl _ _⟩
  · cases hg : gainB g
    · go_enter Tryd.func10, Tryd.ntmps10
      go_wp2_with (first | (go_at_call 31; refine (specPart_any _ _).mono ?_; rintro e w' ⟨rfl, rfl⟩) | (go_at_call 32; refine (specGain_any _ _).mono ?_; rintro e w' ⟨rfl, rfl⟩))
      go_ret2
      exact ⟨rfl, Below.refl _ _⟩
    · go_enter Tryd.func10, Tryd.ntmps10
      go_wp2_with (first | (go_at_call 31; refine (specPart_any _ _).mono ?_; rintro e w' ⟨rfl, rfl⟩) | (go_at_call 32; refine (specGain_any _ _).mono ?_; rintro e w' ⟨rfl, rfl⟩) | (go_at_call 34; refine (specLose_any _ _ _ hg).mono ?_; rintro e w' ⟨rfl, rfl⟩))
      go_ret2
      exact ⟨rfl, Below.refl _ _⟩

end Go.Proofs.YtihddajpkcjokaaDoor

/-! Contracts of MixTrains and AddRoller, the reference's and the program's. -/
set_option linter.unusedVariables false
set_option linter.unusedSimpArgs false
namespace Go.Proofs.YtihddajpkcjokaaDoor
open Go.RowKit Ieee

/-- A number of no sign that is at most c. -/
def Up (c a : Nat) : Prop := Fin32 a ∧ 0 ≤ Z32 a ∧ Z32 a ≤ Z32 c
theorem i8_small {n : Int} (h1 : -128 ≤ n) (h2 : n ≤ 127) : IntKind.i8.wrap n = n := IntWalk.i8_in n ⟨h1, h2⟩
end Go.Proofs.YtihddajpkcjokaaDoor

/-! Contracts of l02Turn and turn. -/
set_option linter.unusedVariables false
set_option linter.unusedSimpArgs false
namespace Go.Proofs.YtihddajpkcjokaaDoor
open Go.RowKit Ieee

@[go_sem] theorem row_t3 (a b c : Value) (F : Nat → Nat) : (row [a, b, c] 12 F)[3]? = some (.float .f32 (F 0)) := row_get [a, b, c] 12 F (i := 0) (by omega)
@[go_sem] theorem row_t4 (a b c : Value) (F : Nat → Nat) : (row [a, b, c] 12 F)[4]? = some (.float .f32 (F 1)) := row_get [a, b, c] 12 F (i := 1) (by omega)
@[go_sem] theorem row_ts3 (a b c : Value) (F : Nat → Nat) (v : Nat) : (row [a, b, c] 12 F).setIfInBounds 3 (.float .f32 v) = row [a, b, c] 12 (upd F 0 v) := row_set [a, b, c] 12 F (i := 0) (by omega)
@[go_sem] theorem row_ts4 (a b c : Value) (F : Nat → Nat) (v : Nat) : (row [a, b, c] 12 F).setIfInBounds 4 (.float .f32 v) = row [a, b, c] 12 (upd F 1 v) := row_set [a, b, c] 12 F (i := 1) (by omega)
@[go_sem] theorem upd_same (F : Nat → Nat) (i v : Nat) : upd F i v i = v := by simp [upd]
@[go_sem] theorem upd_01 (F : Nat → Nat) (v : Nat) : upd F 0 v 1 = F 1 := by simp [upd]
@[go_sem] theorem upd_00 (F : Nat → Nat) (v u : Nat) : upd (upd F 0 v) 0 u = upd F 0 u := by funext j; unfold upd; split <;> rfl

end Go.Proofs.YtihddajpkcjokaaDoor

/-! Plates: which numbers are cells', valid plates, what is done cell by cell; plain, no program in sight. -/
set_option linter.unusedVariables false
set_option linter.unusedSimpArgs false
namespace Go.Proofs.YtihddajpkcjokaaDoor
open Go.RowKit Ieee

/-- A plate's cells. -/
abbrev ppre (x y : Int) : List Value := [.int .i8 x, .int .i8 y]
abbrev plate (x y : Int) (F : Nat → Nat) : Array Value := row (ppre x y) 64 F

/-- Is number i that of a cell, where a cells are wide and b are high? -/
def isC (a b i : Nat) : Bool := decide (i % 8 < a) && decide (i / 8 < b)
/-- How many cells lie before number i. -/
def cntC (a b : Nat) : Nat → Nat
  | 0 => 0
  | i + 1 => cntC a b i + (if isC a b i then 1 else 0)
/-- The number of the k-th cell. -/
def cellAt (a k : Nat) : Nat := k % a + 8 * (k / a)
theorem cells_at : ∀ a, a < 9 → ∀ b, b < 9 → ∀ i, i < 64 → isC a b i = true → cellAt a (cntC a b i) = i ∧ cntC a b i < a * b := by decide +kernel
theorem cells_of : ∀ a, a < 9 → ∀ b, b < 9 → ∀ k, k < 64 → k < a * b → cellAt a k < 64 ∧ isC a b (cellAt a k) = true ∧ cntC a b (cellAt a k) = k := by decide +kernel
theorem cells_all : ∀ a, a < 9 → ∀ b, b < 9 → cntC a b 64 = a * b ∧ a * b ≤ 64 := by decide +kernel
theorem cnt_step (a b i : Nat) (h : isC a b i = true) : cntC a b (i + 1) = cntC a b i + 1 := by simp [cntC, h]
theorem cnt_skip (a b i : Nat) (h : isC a b i = false) : cntC a b (i + 1) = cntC a b i := by simp [cntC, h]
theorem isC_iff {a b i : Nat} : isC a b i = true ↔ i % 8 < a ∧ i / 8 < b := by simp [isC]
theorem isC_no {a b i : Nat} : isC a b i = false ↔ ¬ (i % 8 < a ∧ i / 8 < b) := by
  rw [← isC_iff]; simp
theorem cellAt_xy {a X Y : Nat} (h1 : X < a) : cellAt a (a * Y + X) = X + 8 * Y := by
  unfold cellAt
  rw [Nat.mul_add_mod, Nat.mod_eq_of_lt h1, Nat.mul_add_div (by omega), Nat.div_eq_of_lt h1, Nat.add_zero]

/-- A plate in which the first k cells have turned. -/
def mapC (a b : Nat) (g G : Nat → Nat) (k : Nat) : Nat → Nat := fun j => if isC a b j && decide (cntC a b j < k) then g j else G j
theorem mapC_0 (a b : Nat) (g G : Nat → Nat) : mapC a b g G 0 = G := by funext j; simp [mapC]
/-- A plate in which all cells have turned. -/
def mapA (a b : Nat) (g G : Nat → Nat) : Nat → Nat := fun j => if isC a b j then g j else G j
section
variable {a b : Nat} (ha : a < 9) (hb : b < 9) (g G : Nat → Nat)
include ha hb
theorem mapC_step {k : Nat} (hk : k < a * b) (pre : List Value) : row pre 64 (upd (mapC a b g G k) (cellAt a k) (g (cellAt a k))) = row pre 64 (mapC a b g G (k + 1)) := by
  have h64 := (cells_all a ha b hb).2
  obtain ⟨c1, c2, c3⟩ := cells_of a ha b hb k (by omega) hk
  apply row_congr
  intro j hj
  unfold upd mapC
  by_cases h : j = cellAt a k
  · subst h
    simp [c2, c3]
  · rw [if_neg h]
    cases hc : isC a b j
    · simp
    · obtain ⟨d1, d2⟩ := cells_at a ha b hb j hj hc
      by_cases e : cntC a b j = k
      · rw [e] at d1; exact absurd d1.symm h
      · have : (cntC a b j < k + 1) ↔ (cntC a b j < k) := by omega
        simp [this]
theorem mapC_step' {i : Nat} (hi : i < 64) (hc : isC a b i = true) (pre : List Value) : row pre 64 (upd (mapC a b g G (cntC a b i)) i (g i)) = row pre 64 (mapC a b g G (cntC a b (i + 1))) := by
  obtain ⟨d1, d2⟩ := cells_at a ha b hb i hi hc
  have := mapC_step ha hb g G d2 pre
  rw [d1] at this
  rw [this, cnt_step a b i hc]
theorem mapC_end (pre : List Value) : row pre 64 (mapC a b g G (a * b)) = row pre 64 (mapA a b g G) := by
  apply row_congr
  intro j hj
  unfold mapC mapA
  cases hc : isC a b j
  · simp
  · have := (cells_at a ha b hb j hj hc).2
    simp [this]
omit ha hb in
theorem mapC_keep {k i : Nat} (hi : i < 64) (h : cntC a b i = k) : mapC a b g G k i = G i := by
  unfold mapC; simp [h]
end
section
variable {a b : Nat} (ha : a < 9) (hb : b < 9) (F : Nat → Nat)
include ha hb
end

/-! ### valid plates -/
def dotB (a b : Nat) (F : Nat → Nat) (i : Nat) : Bool := if isC a b i then partB (F i) else zeroB (F i)
def dotsB (a b : Nat) (F : Nat → Nat) : Nat → Bool
  | 0 => true
  | k + 1 => dotsB a b F k && dotB a b F k
def sizeB (x y : Int) : Bool := (decide (1 ≤ x) && decide (x ≤ 8)) && (decide (1 ≤ y) && decide (y ≤ 8))
def plateB (x y : Int) (F : Nat → Nat) : Bool := sizeB x y && dotsB x.toNat y.toNat F 64
theorem dotsB_le {a b : Nat} {F : Nat → Nat} {n : Nat} (h : dotsB a b F n = true) : ∀ k, k < n → dotB a b F k = true := by
  induction n with
  | zero => intro k hk; omega
  | succ n ih =>
    simp only [dotsB, Bool.and_eq_true] at h
    intro k hk
    by_cases e : k = n
    · subst e; exact h.2
    · exact ih h.1 k (by omega)
theorem dotsB_no {a b : Nat} {F : Nat → Nat} {n k : Nat} (hk : k < n) (h : dotB a b F k = false) : dotsB a b F n = false := by
  cases e : dotsB a b F n
  · rfl
  · have := dotsB_le e k hk
    rw [h] at this; cases this
theorem sizeB_iff {x y : Int} : sizeB x y = true ↔ (1 ≤ x ∧ x ≤ 8) ∧ 1 ≤ y ∧ y ≤ 8 := by simp [sizeB]
theorem plateB_size {x y : Int} {F : Nat → Nat} (h : plateB x y F = true) : ∃ a b : Nat, x = a ∧ y = b ∧ 1 ≤ a ∧ a < 9 ∧ 1 ≤ b ∧ b < 9 ∧ (∀ i, i < 64 → isC a b i = true → partB (F i) = true) ∧ (∀ i, i < 64 → isC a b i = false → zeroB (F i) = true) := by
  unfold plateB at h
  simp only [Bool.and_eq_true] at h
  obtain ⟨⟨h1, h2⟩, h3, h4⟩ := (sizeB_iff.1 h.1)
  have hd := dotsB_le h.2
  refine ⟨x.toNat, y.toNat, by omega, by omega, by omega, by omega, by omega, by omega, fun i hi hc => ?_, fun i hi hc => ?_⟩
  · have := hd i hi
    unfold dotB at this
    rwa [if_pos hc] at this
  · have := hd i hi
    unfold dotB at this
    rwa [if_neg (by rw [hc]; simp)] at this
end Go.Proofs.YtihddajpkcjokaaDoor

/-! Cells of plates and valid plates, as the reference and the program ask it. -/
set_option linter.unusedVariables false
set_option linter.unusedSimpArgs false
namespace Go.Proofs.YtihddajpkcjokaaDoor
open Go.RowKit Ieee

theorem specIn_yes {n lo hi : Int} (h1 : lo ≤ n) (h2 : n ≤ hi) (w : World) : Calls Tryd.prog 56 #[.int .i64 n, .int .i64 lo, .int .i64 hi] w fun e w' => e = .returned (.bool true) ∧ w = w' := by
  go_enter Tryd.func56, Tryd.ntmps56
  go_wp2
  go_ret
  exact ⟨rfl, rfl⟩
theorem specIn_lo {n lo hi : Int} (h1 : n < lo) (w : World) : Calls Tryd.prog 56 #[.int .i64 n, .int .i64 lo, .int .i64 hi] w fun e w' => e = .returned (.bool false) ∧ w = w' := by
  go_enter Tryd.func56, Tryd.ntmps56
  go_wp2
  go_ret
  exact ⟨rfl, rfl⟩
theorem specIn_hi {n lo hi : Int} (h1 : lo ≤ n) (h2 : hi < n) (w : World) : Calls Tryd.prog 56 #[.int .i64 n, .int .i64 lo, .int .i64 hi] w fun e w' => e = .returned (.bool false) ∧ w = w' := by
  have h3 : decide (n ≤ hi) = false := by simp; omega
  go_enter Tryd.func56, Tryd.ntmps56
  go_wp2
  go_ret
  exact ⟨rfl, rfl⟩
theorem specIs_any {a b i : Nat} (ha : a < 9) (hb : b < 9) (hi : i < 64) (w : World) (B : Nat) (c0 : w.cell? ⟨B, 0, none⟩ = some (.int .i8 a)) (c1 : w.cell? ⟨B, 1, none⟩ = some (.int .i8 b)) :
    Calls Tryd.prog 44 #[.pointer (some ⟨B, 0, none⟩), .int .i64 i] w fun e w' => e = .returned (.bool (isC a b i)) ∧ w = w' := by
  have i0 : (0 : Int) ≤ i := by omega
  have i63 : (i : Int) ≤ 63 := by omega
  unfold isC
  by_cases h1 : i % 8 < a
  · by_cases h2 : i / 8 < b
    · have g1 : (i : Int) % 8 < a := by omega
      have g2 : (i : Int) / 8 < b := by omega
      have e1 : decide (i % 8 < a) = true := by simpa using h1
      have e2 : decide (i / 8 < b) = true := by simpa using h2
      rw [e1, e2]
      clear e1 e2 h1 h2 hi
      go_enter Tryd.func44, Tryd.ntmps44
      go_wp2_with (first | (go_at_call 56; (with_reducible refine (specIn_yes (by omega) (by omega) _).mono ?_); rintro e w' ⟨rfl, rfl⟩) | go_in)
      go_ret
      exact ⟨rfl, rfl⟩
    · have g1 : (i : Int) % 8 < a := by omega
      have g2 : ¬ (i : Int) / 8 < b := by omega
      have e1 : decide (i % 8 < a) = true := by simpa using h1
      have e2 : decide (i / 8 < b) = false := by simp; omega
      have g3 : decide ((i : Int) / 8 < b) = false := by simp; omega
      rw [e1, e2]
      clear e1 e2 h1 h2 hi g2
      go_enter Tryd.func44, Tryd.ntmps44
      go_wp2_with (first | (go_at_call 56; (with_reducible refine (specIn_yes (by omega) (by omega) _).mono ?_); rintro e w' ⟨rfl, rfl⟩) | go_in)
      go_ret
      exact ⟨rfl, rfl⟩
  · have g1 : decide ((i : Int) % 8 < a) = false := by simp; omega
    have e1 : decide (i % 8 < a) = false := by simpa using h1
    rw [e1]
    clear e1 h1 hi
    go_enter Tryd.func44, Tryd.ntmps44
    go_wp2_with (first | (go_at_call 56; (with_reducible refine (specIn_yes (by omega) (by omega) _).mono ?_); rintro e w' ⟨rfl, rfl⟩) | go_in)
    go_ret
    exact ⟨rfl, rfl⟩

/-- Does a plate of a by b cells have the cell X, Y? -/
def inXY (X Y : Int) (a b : Nat) : Bool := (decide (0 ≤ X) && decide (X < a)) && (decide (0 ≤ Y) && decide (Y < b))
theorem implIs_any (X Y : Int) (a b : Nat) (ha : a < 9) (hb : b < 9) (w : World) (B : Nat) (c0 : w.cell? ⟨B, 0, none⟩ = some (.int .i8 a)) (c1 : w.cell? ⟨B, 1, none⟩ = some (.int .i8 b)) :
    Calls Tryd.prog 46 #[.pointer (some ⟨B, 0, none⟩), .int .i64 X, .int .i64 Y] w fun e w' => e = .returned (.bool (inXY X Y a b)) ∧ w = w' := by
  unfold inXY
  by_cases h1 : 0 ≤ X
  · by_cases h2 : X < a
    · by_cases h3 : 0 ≤ Y
      · by_cases h4 : Y < b
        · rw [show decide (0 ≤ X) = true from by simpa using h1, show decide (X < a) = true from by simpa using h2, show decide (0 ≤ Y) = true from by simpa using h3, show decide (Y < b) = true from by simpa using h4]
          go_enter Tryd.func46, Tryd.ntmps46
          go_wp2
          go_ret
          exact ⟨rfl, rfl⟩
        · rw [show decide (0 ≤ X) = true from by simpa using h1, show decide (X < a) = true from by simpa using h2, show decide (0 ≤ Y) = true from by simpa using h3, show decide (Y < b) = false from by simpa using h4]
          have g : decide (Y < b) = false := by simpa using h4
          clear h4
          go_enter Tryd.func46, Tryd.ntmps46
          go_wp2
          go_ret
          exact ⟨rfl, rfl⟩
      · rw [show decide (0 ≤ X) = true from by simpa using h1, show decide (X < a) = true from by simpa using h2, show decide (0 ≤ Y) = false from by simpa using h3]
        have g : decide (0 ≤ Y) = false := by simpa using h3
        clear h3
        go_enter Tryd.func46, Tryd.ntmps46
        go_wp2
        go_ret
        exact ⟨rfl, rfl⟩
    · rw [show decide (0 ≤ X) = true from by simpa using h1, show decide (X < a) = false from by simpa using h2]
      have g : decide (X < a) = false := by simpa using h2
      clear h2
      go_enter Tryd.func46, Tryd.ntmps46
      go_wp2
      go_ret
      exact ⟨rfl, rfl⟩
  · rw [show decide (0 ≤ X) = false from by simpa using h1]
    have g : decide (0 ≤ X) = false := by simpa using h1
    clear h1
    go_enter Tryd.func46, Tryd.ntmps46
    go_wp2
    go_ret
    exact ⟨rfl, rfl⟩

set_option maxHeartbeats 1600000 in
theorem specPOk0 (a b : Nat) (F : Nat → Nat) (w : World) (ha1 : 1 ≤ a) (ha : a < 9) (hb1 : 1 ≤ b) (hb : b < 9) (B : Nat) (hB : w.heap[B]? = some (.cells (plate a b F) 35 (0, 0))) : Calls Tryd.prog 43 #[.pointer (some ⟨B, 0, none⟩)] w fun e w' => e = .returned (.bool (dotsB a b F 64)) ∧ w = w' := by
  have c0 : w.cell? ⟨B, 0, none⟩ = some (.int .i8 a) := (cell_of_row w B 0 _ _ _ hB).trans (row_g0 _ _ _ _)
  have c1 : w.cell? ⟨B, 1, none⟩ = some (.int .i8 b) := (cell_of_row w B 1 _ _ _ hB).trans (row_g1 _ _ _ _ _)
  have HB := Lib.hid hB
  clear hB
  go_enter Tryd.func43, Tryd.ntmps43
  go_wp2_with (first | (go_at_call 44; (with_reducible refine (hIs _ (by assumption) (by assumption)).mono ?_); rintro e w' ⟨rfl, rfl⟩) | (go_at_call 31; (with_reducible refine (specPart_any _ _).mono ?_); rintro e w' ⟨rfl, rfl⟩) | (go_at_call 56; (with_reducible refine (specIn_yes (by omega) (by omega) _).mono ?_); rintro e w' ⟨rfl, rfl⟩) | go_in)
  · skip
    go_loop [3] (fun i => ∃ k : Nat, k ≤ 64 ∧ i = .int .i64 k ∧ dotsB a b F k = true) (fun i => 64 - (intOf i).toNat)
    case atStart => exact ⟨0, by omega, rfl, rfl⟩
    case round =>
      obtain ⟨k, hk, rfl, hc⟩ := hrel
      have HC := Lib.hid hc
      clear hc
      by_cases hlt : k < 64
      · have cf : w.cell? ⟨B, 2 + k, none⟩ = some (.float .f32 (F k)) := (cell_of_row w B (2 + k) _ _ _ HB.out).trans (row_k2 _ _ _ _ hlt)
        cases hr : isC a b k
        · cases hz : zeroB (F k)
          · obtain ⟨z1, z2⟩ := zero_no hz
            have HZ := Lib.hid hz
            have HR := Lib.hid hr
            have hIs : ∀ w : World, w.cell? ⟨B, 0, none⟩ = some (.int .i8 a) → w.cell? ⟨B, 1, none⟩ = some (.int .i8 b) → Calls Tryd.prog 44 #[.pointer (some ⟨B, 0, none⟩), .int .i64 k] w fun e w' => e = .returned (.bool false) ∧ w = w' := fun w c0 c1 => by have := specIs_any ha hb hlt w B c0 c1; rwa [HR.out] at this
            clear hz hr
            go_wp2_with (first | (go_at_call 44; (with_reducible refine (hIs _ (by assumption) (by assumption)).mono ?_); rintro e w' ⟨rfl, rfl⟩) | (go_at_call 31; (with_reducible refine (specPart_any _ _).mono ?_); rintro e w' ⟨rfl, rfl⟩) | (go_at_call 56; (with_reducible refine (specIn_yes (by omega) (by omega) _).mono ?_); rintro e w' ⟨rfl, rfl⟩) | go_in)
            go_ret
            exact ⟨by rw [dotsB_no hlt (by simp [dotB, HR.out, HZ.out])]; rfl, rfl⟩
          · have z1 := zero_yes hz
            have HZ := Lib.hid hz
            have HR := Lib.hid hr
            have hIs : ∀ w : World, w.cell? ⟨B, 0, none⟩ = some (.int .i8 a) → w.cell? ⟨B, 1, none⟩ = some (.int .i8 b) → Calls Tryd.prog 44 #[.pointer (some ⟨B, 0, none⟩), .int .i64 k] w fun e w' => e = .returned (.bool false) ∧ w = w' := fun w c0 c1 => by have := specIs_any ha hb hlt w B c0 c1; rwa [HR.out] at this
            clear hz hr
            go_wp2_with (first | (go_at_call 44; (with_reducible refine (hIs _ (by assumption) (by assumption)).mono ?_); rintro e w' ⟨rfl, rfl⟩) | (go_at_call 31; (with_reducible refine (specPart_any _ _).mono ?_); rintro e w' ⟨rfl, rfl⟩) | (go_at_call 56; (with_reducible refine (specIn_yes (by omega) (by omega) _).mono ?_); rintro e w' ⟨rfl, rfl⟩) | go_in)
            go_round
            case rel => exact ⟨k + 1, by omega, by go_num, by simp [dotsB, dotB, HC.out, HR.out, HZ.out]⟩
            case measure => simp [intOf]; omega
        · cases hf : partB (F k)
          · have HR := Lib.hid hr
            have hIs : ∀ w : World, w.cell? ⟨B, 0, none⟩ = some (.int .i8 a) → w.cell? ⟨B, 1, none⟩ = some (.int .i8 b) → Calls Tryd.prog 44 #[.pointer (some ⟨B, 0, none⟩), .int .i64 k] w fun e w' => e = .returned (.bool true) ∧ w = w' := fun w c0 c1 => by have := specIs_any ha hb hlt w B c0 c1; rwa [HR.out] at this
            clear hr
            go_wp2_with (first | (go_at_call 44; (with_reducible refine (hIs _ (by assumption) (by assumption)).mono ?_); rintro e w' ⟨rfl, rfl⟩) | (go_at_call 31; (with_reducible refine (specPart_any _ _).mono ?_); rintro e w' ⟨rfl, rfl⟩) | (go_at_call 56; (with_reducible refine (specIn_yes (by omega) (by omega) _).mono ?_); rintro e w' ⟨rfl, rfl⟩) | go_in)
            go_ret
            exact ⟨by rw [dotsB_no hlt (by simp [dotB, HR.out, hf])]; rfl, rfl⟩
          · have HR := Lib.hid hr
            have hIs : ∀ w : World, w.cell? ⟨B, 0, none⟩ = some (.int .i8 a) → w.cell? ⟨B, 1, none⟩ = some (.int .i8 b) → Calls Tryd.prog 44 #[.pointer (some ⟨B, 0, none⟩), .int .i64 k] w fun e w' => e = .returned (.bool true) ∧ w = w' := fun w c0 c1 => by have := specIs_any ha hb hlt w B c0 c1; rwa [HR.out] at this
            clear hr
            go_wp2_with (first | (go_at_call 44; (with_reducible refine (hIs _ (by assumption) (by assumption)).mono ?_); rintro e w' ⟨rfl, rfl⟩) | (go_at_call 31; (with_reducible refine (specPart_any _ _).mono ?_); rintro e w' ⟨rfl, rfl⟩) | (go_at_call 56; (with_reducible refine (specIn_yes (by omega) (by omega) _).mono ?_); rintro e w' ⟨rfl, rfl⟩) | go_in)
            go_round
            case rel => exact ⟨k + 1, by omega, by go_num, by simp [dotsB, dotB, HC.out, HR.out, hf]⟩
            case measure => simp [intOf]; omega
      · obtain rfl : k = 64 := by omega
        go_wp2
        go_ret
        exact ⟨by rw [HC.out]; rfl, rfl⟩

set_option maxHeartbeats 1600000 in
theorem specPOk_any (x y : Int) (F : Nat → Nat) (w : World) (lx : -128 ≤ x) (ux : x ≤ 127) (ly : -128 ≤ y) (uy : y ≤ 127) (B : Nat) (hB : w.heap[B]? = some (.cells (plate x y F) 35 (0, 0))) : Calls Tryd.prog 43 #[.pointer (some ⟨B, 0, none⟩)] w fun e w' => e = .returned (.bool (plateB x y F)) ∧ w = w' := by
  by_cases h1 : 1 ≤ x ∧ x ≤ 8
  · by_cases h2 : 1 ≤ y ∧ y ≤ 8
    · obtain ⟨a, rfl⟩ : ∃ a : Nat, x = a := ⟨x.toNat, by omega⟩
      obtain ⟨b, rfl⟩ : ∃ b : Nat, y = b := ⟨y.toNat, by omega⟩
      have := specPOk0 a b F w (by omega) (by omega) (by omega) (by omega) B hB
      have e : plateB a b F = dotsB a b F 64 := by unfold plateB; rw [sizeB_iff.2 ⟨h1, h2⟩]; simp
      rwa [e]
    · have hS : plateB x y F = false := by unfold plateB; rw [show sizeB x y = false from by cases h : sizeB x y; rfl; exact absurd (sizeB_iff.1 h).2 h2]; rfl
      rw [hS]
      clear hS
      have c0 : w.cell? ⟨B, 0, none⟩ = some (.int .i8 x) := (cell_of_row w B 0 _ _ _ hB).trans (row_g0 _ _ _ _)
      have c1 : w.cell? ⟨B, 1, none⟩ = some (.int .i8 y) := (cell_of_row w B 1 _ _ _ hB).trans (row_g1 _ _ _ _ _)
      obtain ⟨x1, x2⟩ := h1
      clear hB
      by_cases hy : 1 ≤ y
      · have hy2 : 8 < y := by omega
        clear h2
        go_enter Tryd.func43, Tryd.ntmps43
        go_wp2_with (first | (go_at_call 56; (with_reducible refine (specIn_yes (by omega) (by omega) _).mono ?_); rintro e w' ⟨rfl, rfl⟩) | (go_at_call 56; (with_reducible refine (specIn_hi (by omega) (by omega) _).mono ?_); rintro e w' ⟨rfl, rfl⟩) | go_in)
        go_ret
        exact ⟨rfl, rfl⟩
      · have hy2 : y < 1 := by omega
        clear h2
        go_enter Tryd.func43, Tryd.ntmps43
        go_wp2_with (first | (go_at_call 56; (with_reducible refine (specIn_yes (by omega) (by omega) _).mono ?_); rintro e w' ⟨rfl, rfl⟩) | (go_at_call 56; (with_reducible refine (specIn_lo (by omega) _).mono ?_); rintro e w' ⟨rfl, rfl⟩) | go_in)
        go_ret
        exact ⟨rfl, rfl⟩
  · have hS : plateB x y F = false := by unfold plateB; rw [show sizeB x y = false from by cases h : sizeB x y; rfl; exact absurd (sizeB_iff.1 h).1 h1]; rfl
    rw [hS]
    clear hS
    have c0 : w.cell? ⟨B, 0, none⟩ = some (.int .i8 x) := (cell_of_row w B 0 _ _ _ hB).trans (row_g0 _ _ _ _)
    clear hB
    by_cases hy : 1 ≤ x
    · have hy2 : 8 < x := by omega
      clear h1
      go_enter Tryd.func43, Tryd.ntmps43
      go_wp2_with (first | (go_at_call 56; (with_reducible refine (specIn_hi (by omega) (by omega) _).mono ?_); rintro e w' ⟨rfl, rfl⟩) | go_in)
      go_ret
      exact ⟨rfl, rfl⟩
    · have hy2 : x < 1 := by omega
      clear h1
      go_enter Tryd.func43, Tryd.ntmps43
      go_wp2_with (first | (go_at_call 56; (with_reducible refine (specIn_lo (by omega) _).mono ?_); rintro e w' ⟨rfl, rfl⟩) | go_in)
      go_ret
      exact ⟨rfl, rfl⟩

set_option maxHeartbeats 1600000 in
theorem implPOk0 (a b : Nat) (F : Nat → Nat) (w0 : World) (ha1 : 1 ≤ a) (ha : a < 9) (hb1 : 1 ≤ b) (hb : b < 9) : Calls Tryd.prog 22 #[.agg (plate a b F)] w0 fun e w' => e = .returned (.bool (dotsB a b F 64)) ∧ Below w0.heap.size w0 w' := by
  go_enter Tryd.func22, Tryd.ntmps22
  go_wp2_with (first | (go_at_call 46; (with_reducible refine (hIs _ ?_ ?_).mono ?_); (focus (go_simp)); (focus (go_simp)); rintro e w' ⟨rfl, rfl⟩) | (go_at_call 12; (with_reducible refine (implPart_any _ _).mono ?_); rintro e w' ⟨rfl, rfl⟩) | ((with_reducible refine at_load 33 ?_); refine wpList_load_part rfl 33 _ rfl _ 2 64 rfl _ _ _ _ (by repeat (first | (with_reducible assumption) | ((with_reducible refine blk_new _ _ _ ?_); focus (simp; done)) | ((with_reducible refine blk_old _ _ _ ?_ ?_); focus (simp; done)) | ((with_reducible refine blk_old _ _ _ ?_ ?_); focus (first | omega | (simp; omega))) | ((with_reducible apply blk_set); focus (simp; done)) | ((with_reducible refine blk_off _ _ _ _ ?_ ?_); focus (simp; done)) | ((with_reducible refine blk_offc _ _ _ _ ?_ ?_); focus (first | (simp; done) | omega | (simp; omega))) | ((with_reducible refine blk_off _ _ _ _ ?_ ?_); focus (first | omega | (simp; omega))) | (with_reducible refine blk_drew _ _ ?_) | ((with_reducible refine blk_below (by assumption) ?_ ?_); focus (simp; done)) | ((with_reducible refine blk_below (by assumption) ?_ ?_); focus (first | omega | (simp; omega))))) Tryd.underlying33 rfl (by kernel_rfl) (by simp [row_size]) _ (row_tail [_, _] 64 _) ?_) | go_in)
  · skip
    go_loop [25] (fun i => ∃ k : Nat, k ≤ 64 ∧ i = .int .i64 k ∧ dotsB a b F k = true) (fun i => 64 - (intOf i).toNat)
    case atStart => exact ⟨0, by omega, rfl, rfl⟩
    case round =>
      obtain ⟨k, hk, rfl, hc⟩ := hrel
      have HC := Lib.hid hc
      clear hc
      by_cases hlt : k < 64
      · have ix := fun w => run_index_row (P := Tryd.prog) w 33 24 64 F k hlt Tryd.underlying33 Tryd.underlying24 (by kernel_rfl)
        have k0 : (0 : Int) ≤ k := by omega
        cases hr : isC a b k
        · cases hz : zeroB (F k)
          · obtain ⟨z1, z2⟩ := zero_no hz
            have HZ := Lib.hid hz
            have HR := Lib.hid hr
            have hIs : ∀ w : World, w.cell? ⟨w0.heap.size, 0, none⟩ = some (.int .i8 a) → w.cell? ⟨w0.heap.size, 1, none⟩ = some (.int .i8 b) → Calls Tryd.prog 46 #[.pointer (some ⟨w0.heap.size, 0, none⟩), .int .i64 ((k : Int) % 8), .int .i64 ((k : Int) / 8)] w fun e w' => e = .returned (.bool false) ∧ w = w' := fun w c0 c1 => by have := implIs_any ((k : Int) % 8) ((k : Int) / 8) a b ha hb w w0.heap.size c0 c1; rwa [show inXY ((k : Int) % 8) ((k : Int) / 8) a b = false from by have := HR.out; first | (rw [isC_no] at this; unfold inXY; simp; omega) | (rw [isC_iff] at this; unfold inXY; simp; omega)] at this
            clear hz hr
            go_wp2_with (first | (go_at_call 46; (with_reducible refine (hIs _ ?_ ?_).mono ?_); (focus (go_simp)); (focus (go_simp)); rintro e w' ⟨rfl, rfl⟩) | (go_at_call 12; (with_reducible refine (implPart_any _ _).mono ?_); rintro e w' ⟨rfl, rfl⟩) | ((with_reducible refine at_load 33 ?_); refine wpList_load_part rfl 33 _ rfl _ 2 64 rfl _ _ _ _ (by repeat (first | (with_reducible assumption) | ((with_reducible refine blk_new _ _ _ ?_); focus (simp; done)) | ((with_reducible refine blk_old _ _ _ ?_ ?_); focus (simp; done)) | ((with_reducible refine blk_old _ _ _ ?_ ?_); focus (first | omega | (simp; omega))) | ((with_reducible apply blk_set); focus (simp; done)) | ((with_reducible refine blk_off _ _ _ _ ?_ ?_); focus (simp; done)) | ((with_reducible refine blk_offc _ _ _ _ ?_ ?_); focus (first | (simp; done) | omega | (simp; omega))) | ((with_reducible refine blk_off _ _ _ _ ?_ ?_); focus (first | omega | (simp; omega))) | (with_reducible refine blk_drew _ _ ?_) | ((with_reducible refine blk_below (by assumption) ?_ ?_); focus (simp; done)) | ((with_reducible refine blk_below (by assumption) ?_ ?_); focus (first | omega | (simp; omega))))) Tryd.underlying33 rfl (by kernel_rfl) (by simp [row_size]) _ (row_tail [_, _] 64 _) ?_) | go_in)
            go_ret
            exact ⟨by rw [dotsB_no hlt (by simp [dotB, HR.out, HZ.out])]; rfl, (by repeat (first | (with_reducible assumption) | (with_reducible exact Below.refl _ _) | ((with_reducible refine bel_alloc _ ?_ ?_); focus (first | omega | (simp; done) | (simp; omega))) | ((with_reducible refine bel_row _ ?_ ?_); focus (first | omega | (simp; done) | (simp; omega))) | ((with_reducible refine bel_cell _ ?_ ?_); focus (first | omega | (simp; done) | (simp; omega))) | (with_reducible refine Below.drew ?_) | (with_reducible refine below_wideW _ ?_) | ((with_reducible refine bel_next (by assumption) ?_ ?_); focus (first | omega | (simp; done) | (simp; omega)))))⟩
          · have z1 := zero_yes hz
            have HZ := Lib.hid hz
            have HR := Lib.hid hr
            have hIs : ∀ w : World, w.cell? ⟨w0.heap.size, 0, none⟩ = some (.int .i8 a) → w.cell? ⟨w0.heap.size, 1, none⟩ = some (.int .i8 b) → Calls Tryd.prog 46 #[.pointer (some ⟨w0.heap.size, 0, none⟩), .int .i64 ((k : Int) % 8), .int .i64 ((k : Int) / 8)] w fun e w' => e = .returned (.bool false) ∧ w = w' := fun w c0 c1 => by have := implIs_any ((k : Int) % 8) ((k : Int) / 8) a b ha hb w w0.heap.size c0 c1; rwa [show inXY ((k : Int) % 8) ((k : Int) / 8) a b = false from by have := HR.out; first | (rw [isC_no] at this; unfold inXY; simp; omega) | (rw [isC_iff] at this; unfold inXY; simp; omega)] at this
            clear hz hr
            go_wp2_with (first | (go_at_call 46; (with_reducible refine (hIs _ ?_ ?_).mono ?_); (focus (go_simp)); (focus (go_simp)); rintro e w' ⟨rfl, rfl⟩) | (go_at_call 12; (with_reducible refine (implPart_any _ _).mono ?_); rintro e w' ⟨rfl, rfl⟩) | ((with_reducible refine at_load 33 ?_); refine wpList_load_part rfl 33 _ rfl _ 2 64 rfl _ _ _ _ (by repeat (first | (with_reducible assumption) | ((with_reducible refine blk_new _ _ _ ?_); focus (simp; done)) | ((with_reducible refine blk_old _ _ _ ?_ ?_); focus (simp; done)) | ((with_reducible refine blk_old _ _ _ ?_ ?_); focus (first | omega | (simp; omega))) | ((with_reducible apply blk_set); focus (simp; done)) | ((with_reducible refine blk_off _ _ _ _ ?_ ?_); focus (simp; done)) | ((with_reducible refine blk_offc _ _ _ _ ?_ ?_); focus (first | (simp; done) | omega | (simp; omega))) | ((with_reducible refine blk_off _ _ _ _ ?_ ?_); focus (first | omega | (simp; omega))) | (with_reducible refine blk_drew _ _ ?_) | ((with_reducible refine blk_below (by assumption) ?_ ?_); focus (simp; done)) | ((with_reducible refine blk_below (by assumption) ?_ ?_); focus (first | omega | (simp; omega))))) Tryd.underlying33 rfl (by kernel_rfl) (by simp [row_size]) _ (row_tail [_, _] 64 _) ?_) | go_in)
            go_round
            case rel => exact ⟨k + 1, by omega, by go_num, by simp [dotsB, dotB, HC.out, HR.out, HZ.out]⟩
            case measure => simp [intOf]; omega
        · cases hf : partB (F k)
          · have HR := Lib.hid hr
            have hIs : ∀ w : World, w.cell? ⟨w0.heap.size, 0, none⟩ = some (.int .i8 a) → w.cell? ⟨w0.heap.size, 1, none⟩ = some (.int .i8 b) → Calls Tryd.prog 46 #[.pointer (some ⟨w0.heap.size, 0, none⟩), .int .i64 ((k : Int) % 8), .int .i64 ((k : Int) / 8)] w fun e w' => e = .returned (.bool true) ∧ w = w' := fun w c0 c1 => by have := implIs_any ((k : Int) % 8) ((k : Int) / 8) a b ha hb w w0.heap.size c0 c1; rwa [show inXY ((k : Int) % 8) ((k : Int) / 8) a b = true from by have := HR.out; first | (rw [isC_no] at this; unfold inXY; simp; omega) | (rw [isC_iff] at this; unfold inXY; simp; omega)] at this
            clear hr
            go_wp2_with (first | (go_at_call 46; (with_reducible refine (hIs _ ?_ ?_).mono ?_); (focus (go_simp)); (focus (go_simp)); rintro e w' ⟨rfl, rfl⟩) | (go_at_call 12; (with_reducible refine (implPart_any _ _).mono ?_); rintro e w' ⟨rfl, rfl⟩) | ((with_reducible refine at_load 33 ?_); refine wpList_load_part rfl 33 _ rfl _ 2 64 rfl _ _ _ _ (by repeat (first | (with_reducible assumption) | ((with_reducible refine blk_new _ _ _ ?_); focus (simp; done)) | ((with_reducible refine blk_old _ _ _ ?_ ?_); focus (simp; done)) | ((with_reducible refine blk_old _ _ _ ?_ ?_); focus (first | omega | (simp; omega))) | ((with_reducible apply blk_set); focus (simp; done)) | ((with_reducible refine blk_off _ _ _ _ ?_ ?_); focus (simp; done)) | ((with_reducible refine blk_offc _ _ _ _ ?_ ?_); focus (first | (simp; done) | omega | (simp; omega))) | ((with_reducible refine blk_off _ _ _ _ ?_ ?_); focus (first | omega | (simp; omega))) | (with_reducible refine blk_drew _ _ ?_) | ((with_reducible refine blk_below (by assumption) ?_ ?_); focus (simp; done)) | ((with_reducible refine blk_below (by assumption) ?_ ?_); focus (first | omega | (simp; omega))))) Tryd.underlying33 rfl (by kernel_rfl) (by simp [row_size]) _ (row_tail [_, _] 64 _) ?_) | go_in)
            go_ret
            exact ⟨by rw [dotsB_no hlt (by simp [dotB, HR.out, hf])]; rfl, (by repeat (first | (with_reducible assumption) | (with_reducible exact Below.refl _ _) | ((with_reducible refine bel_alloc _ ?_ ?_); focus (first | omega | (simp; done) | (simp; omega))) | ((with_reducible refine bel_row _ ?_ ?_); focus (first | omega | (simp; done) | (simp; omega))) | ((with_reducible refine bel_cell _ ?_ ?_); focus (first | omega | (simp; done) | (simp; omega))) | (with_reducible refine Below.drew ?_) | (with_reducible refine below_wideW _ ?_) | ((with_reducible refine bel_next (by assumption) ?_ ?_); focus (first | omega | (simp; done) | (simp; omega)))))⟩
          · have HR := Lib.hid hr
            have hIs : ∀ w : World, w.cell? ⟨w0.heap.size, 0, none⟩ = some (.int .i8 a) → w.cell? ⟨w0.heap.size, 1, none⟩ = some (.int .i8 b) → Calls Tryd.prog 46 #[.pointer (some ⟨w0.heap.size, 0, none⟩), .int .i64 ((k : Int) % 8), .int .i64 ((k : Int) / 8)] w fun e w' => e = .returned (.bool true) ∧ w = w' := fun w c0 c1 => by have := implIs_any ((k : Int) % 8) ((k : Int) / 8) a b ha hb w w0.heap.size c0 c1; rwa [show inXY ((k : Int) % 8) ((k : Int) / 8) a b = true from by have := HR.out; first | (rw [isC_no] at this; unfold inXY; simp; omega) | (rw [isC_iff] at this; unfold inXY; simp; omega)] at this
            clear hr
            go_wp2_with (first | (go_at_call 46; (with_reducible refine (hIs _ ?_ ?_).mono ?_); (focus (go_simp)); (focus (go_simp)); rintro e w' ⟨rfl, rfl⟩) | (go_at_call 12; (with_reducible refine (implPart_any _ _).mono ?_); rintro e w' ⟨rfl, rfl⟩) | ((with_reducible refine at_load 33 ?_); refine wpList_load_part rfl 33 _ rfl _ 2 64 rfl _ _ _ _ (by repeat (first | (with_reducible assumption) | ((with_reducible refine blk_new _ _ _ ?_); focus (simp; done)) | ((with_reducible refine blk_old _ _ _ ?_ ?_); focus (simp; done)) | ((with_reducible refine blk_old _ _ _ ?_ ?_); focus (first | omega | (simp; omega))) | ((with_reducible apply blk_set); focus (simp; done)) | ((with_reducible refine blk_off _ _ _ _ ?_ ?_); focus (simp; done)) | ((with_reducible refine blk_offc _ _ _ _ ?_ ?_); focus (first | (simp; done) | omega | (simp; omega))) | ((with_reducible refine blk_off _ _ _ _ ?_ ?_); focus (first | omega | (simp; omega))) | (with_reducible refine blk_drew _ _ ?_) | ((with_reducible refine blk_below (by assumption) ?_ ?_); focus (simp; done)) | ((with_reducible refine blk_below (by assumption) ?_ ?_); focus (first | omega | (simp; omega))))) Tryd.underlying33 rfl (by kernel_rfl) (by simp [row_size]) _ (row_tail [_, _] 64 _) ?_) | go_in)
            go_round
            case rel => exact ⟨k + 1, by omega, by go_num, by simp [dotsB, dotB, HC.out, HR.out, hf]⟩
            case measure => simp [intOf]; omega
      · obtain rfl : k = 64 := by omega
        go_wp2
        go_ret
        exact ⟨by rw [HC.out]; rfl, (by repeat (first | (with_reducible assumption) | (with_reducible exact Below.refl _ _) | ((with_reducible refine bel_alloc _ ?_ ?_); focus (first | omega | (simp; done) | (simp; omega))) | ((with_reducible refine bel_row _ ?_ ?_); focus (first | omega | (simp; done) | (simp; omega))) | ((with_reducible refine bel_cell _ ?_ ?_); focus (first | omega | (simp; done) | (simp; omega))) | (with_reducible refine Below.drew ?_) | (with_reducible refine below_wideW _ ?_) | ((with_reducible refine bel_next (by assumption) ?_ ?_); focus (first | omega | (simp; done) | (simp; omega)))))⟩

set_option maxHeartbeats 1600000 in
theorem implPOk_any (x y : Int) (F : Nat → Nat) (w : World) (lx : -128 ≤ x) (ux : x ≤ 127) (ly : -128 ≤ y) (uy : y ≤ 127) : Calls Tryd.prog 22 #[.agg (plate x y F)] w fun e w' => e = .returned (.bool (plateB x y F)) ∧ Below w.heap.size w w' := by
  by_cases h1 : 1 ≤ x ∧ x ≤ 8
  · by_cases h2 : 1 ≤ y ∧ y ≤ 8
    · obtain ⟨a, rfl⟩ : ∃ a : Nat, x = a := ⟨x.toNat, by omega⟩
      obtain ⟨b, rfl⟩ : ∃ b : Nat, y = b := ⟨y.toNat, by omega⟩
      have := implPOk0 a b F w (by omega) (by omega) (by omega) (by omega)
      have e : plateB a b F = dotsB a b F 64 := by unfold plateB; rw [sizeB_iff.2 ⟨h1, h2⟩]; simp
      rwa [e]
    · have hS : plateB x y F = false := by unfold plateB; rw [show sizeB x y = false from by cases h : sizeB x y; rfl; exact absurd (sizeB_iff.1 h).2 h2]; rfl
      rw [hS]
      clear hS
      obtain ⟨x1, x2⟩ := h1
      by_cases hy : 1 ≤ y
      · have hy2 : 8 < y := by omega
        clear h2
        go_enter Tryd.func22, Tryd.ntmps22
        go_wp2
        go_ret
        exact ⟨rfl, (by repeat (first | (with_reducible assumption) | (with_reducible exact Below.refl _ _) | ((with_reducible refine bel_alloc _ ?_ ?_); focus (first | omega | (simp; done) | (simp; omega))) | ((with_reducible refine bel_row _ ?_ ?_); focus (first | omega | (simp; done) | (simp; omega))) | ((with_reducible refine bel_cell _ ?_ ?_); focus (first | omega | (simp; done) | (simp; omega))) | (with_reducible refine Below.drew ?_) | (with_reducible refine below_wideW _ ?_) | ((with_reducible refine bel_next (by assumption) ?_ ?_); focus (first | omega | (simp; done) | (simp; omega)))))⟩
      · have hy2 : y < 1 := by omega
        clear h2 hy
        go_enter Tryd.func22, Tryd.ntmps22
        go_wp2
        go_ret
        exact ⟨rfl, (by repeat (first | (with_reducible assumption) | (with_reducible exact Below.refl _ _) | ((with_reducible refine bel_alloc _ ?_ ?_); focus (first | omega | (simp; done) | (simp; omega))) | ((with_reducible refine bel_row _ ?_ ?_); focus (first | omega | (simp; done) | (simp; omega))) | ((with_reducible refine bel_cell _ ?_ ?_); focus (first | omega | (simp; done) | (simp; omega))) | (with_reducible refine Below.drew ?_) | (with_reducible refine below_wideW _ ?_) | ((with_reducible refine bel_next (by assumption) ?_ ?_); focus (first | omega | (simp; done) | (simp; omega)))))⟩
  · have hS : plateB x y F = false := by unfold plateB; rw [show sizeB x y = false from by cases h : sizeB x y; rfl; exact absurd (sizeB_iff.1 h).1 h1]; rfl
    rw [hS]
    clear hS
    by_cases hy : 1 ≤ x
    · have hy2 : 8 < x := by omega
      clear h1
      go_enter Tryd.func22, Tryd.ntmps22
      go_wp2
      go_ret
      exact ⟨rfl, (by repeat (first | (with_reducible assumption) | (with_reducible exact Below.refl _ _) | ((with_reducible refine bel_alloc _ ?_ ?_); focus (first | omega | (simp; done) | (simp; omega))) | ((with_reducible refine bel_row _ ?_ ?_); focus (first | omega | (simp; done) | (simp; omega))) | ((with_reducible refine bel_cell _ ?_ ?_); focus (first | omega | (simp; done) | (simp; omega))) | (with_reducible refine Below.drew ?_) | (with_reducible refine below_wideW _ ?_) | ((with_reducible refine bel_next (by assumption) ?_ ?_); focus (first | omega | (simp; done) | (simp; omega)))))⟩
    · have hy2 : x < 1 := by omega
      clear h1 hy
      go_enter Tryd.func22, Tryd.ntmps22
      go_wp2
      go_ret
      exact ⟨rfl, (by repeat (first | (with_reducible assumption) | (with_reducible exact Below.refl _ _) | ((with_reducible refine bel_alloc _ ?_ ?_); focus (first | omega | (simp; done) | (simp; omega))) | ((with_reducible refine bel_row _ ?_ ?_); focus (first | omega | (simp; done) | (simp; omega))) | ((with_reducible refine bel_cell _ ?_ ?_); focus (first | omega | (simp; done) | (simp; omega))) | (with_reducible refine Below.drew ?_) | (with_reducible refine below_wideW _ ?_) | ((with_reducible refine bel_next (by assumption) ?_ ?_); focus (first | omega | (simp; done) | (simp; omega)))))⟩
end Go.Proofs.YtihddajpkcjokaaDoor

/-! The numbers of all cells: cells. -/
set_option linter.unusedVariables false
set_option linter.unusedSimpArgs false
namespace Go.Proofs.YtihddajpkcjokaaDoor
open Go.RowKit Ieee

/-- The numbers of the first n cells, as values. -/
def cellsV (a n : Nat) : List Value := (List.range n).map (fun k => Value.int .i64 (cellAt a k))
theorem cellsV_snoc (a n : Nat) : cellsV a n ++ [.int .i64 (cellAt a n)] = cellsV a (n + 1) := by simp [cellsV, List.range_succ]
theorem cellsV_xy {a X Y : Nat} (h : X < a) : cellsV a (a * Y + X) ++ [.int .i64 ((X : Int) + 8 * (Y : Int))] = cellsV a (a * Y + (X + 1)) := by
  rw [← Nat.add_assoc, ← cellsV_snoc, cellAt_xy h]
  simp
theorem cellsV_at {a n k : Nat} (h : k < n) : (cellsV a n)[k]? = some (.int .i64 (cellAt a k)) := by simp [cellsV, h]
theorem Tryd.info_i64 : (Tryd.prog.info? 2).map (fun i => (i.zero, i.size, i.bytes)) = some (some (.int .i64 0), 1, 8) := by kernel_rfl
theorem own_shape {w : World} {base : Nat} {e : TypeId} {v : Value} {n : Nat} {xs : List Value} (h : w.ownsRow base e 1 v n xs) (hn : 0 < n) : ∃ g c, v = .slice (some ⟨g, 0, none⟩) n c ∧ base ≤ g ∧ g < w.heap.size := by
  obtain ⟨_, h2⟩ := h
  rcases h2 with ⟨_, h0⟩ | ⟨g, cap, cur, hv, hg, hh, _⟩
  · omega
  · refine ⟨g, cap, hv, hg, ?_⟩
    cases hlt : decide (g < w.heap.size)
    · simp only [decide_eq_false_iff_not] at hlt
      rw [Array.getElem?_eq_none (by omega)] at hh
      cases hh
    · simpa using hlt
theorem own_next {w0 wr w1 : World} {e : TypeId} {v : Value} {n : Nat} {xs : List Value} {o : Obj} (hown : wr.ownsRow w0.heap.size e 1 v n xs) (hb : Below w0.heap.size w0 wr) (hg : (wr.alloc o).grownBy w1 v.ownBlock) : Below w0.heap.size w0 w1 := by
  have h1 : Below w0.heap.size w0 (wr.alloc o) := hb.alloc hb.size o
  refine h1.grown hg ?_ ?_
  · have := hb.size; simp; omega
  · intro k hk
    exact (hown.lt k hk).1

set_option maxRecDepth 100000 in
set_option maxHeartbeats 1600000 in
theorem cells_any (a b : Nat) (ha1 : 1 ≤ a) (ha : a < 9) (hb1 : 1 ≤ b) (hb : b < 9) (w : World) (B : Nat) (hB : B < w.heap.size) (c0 : w.cell? ⟨B, 0, none⟩ = some (.int .i8 a)) (c1 : w.cell? ⟨B, 1, none⟩ = some (.int .i8 b)) :
    Calls Tryd.prog 55 #[.pointer (some ⟨B, 0, none⟩)] w fun e w' => ∃ g c, e = .returned (.slice (some ⟨g, 0, none⟩) (a * b : Nat) c) ∧ w'.ownsRow w.heap.size 2 1 (.slice (some ⟨g, 0, none⟩) (a * b : Nat) c) (a * b) (cellsV a (a * b)) ∧ Below w.heap.size w w' := by
  obtain ⟨i0, hi, hz0, hz1, hz2⟩ := info_parts Tryd.info_i64
  go_enter Tryd.func55, Tryd.ntmps55
  go_wp2
  go_loopw [3, 12] (fun v i wr => ∃ Y : Nat, Y ≤ b ∧ i = .int .i64 Y ∧ wr.ownsRow w.heap.size 2 1 v (a * Y) (cellsV a (a * Y)) ∧ Below w.heap.size w wr) (fun _ i _ => 9 - (intOf i).toNat)
  case atStart => exact ⟨0, by omega, rfl, World.ownsRow_made _ _ 0 (by simp) (by simp [maxLen]) (by simp), (Below.refl _ _).alloc (Nat.le_refl _) _⟩
  case round =>
    obtain ⟨Y, hY, rfl, hown, hbw⟩ := hrel
    obtain ⟨wo, rfl⟩ : ∃ wo : World, wo = wr := ⟨_, rfl⟩
    have d0 : wo.cell? ⟨B, 0, none⟩ = some (.int .i8 a) := (hbw.cell (p := ⟨B, 0, none⟩) hB).trans c0
    have HO := Lib.hid hown
    have HW := Lib.hid hbw
    clear hown hbw
    by_cases hlt : Y < b
    · go_wp2
      go_loopw [3, 20] (fun v i wr => ∃ X : Nat, X ≤ a ∧ i = .int .i64 X ∧ wr.ownsRow w.heap.size 2 1 v (a * Y + X) (cellsV a (a * Y + X)) ∧ Below w.heap.size w wr) (fun _ i _ => 9 - (intOf i).toNat)
      case atStart => exact ⟨0, by omega, rfl, HO.out, HW.out⟩
      case round =>
        obtain ⟨X, hX, rfl, hown, hbw⟩ := hrel
        by_cases hlx : X < a
        · have x0 : (0 : Int) ≤ X := by omega
          have x8 : (X : Int) < 9 := by omega
          have y0 : (0 : Int) ≤ Y := by omega
          have y8 : (Y : Int) < 9 := by omega
          have h64 : a * Y + X < 100 := by
            have : a * Y ≤ 8 * 8 := Nat.mul_le_mul (by omega) (by omega)
            omega
          have H64 := Lib.hid h64
          clear h64
          go_wp2_with (first | (at_builtin; refine wpList_append_own _ rfl _ _ 72 rfl w.heap.size 2 i0 (.int .i64 0) 1 8 Tryd.underlying72 hi hz0 hz1 hz2 rfl (by decide) _ _ _ rfl (hown.alloc _) ⟨wr.heap.size, 0, none⟩ 1 1 [.int .i64 ((X : Int) + 8 * (Y : Int))] rfl rfl ?c1 ?c2 ?c3 ?c4 ?c5 ?_) | go_in)
          case c1 =>
            intro j u hj
            match j, hj with
            | 0, hj => simp at hj; subst hj; simp [Addr.add]
          case c2 => intro u hu; simp at hu; subst hu; rfl
          case c3 => have := H64.out; unfold maxLen; omega
          case c4 => have := H64.out; omega
          case c5 => have := hbw.size; simp; omega
          intro v' w1 hown' hgrow _
          have hb1' := own_next hown hbw hgrow
          rw [cellsV_xy hlx] at hown'
          have HO' := Lib.hid hown'
          have HW' := Lib.hid hb1'
          clear hown' hgrow hown hbw hb1'
          go_wp2
          go_roundw
          case rel => exact ⟨X + 1, by omega, by go_num, HO'.out, HW'.out⟩
          case measure => simp [intOf]; omega
        · obtain rfl : X = a := by omega
          have HO' := Lib.hid hown
          have HW' := Lib.hid hbw
          clear hown hbw
          go_wp2
          go_roundw
          case rel => exact ⟨Y + 1, by omega, by go_num, by have := HO'.out; rwa [show X * (Y + 1) = X * Y + X from Nat.mul_succ _ _], HW'.out⟩
          case measure => simp [intOf]; omega
    · obtain rfl : Y = b := by omega
      have hpos : 0 < a * Y := Nat.mul_pos (by omega) (by omega)
      obtain ⟨g, c, hv, _, _⟩ := own_shape HO.out hpos
      subst hv
      have HP := Lib.hid hpos
      clear hpos
      go_wp2
      go_ret
      exact ⟨g, c, rfl, HO.out, HW.out⟩
theorem cells_n (a b n : Nat) (hn : a * b = n) (ha1 : 1 ≤ a) (ha : a < 9) (hb1 : 1 ≤ b) (hb : b < 9) (w : World) (B : Nat) (hB : B < w.heap.size) (c0 : w.cell? ⟨B, 0, none⟩ = some (.int .i8 a)) (c1 : w.cell? ⟨B, 1, none⟩ = some (.int .i8 b)) :
    Calls Tryd.prog 55 #[.pointer (some ⟨B, 0, none⟩)] w fun e w' => ∃ g c, e = .returned (.slice (some ⟨g, 0, none⟩) n c) ∧ w'.ownsRow w.heap.size 2 1 (.slice (some ⟨g, 0, none⟩) n c) n (cellsV a n) ∧ Below w.heap.size w w' := by
  subst hn
  exact cells_any a b ha1 ha hb1 hb w B hB c0 c1
end Go.Proofs.YtihddajpkcjokaaDoor
