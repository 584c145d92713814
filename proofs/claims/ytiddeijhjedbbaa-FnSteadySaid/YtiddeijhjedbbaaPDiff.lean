/- Contracts of DifferOf, the reference's and the program's, and the law on it. -/
import Derived.Test.YtiddeijhjedbbaaPDark
import Derived.Test.YtiddeijhjedbbaaPSame
import Derived.Laws.BitsAllLaws
set_option linter.unusedVariables false
set_option linter.unusedSimpArgs false
namespace Go.Proofs.Ytiddeijhjedbbaa
open Go.RowKit Ieee

/-! ### sizes of numbers -/
def absN (a : Nat) : Nat := a % 2 ^ 31
theorem sw_single : single.signWeight = 2 ^ 31 := by decide
theorem sw_double : double.signWeight = 2 ^ 63 := by decide
theorem absN_rung (a : Nat) : Flt.rung single (absN a) = Flt.rung single a := by
  unfold Flt.rung absN; rw [sw_single, Nat.mod_mod]
theorem absN_neg (a : Nat) : Flt.neg single (absN a) = false := by
  unfold Flt.neg absN; rw [sw_single]
  have : a % 2 ^ 31 / 2 ^ 31 = 0 := Nat.div_eq_of_lt (Nat.mod_lt _ (by decide))
  rw [this]; rfl
theorem absN_num {a : Nat} (h : ¬ Flt.NaN single a) : ¬ Flt.NaN single (absN a) := by unfold Flt.NaN at *; rwa [absN_rung]
theorem absN_fin {a : Nat} (h : Fin32 a) : Fin32 (absN a) := by unfold Fin32 Flt.Fin at *; rwa [absN_rung]
theorem absN_lt (a : Nat) : absN a < 2 ^ 32 := by
  have : absN a < 2 ^ 31 := Nat.mod_lt _ (by decide)
  omega
theorem absN_Z (a : Nat) : Z32 (absN a) = (Flt.U single (Flt.rung single a) : Nat) := by
  unfold Z32 Flt.Z; rw [absN_neg, absN_rung]; rfl
theorem abs_pos {a : Nat} (ha : a < 2 ^ 32) (h : Flt.neg single a = false) : absN a = a := by
  unfold Flt.neg at h; rw [sw_single] at h
  unfold absN
  have h1 : a / 2 ^ 31 < 2 := Nat.div_lt_of_lt_mul (by omega)
  have h2 : a / 2 ^ 31 ≠ 1 := fun e => by rw [e] at h; simp at h
  have h3 : a / 2 ^ 31 = 0 := by omega
  exact Nat.mod_eq_of_lt (by omega)
theorem abs_widen {a : Nat} (h : Fin32 a) : Flt.widen a % 2 ^ 63 = Flt.widen (absN a) := by
  obtain ⟨g, e, hg, hu⟩ := Flt.widen_fin h
  obtain ⟨g', e', hg', hu'⟩ := Flt.widen_fin (absN_fin h)
  rw [absN_rung] at hu'
  rw [absN_neg] at e'
  have hgg : g = g' := Nat.le_antisymm (Flt.U_mono double (by omega)) (Flt.U_mono double (by omega))
  subst hgg
  have hgs : g < double.signWeight := by have := Flt.infRung_lt' double; omega
  have h1 := Flt.rung_word double (Flt.neg single a) hgs
  have h2 := Flt.rung_word double false hgs
  have h3 := Flt.neg_word double false hgs
  rw [← e] at h1
  rw [← e'] at h2 h3
  unfold Flt.rung at h1 h2
  unfold Flt.neg at h3
  rw [sw_double] at h1 h2 h3
  have hlt : Flt.widen (absN a) < 2 ^ 64 := widen_lt _
  have h4 : Flt.widen (absN a) / 2 ^ 63 < 2 := Nat.div_lt_of_lt_mul (by omega)
  have h5 : Flt.widen (absN a) / 2 ^ 63 ≠ 1 := fun e => by rw [e] at h3; simp at h3
  omega
theorem negF_abs {a : Nat} (ha : a < 2 ^ 32) (h : Flt.neg single a = true) : Op.negFloat .f32 a = absN a := by
  unfold Flt.neg at h; rw [sw_single] at h
  have h1 : a / 2 ^ 31 < 2 := Nat.div_lt_of_lt_mul (by omega)
  have h2 : a / 2 ^ 31 ≠ 0 := fun e => by rw [e] at h; simp at h
  have h3 : a = 2 ^ 31 + a % 2 ^ 31 := by omega
  show a ^^^ 2 ^ 31 = absN a
  unfold absN
  apply Nat.eq_of_testBit_eq
  intro i
  rw [Nat.testBit_xor, Nat.testBit_two_pow, Nat.testBit_mod_two_pow]
  rcases Nat.lt_trichotomy i 31 with h | h | h
  · have : ¬ 31 = i := by omega
    simp [h, this]
  · subst h
    have : a.testBit 31 = true := by
      rw [Nat.testBit_eq_decide_div_mod_eq]
      have : a / 2 ^ 31 = 1 := by omega
      rw [this]; rfl
    simp [this]
  · have h4 : ¬ 31 = i := by omega
    have h5 : ¬ i < 31 := by omega
    have h6 : a.testBit i = false := Nat.testBit_lt_two_pow (Nat.lt_of_lt_of_le ha (Nat.pow_le_pow_right (by omega) (by omega)))
    simp [h4, h5, h6]
theorem and63 (x : Nat) : (x &&& (18446744073709551615 - 9223372036854775808)) = x % 2 ^ 63 := by
  rw [show 18446744073709551615 - 9223372036854775808 = 2 ^ 63 - 1 from by decide]
  exact Nat.and_two_pow_sub_one_eq_mod x 63
theorem abs_any (x : Nat) (w : World) (hx : x < 2 ^ 64) : Calls Try.prog 61 #[.float .f64 x] w fun e w' => e = .returned (.float .f64 (x % 2 ^ 63)) ∧ w = w' := by
  have hb : ∀ x w, (callFunc 67 #[.float .f64 x]).run Try.prog w = .ok (.value (.int .u64 x)) w := fun x w => by kernel_rfl
  have hf : ∀ (n : Nat) w, (callFunc 66 #[.int .u64 n]).run Try.prog w = .ok (.value (.float .f64 n)) w := fun n w => by kernel_rfl
  have ha : Go.bits .andNot .u64 (x : Int) 9223372036854775808 = ((x % 2 ^ 63 : Nat) : Int) := by
    have := u64_andNot_nat x 9223372036854775808 (by omega) (by omega)
    rw [and63] at this
    exact this
  obtain ⟨y, hy⟩ : ∃ y, y = x % 2 ^ 63 := ⟨_, rfl⟩
  rw [← hy] at ha ⊢
  clear hx hy
  go_enter Try.func61, Try.ntmps61
  go_wp2
  go_ret
  exact ⟨rfl, rfl⟩

theorem narrow_conv {b : Nat} (hb : b < 2 ^ 32) (hf : Fin32 b) : floatToFloatBits .f64 (Flt.widen b) .f32 = some b := by
  have h := fin_nan hf
  have hn := Flt.narrow hb h
  unfold floatToFloatBits
  rw [if_neg (by decide)]
  have hd : FloatKind.f64.decode (Flt.widen b) = double.read (Flt.widen b) := rfl
  rw [hd]
  obtain ⟨m, k, e1, _⟩ := Flt.read_fin double (Flt.widen_fin' hf)
  rw [e1] at hn ⊢
  have he : FloatKind.f32.encode (.number (Flt.neg double (Flt.widen b)) m (double.leastPlace + (k : Nat))) = b := hn
  simp only [he]
  obtain ⟨m', k', e2, _⟩ := Flt.read_fin single hf
  have : (FloatKind.f32.decode b).isInfinity = false := by
    show (single.read b).isInfinity = false
    rw [e2]; rfl
  rw [this]; rfl
theorem implSize_any {a : Nat} (hf : Fin32 a) (w : World) : Calls Try.prog 39 #[.float .f32 a] w fun e w' => e = .returned (.float .f32 (absN a)) ∧ w = w' := by
  have hc := fun w => run_wide (P := Try.prog) 25 85 a w (by kernel_rfl) (by kernel_rfl) (fin_nan hf)
  have hab := abs_widen hf
  have hcv : ∀ w, (convert 85 25 (.float .f64 (Flt.widen (absN a)))).run Try.prog w = .ok (.float .f32 (absN a)) w := by
    exact fun w => run_convert_float_float (P := Try.prog) w 85 25 .f64 .f32 (Flt.widen (absN a)) (absN a) (by kernel_rfl) (by kernel_rfl) (narrow_conv (absN_lt a) (absN_fin hf))
  have ha := abs_any (Flt.widen a)
  clear hf
  obtain ⟨X, hX⟩ : ∃ X, X = Flt.widen a := ⟨_, rfl⟩
  obtain ⟨Y, hY⟩ : ∃ Y, Y = Flt.widen (absN a) := ⟨_, rfl⟩
  have hxl : X < 2 ^ 64 := by rw [hX]; exact widen_lt a
  rw [← hX] at hc hab ha
  rw [← hY] at hab hcv
  have HAB := Lib.hid hab
  clear hX hY hab
  go_enter Try.func39, Try.ntmps39
  go_wp2_with ((go_at_call 61; (with_reducible refine (ha _ hxl).mono ?_); rintro e w' ⟨rfl, rfl⟩; rw [HAB.out]))
  go_ret
  exact ⟨rfl, rfl⟩

/-- The size of a number as the reference has it. -/
def sizeS (a : Nat) : Nat := if FloatKind.f32.format.order a 0 == some .lt then absN a else a
def maxStep (M v : Nat) : Nat := if FloatKind.f32.format.order (absN v) M == some .gt then absN v else M
theorem order_Z {a b : Nat} (ha : ¬ Flt.NaN single a) (hb : ¬ Flt.NaN single b) : FloatKind.f32.format.order a b = some (compare (Z32 a) (Z32 b)) := Flt.order_num single (by decide) ha hb
theorem neg_Z {a : Nat} (h : Z32 a < 0) : Flt.neg single a = true := by
  unfold Z32 Flt.Z Flt.sg at h
  split at h
  · assumption
  · omega
theorem pos_Z {a : Nat} (h : 0 < Z32 a) : Flt.neg single a = false := by
  unfold Z32 Flt.Z Flt.sg at h
  split at h
  · omega
  · rename_i hn; simpa using hn
theorem abs_Z_pos {a : Nat} (h : 0 ≤ Z32 a) : Z32 (absN a) = Z32 a := by
  rw [absN_Z]
  unfold Z32 Flt.Z Flt.sg at *
  split at h
  · rename_i hn; rw [if_pos hn]; omega
  · rename_i hn; rw [if_neg hn]
theorem gt_iff {a b : Nat} (ha : ¬ Flt.NaN single a) (hb : ¬ Flt.NaN single b) : (FloatKind.f32.format.order a b == some .gt) = true ↔ Z32 b < Z32 a := by
  rw [order_Z ha hb]
  simp only [beq_iff_eq, Option.some.injEq]
  exact Int.compare_eq_gt
theorem size_step {M v : Nat} (hv : ¬ Flt.NaN single v) (hl : v < 2 ^ 32) (hM : ¬ Flt.NaN single M) (h0 : 0 ≤ Z32 M) : (if FloatKind.f32.format.order (sizeS v) M == some .gt then sizeS v else M) = maxStep M v := by
  unfold sizeS maxStep
  cases hc : (FloatKind.f32.format.order v 0 == some .lt)
  · have hz : 0 ≤ Z32 v := by
      rw [order_Z hv (by decide)] at hc
      rcases Int.lt_trichotomy (Z32 v) 0 with h | h | h
      · rw [show Z32 0 = 0 from Z_zero, Int.compare_eq_lt.2 h] at hc; simp at hc
      · omega
      · omega
    simp only [Bool.false_eq_true, if_false]
    by_cases hg : Z32 M < Z32 v
    · rw [if_pos ((gt_iff hv hM).2 hg), if_pos ((gt_iff (absN_num hv) hM).2 (by rw [abs_Z_pos hz]; exact hg))]
      exact (abs_pos hl (pos_Z (by omega))).symm
    · rw [if_neg (fun h => hg ((gt_iff hv hM).1 h)), if_neg (fun h => hg (by have := (gt_iff (absN_num hv) hM).1 h; rwa [abs_Z_pos hz] at this))]
  · simp
theorem max_facts {M v : Nat} (hv : ¬ Flt.NaN single v) (hM : ¬ Flt.NaN single M) (hn : Flt.neg single M = false) : ¬ Flt.NaN single (maxStep M v) ∧ Flt.neg single (maxStep M v) = false := by
  unfold maxStep
  split
  · exact ⟨absN_num hv, absN_neg v⟩
  · exact ⟨hM, hn⟩
theorem nonneg_of {M : Nat} (hn : Flt.neg single M = false) : 0 ≤ Z32 M := by
  unfold Z32 Flt.Z Flt.sg; rw [hn]; simp
theorem run_max_step {P : Program} (ts : Array TypeId) (t : TypeId) {M v : Nat} (hv : ¬ Flt.NaN single v) (hM : ¬ Flt.NaN single M) (hn : Flt.neg single M = false) (w : World) :
    (Builtin.max_ ts t #[.float .f32 M, .float .f32 (absN v)]).run P w = .ok (.float .f32 (maxStep M v)) w := by
  have hav := absN_num hv
  have ho := order_Z hM hav
  have hd : (FloatKind.f32.decode M).neg = false := by
    show (single.read M).neg = false
    rcases Flt.not_nan single hM with h1 | h1
    · obtain ⟨m, k, e, _⟩ := Flt.read_fin single h1
      rw [e, hn]; rfl
    · rw [Flt.read_inf single (by decide) h1, hn]; rfl
  unfold maxStep
  rcases Int.lt_trichotomy (Z32 M) (Z32 (absN v)) with h | h | h
  · rw [if_pos ((gt_iff hav hM).2 h)]
    rw [Int.compare_eq_lt.2 h] at ho
    simp [Builtin.max_, Builtin.max2, ho]
  · rw [if_neg (fun e => by have := (gt_iff hav hM).1 e; omega)]
    rw [Int.compare_eq_eq.2 h] at ho
    simp [Builtin.max_, Builtin.max2, ho, hd]
  · rw [if_neg (fun e => by have := (gt_iff hav hM).1 e; omega)]
    rw [Int.compare_eq_gt.2 h] at ho
    simp [Builtin.max_, Builtin.max2, ho]
theorem fsub_lt {a b : Nat} (ha : Fin32 a) (hb : Fin32 b) : fsub a b < 2 ^ 32 := by
  unfold fsub
  rw [Flt.sub_fin single ha hb]
  simp only [Option.getD_some]
  have := Flt.G_lt single (Flt.Z single a - Flt.Z single b).natAbs 0
  have hsw := sw_single
  unfold Ieee.Format.word
  split <;> omega
theorem zero_Z {z : Nat} (h : zeroB z = true) : Fin32 z ∧ Z32 z = 0 := by
  have hn := zero_num h
  unfold zeroB at h
  rw [order_Z hn (by decide)] at h
  simp only [beq_iff_eq, Option.some.injEq] at h
  have hz : Z32 z = Z32 0 := Int.compare_eq_eq.1 h
  rw [show Z32 0 = 0 from Z_zero] at hz
  exact ⟨fin_of hn (by rw [hz]; decide) (by rw [hz]; decide), hz⟩
theorem dot_Z {z : Nat} (h : partB z = true ∨ zeroB z = true) : Fin32 z ∧ 0 ≤ Z32 z ∧ Z32 z ≤ 2 ^ 149 := by
  rcases h with h | h
  · obtain ⟨_, h1, h2⟩ := (part_iff z).1 h
    exact ⟨part_fin h, h1, h2⟩
  · obtain ⟨h1, h2⟩ := zero_Z h
    exact ⟨h1, by omega, by rw [h2]; decide⟩
theorem fsub_fin {a b : Nat} (ha : partB a = true ∨ zeroB a = true) (hb : partB b = true ∨ zeroB b = true) : Fin32 (fsub a b) := by
  obtain ⟨a1, a2, a3⟩ := dot_Z ha
  obtain ⟨b1, b2, b3⟩ := dot_Z hb
  have h1 := fsub_le a1 b1 (c := 1065353216) (by decide) (by rw [Z_one]; omega)
  have h2 := fsub_ge a1 b1 (c := 3212836864) (by decide) (by rw [show Z32 3212836864 = -2 ^ 149 from by decide +kernel]; omega)
  rw [Z_one] at h1
  rw [show Z32 3212836864 = -2 ^ 149 from by decide +kernel] at h2
  exact fin_of (num_fsub a1 b1) (by omega) (by omega)
theorem plate_dots {x y : Int} {F : Nat → Nat} (h : plateB x y F = true) : ∀ i, i < 64 → partB (F i) = true ∨ zeroB (F i) = true := by
  obtain ⟨a, b, _, _, _, _, _, _, h1, h2⟩ := plateB_size h
  intro i hi
  cases hc : isC a b i
  · exact Or.inr (h2 i hi hc)
  · exact Or.inl (h1 i hi hc)
theorem specSize_q {v : Nat} (hv : ¬ Flt.NaN single v) (hl : v < 2 ^ 32) (w : World) (n : Nat) : Calls Try.prog 43 #[.float .f32 v] (w.drewN n) fun e w' => e = .returned (.float .f32 (sizeS v)) ∧ ∃ m, w' = w.drewN m := by
  refine quiet_same ?_
  unfold sizeS
  cases hc : (FloatKind.f32.format.order v 0 == some .lt)
  · go_enter Try.func43, Try.ntmps43
    go_wp2
    go_ret
    exact ⟨rfl, rfl⟩
  · have hz : Z32 v < 0 := by
      rw [order_Z hv (by decide)] at hc
      simp only [beq_iff_eq, Option.some.injEq] at hc
      have := Int.compare_eq_lt.1 hc
      rwa [show Z32 0 = 0 from Z_zero] at this
    have hneg := negF_abs hl (neg_Z hz)
    have hru : ∀ w, (Op.unary .neg (.float .f32 v)).run Try.prog w = .ok (.float .f32 (absN v)) w := fun w => by rw [← hneg]; rfl
    clear hz hneg hv hl
    go_enter Try.func43, Try.ntmps43
    go_wp2
    go_ret
    exact ⟨rfl, rfl⟩
theorem implSize_q {v : Nat} (hv : Fin32 v) (w : World) (n : Nat) : Calls Try.prog 39 #[.float .f32 v] (w.drewN n) fun e w' => e = .returned (.float .f32 (absN v)) ∧ ∃ m, w' = w.drewN m :=
  quiet_same (implSize_any hv _)
/-- The greatest difference of the first k cells. -/
def diffK (F F' : Nat → Nat) (a : Nat) : Nat → Nat
  | 0 => 0
  | k + 1 => maxStep (diffK F F' a k) (fsub (F (cellAt a k)) (F' (cellAt a k)))

theorem diffK_num {a b : Nat} {F F' : Nat → Nat} (ha : a < 9) (hb : b < 9) (h : ∀ i, i < 64 → partB (F i) = true ∨ zeroB (F i) = true) (h' : ∀ i, i < 64 → partB (F' i) = true ∨ zeroB (F' i) = true) : ∀ k, k ≤ a * b → ¬ Flt.NaN single (diffK F F' a k) ∧ Flt.neg single (diffK F F' a k) = false
  | 0, _ => ⟨(by decide : ¬ Flt.NaN single 0), (by decide : Flt.neg single 0 = false)⟩
  | k + 1, hk => by
    have h64 := (cells_all a ha b hb).2
    have c1 := (cells_of a ha b hb k (by omega) (by omega)).1
    obtain ⟨m1, m2⟩ := diffK_num ha hb h h' k (by omega)
    exact max_facts (fin_nan (fsub_fin (h _ c1) (h' _ c1))) m1 m2
/-- The code of two plates. -/
def pairC (x y : Int) (F : Nat → Nat) (x' y' : Int) (F' : Nat → Nat) : Int := if plateB x y F && plateB x' y' F' then (if (x == x') && (y == y') then 0 else 4) else 1
def okP (x y : Int) (F : Nat → Nat) (x' y' : Int) (F' : Nat → Nat) : Bool := (plateB x y F && plateB x' y' F') && ((x == x') && (y == y'))
theorem pairC_ok {x y : Int} {F : Nat → Nat} {x' y' : Int} {F' : Nat → Nat} : okP x y F x' y' F' = true ↔ pairC x y F x' y' F' = 0 := by
  unfold okP pairC
  cases plateB x y F && plateB x' y' F' <;> cases (x == x') && (y == y') <;> simp

theorem okP_facts {x y : Int} {F : Nat → Nat} {x' y' : Int} {F' : Nat → Nat} (h : okP x y F x' y' F' = true) : plateB x y F = true ∧ plateB x' y' F' = true ∧ x = x' ∧ y = y' := by
  unfold okP at h
  simp only [Bool.and_eq_true, beq_iff_eq] at h
  exact ⟨h.1.1, h.1.2, h.2.1, h.2.2⟩
theorem okP_no {x y : Int} {F : Nat → Nat} {x' y' : Int} {F' : Nat → Nat} (h : okP x y F x' y' F' = false) : ¬ pairC x y F x' y' F' = 0 := fun e => by
  rw [pairC_ok.2 e] at h; cases h
def diffR (x y : Int) (F : Nat → Nat) (x' y' : Int) (F' : Nat → Nat) : Nat := if okP x y F x' y' F' then diffK F F' x.toNat (x.toNat * y.toNat) else 0
theorem diffR_num (x y : Int) (F : Nat → Nat) (x' y' : Int) (F' : Nat → Nat) : ¬ Flt.NaN single (diffR x y F x' y' F') := by
  unfold diffR
  split
  · rename_i h
    obtain ⟨h1, h2, rfl, rfl⟩ := okP_facts h
    have d1 := plate_dots h1
    have d2 := plate_dots h2
    obtain ⟨a, b, rfl, rfl, la, ha, lb, hb, _, _⟩ := plateB_size h1
    exact (diffK_num ha hb d1 d2 _ (Nat.le_refl _)).1
  · decide

end Go.Proofs.Ytiddeijhjedbbaa
