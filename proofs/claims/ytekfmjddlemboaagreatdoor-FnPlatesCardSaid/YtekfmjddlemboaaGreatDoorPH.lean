/- Contracts of DifferOf, the reference's and the program's, and the law on it. -/
import Derived.Test.YtekfmjddlemboaaGreatDoorPF
import Derived.Test.YtekfmjddlemboaaGreatDoorPC
import Derived.Laws.BitsAllLaws

/-! Contracts of DifferOf, the reference's and the program's, and the law on it. -/
set_option linter.unusedVariables false
set_option linter.unusedSimpArgs false
namespace Go.Proofs.YtekfmjddlemboaaGreatDoor
open Go.RowKit Ieee

/-! ### sizes of numbers -/
def absN (a : Nat) : Nat := a % 2 ^ 31
theorem sw_single : single.signWeight = 2 ^ 31 := by decide
theorem sw_double : double.signWeight = 2 ^ 63 := by decide
theorem absN_rung (a : Nat) : Flt.rung single (absN a) = Flt.rung single a := by
  unfold Flt.rung absN; rw [sw_single, Nat.mod_mod]
theorem absN_neg (a : Nat) : Flt.neg single (absN a) = false := by
  unfold Flt.neg absN; rw [sw_single]
  have : a % 2 ^ 31 / 2 ^ 31 = 0 := Nat.div_eq_of_lt (Nat.mod_lt _ (by decide))
  rw [this]; rfl
theorem absN_num {a : Nat} (h : ¬ Flt.NaN single a) : ¬ Flt.NaN single (absN a) := by unfold Flt.NaN at *; rwa [absN_rung]
theorem absN_fin {a : Nat} (h : Fin32 a) : Fin32 (absN a) := by unfold Fin32 Flt.Fin at *; rwa [absN_rung]
theorem absN_lt (a : Nat) : absN a < 2 ^ 32 := by
  have : absN a < 2 ^ 31 := Nat.mod_lt _ (by decide)
  omega
theorem absN_Z (a : Nat) : Z32 (absN a) = (Flt.U single (Flt.rung single a) : Nat) := by
  unfold Z32 Flt.Z; rw [absN_neg, absN_rung]; rfl
theorem abs_pos {a : Nat} (ha : a < 2 ^ 32) (h : Flt.neg single a = false) : absN a = a := by
  unfold Flt.neg at h; rw [sw_single] at h
  unfold absN
  have h1 : a / 2 ^ 31 < 2 := Nat.div_lt_of_lt_mul (by omega)
  have h2 : a / 2 ^ 31 ≠ 1 := fun e => by rw [e] at h; simp at h
  have h3 : a / 2 ^ 31 = 0 := by omega
  exact Nat.mod_eq_of_lt (by omega)
theorem abs_widen {a : Nat} (h : Fin32 a) : Flt.widen a % 2 ^ 63 = Flt.widen (absN a) := by
  obtain ⟨g, e, hg, hu⟩ := Flt.widen_fin h
  obtain ⟨g', e', hg', hu'⟩ := Flt.widen_fin (absN_fin h)
  rw [absN_rung] at hu'
  rw [absN_neg] at e'
  have hgg : g = g' := Nat.le_antisymm (Flt.U_mono double (by omega)) (Flt.U_mono double (by omega))
  subst hgg
  have hgs : g < double.signWeight := by have := Flt.infRung_lt' double; omega
  have h1 := Flt.rung_word double (Flt.neg single a) hgs
  have h2 := Flt.rung_word double false hgs
  have h3 := Flt.neg_word double false hgs
  rw [← e] at h1
  rw [← e'] at h2 h3
  unfold Flt.rung at h1 h2
  unfold Flt.neg at h3
  rw [sw_double] at h1 h2 h3
  have hlt : Flt.widen (absN a) < 2 ^ 64 := widen_lt _
  have h4 : Flt.widen (absN a) / 2 ^ 63 < 2 := Nat.div_lt_of_lt_mul (by omega)
  have h5 : Flt.widen (absN a) / 2 ^ 63 ≠ 1 := fun e => by rw [e] at h3; simp at h3
  omega
theorem negF_abs {a : Nat} (ha : a < 2 ^ 32) (h : Flt.neg single a = true) : Op.negFloat .f32 a = absN a := by
  unfold Flt.neg at h; rw [sw_single] at h
  have h1 : a / 2 ^ 31 < 2 := Nat.div_lt_of_lt_mul (by omega)
  have h2 : a / 2 ^ 31 ≠ 0 := fun e => by rw [e] at h; simp at h
  have h3 : a = 2 ^ 31 + a % 2 ^ 31 := by omega
  show a ^^^ 2 ^ 31 = absN a
  unfold absN
  apply Nat.eq_of_testBit_eq
  intro i
  rw [Nat.testBit_xor, Nat.testBit_two_pow, Nat.testBit_mod_two_pow]
  rcases Nat.lt_trichotomy i 31 with h | h | h
  · have : ¬ 31 = i := by omega
    simp [h, this]
  · subst h
    have : a.testBit 31 = true := by
      rw [Nat.testBit_eq_decide_div_mod_eq]
      have : a / 2 ^ 31 = 1 := by omega
      rw [this]; rfl
    simp [this]
  · have h4 : ¬ 31 = i := by omega
    have h5 : ¬ i < 31 := by omega
    have h6 : a.testBit i = false := Nat.testBit_lt_two_pow (Nat.lt_of_lt_of_le ha (Nat.pow_le_pow_right (by omega) (by omega)))
    simp [h4, h5, h6]
theorem and63 (x : Nat) : (x &&& (18446744073709551615 - 9223372036854775808)) = x % 2 ^ 63 := by
  rw [show 18446744073709551615 - 9223372036854775808 = 2 ^ 63 - 1 from by decide]
  exact Nat.and_two_pow_sub_one_eq_mod x 63
theorem abs_any (x : Nat) (w : World) (hx : x < 2 ^ 64) : Calls Tryz.prog 83 #[.float .f64 x] w fun e w' => e = .returned (.float .f64 (x % 2 ^ 63)) ∧ w = w' := by
  have hb : ∀ x w, (callFunc 99 #[.float .f64 x]).run Tryz.prog w = .ok (.value (.int .u64 x)) w := fun x w => by kernel_rfl
  have hf : ∀ (n : Nat) w, (callFunc 100 #[.int .u64 n]).run Tryz.prog w = .ok (.value (.float .f64 n)) w := fun n w => by kernel_rfl
  have ha : Go.bits .andNot .u64 (x : Int) 9223372036854775808 = ((x % 2 ^ 63 : Nat) : Int) := by
    have := u64_andNot_nat x 9223372036854775808 (by omega) (by omega)
    rw [and63] at this
    exact this
  obtain ⟨y, hy⟩ : ∃ y, y = x % 2 ^ 63 := ⟨_, rfl⟩
  rw [← hy] at ha ⊢
  clear hx hy
  go_enter Tryz.func83, Tryz.ntmps83
  go_wp2
  go_ret
  exact ⟨rfl, rfl⟩

theorem narrow_conv {b : Nat} (hb : b < 2 ^ 32) (hf : Fin32 b) : floatToFloatBits .f64 (Flt.widen b) .f32 = some b := by
  have h := fin_nan hf
  have hn := Flt.narrow hb h
  unfold floatToFloatBits
  rw [if_neg (by decide)]
  have hd : FloatKind.f64.decode (Flt.widen b) = double.read (Flt.widen b) := rfl
  rw [hd]
  obtain ⟨m, k, e1, _⟩ := Flt.read_fin double (Flt.widen_fin' hf)
  rw [e1] at hn ⊢
  have he : FloatKind.f32.encode (.number (Flt.neg double (Flt.widen b)) m (double.leastPlace + (k : Nat))) = b := hn
  simp only [he]
  obtain ⟨m', k', e2, _⟩ := Flt.read_fin single hf
  have : (FloatKind.f32.decode b).isInfinity = false := by
    show (single.read b).isInfinity = false
    rw [e2]; rfl
  rw [this]; rfl
theorem implSize_any {a : Nat} (hf : Fin32 a) (w : World) : Calls Tryz.prog 63 #[.float .f32 a] w fun e w' => e = .returned (.float .f32 (absN a)) ∧ w = w' := by
  have hc := fun w => run_wide (P := Tryz.prog) 25 105 a w (by kernel_rfl) (by kernel_rfl) (fin_nan hf)
  have hab := abs_widen hf
  have hcv : ∀ w, (convert 105 25 (.float .f64 (Flt.widen (absN a)))).run Tryz.prog w = .ok (.float .f32 (absN a)) w := by
    exact fun w => run_convert_float_float (P := Tryz.prog) w 105 25 .f64 .f32 (Flt.widen (absN a)) (absN a) (by kernel_rfl) (by kernel_rfl) (narrow_conv (absN_lt a) (absN_fin hf))
  have ha := abs_any (Flt.widen a)
  clear hf
  obtain ⟨X, hX⟩ : ∃ X, X = Flt.widen a := ⟨_, rfl⟩
  obtain ⟨Y, hY⟩ : ∃ Y, Y = Flt.widen (absN a) := ⟨_, rfl⟩
  have hxl : X < 2 ^ 64 := by rw [hX]; exact widen_lt a
  rw [← hX] at hc hab ha
  rw [← hY] at hab hcv
  have HAB := Lib.hid hab
  clear hX hY hab
  go_enter Tryz.func63, Tryz.ntmps63
  go_wp2_with ((go_at_call 83; (with_reducible refine (ha _ hxl).mono ?_); rintro e w' ⟨rfl, rfl⟩; rw [HAB.out]))
  go_ret
  exact ⟨rfl, rfl⟩

/-- The size of a number as the reference has it. -/
def sizeS (a : Nat) : Nat := if FloatKind.f32.format.order a 0 == some .lt then absN a else a
def maxStep (M v : Nat) : Nat := if FloatKind.f32.format.order (absN v) M == some .gt then absN v else M
theorem order_Z {a b : Nat} (ha : ¬ Flt.NaN single a) (hb : ¬ Flt.NaN single b) : FloatKind.f32.format.order a b = some (compare (Z32 a) (Z32 b)) := Flt.order_num single (by decide) ha hb
theorem neg_Z {a : Nat} (h : Z32 a < 0) : Flt.neg single a = true := by
  unfold Z32 Flt.Z Flt.sg at h
  split at h
  · assumption
  · omega
theorem pos_Z {a : Nat} (h : 0 < Z32 a) : Flt.neg single a = false := by
  unfold Z32 Flt.Z Flt.sg at h
  split at h
  · omega
  · rename_i hn; simpa using hn
theorem abs_Z_pos {a : Nat} (h : 0 ≤ Z32 a) : Z32 (absN a) = Z32 a := by
  rw [absN_Z]
  unfold Z32 Flt.Z Flt.sg at *
  split at h
  · rename_i hn; rw [if_pos hn]; omega
  · rename_i hn; rw [if_neg hn]
theorem gt_iff {a b : Nat} (ha : ¬ Flt.NaN single a) (hb : ¬ Flt.NaN single b) : (FloatKind.f32.format.order a b == some .gt) = true ↔ Z32 b < Z32 a := by
  rw [order_Z ha hb]
  simp only [beq_iff_eq, Option.some.injEq]
  exact Int.compare_eq_gt
theorem size_step {M v : Nat} (hv : ¬ Flt.NaN single v) (hl : v < 2 ^ 32) (hM : ¬ Flt.NaN single M) (h0 : 0 ≤ Z32 M) : (if FloatKind.f32.format.order (sizeS v) M == some .gt then sizeS v else M) = maxStep M v := by
  unfold sizeS maxStep
  cases hc : (FloatKind.f32.format.order v 0 == some .lt)
  · have hz : 0 ≤ Z32 v := by
      rw [order_Z hv (by decide)] at hc
      rcases Int.lt_trichotomy (Z32 v) 0 with h | h | h
      · rw [show Z32 0 = 0 from Z_zero, Int.compare_eq_lt.2 h] at hc; simp at hc
      · omega
      · omega
    simp only [Bool.false_eq_true, if_false]
    by_cases hg : Z32 M < Z32 v
    · rw [if_pos ((gt_iff hv hM).2 hg), if_pos ((gt_iff (absN_num hv) hM).2 (by rw [abs_Z_pos hz]; exact hg))]
      exact (abs_pos hl (pos_Z (by omega))).symm
    · rw [if_neg (fun h => hg ((gt_iff hv hM).1 h)), if_neg (fun h => hg (by have := (gt_iff (absN_num hv) hM).1 h; rwa [abs_Z_pos hz] at this))]
  · simp
theorem max_facts {M v : Nat} (hv : ¬ Flt.NaN single v) (hM : ¬ Flt.NaN single M) (hn : Flt.neg single M = false) : ¬ Flt.NaN single (maxStep M v) ∧ Flt.neg single (maxStep M v) = false := by
  unfold maxStep
  split
  · exact ⟨absN_num hv, absN_neg v⟩
  · exact ⟨hM, hn⟩
theorem nonneg_of {M : Nat} (hn : Flt.neg single M = false) : 0 ≤ Z32 M := by
  unfold Z32 Flt.Z Flt.sg; rw [hn]; simp
theorem run_max_step {P : Program} (ts : Array TypeId) (t : TypeId) {M v : Nat} (hv : ¬ Flt.NaN single v) (hM : ¬ Flt.NaN single M) (hn : Flt.neg single M = false) (w : World) :
    (Builtin.max_ ts t #[.float .f32 M, .float .f32 (absN v)]).run P w = .ok (.float .f32 (maxStep M v)) w := by
  have hav := absN_num hv
  have ho := order_Z hM hav
  have hd : (FloatKind.f32.decode M).neg = false := by
    show (single.read M).neg = false
    rcases Flt.not_nan single hM with h1 | h1
    · obtain ⟨m, k, e, _⟩ := Flt.read_fin single h1
      rw [e, hn]; rfl
    · rw [Flt.read_inf single (by decide) h1, hn]; rfl
  unfold maxStep
  rcases Int.lt_trichotomy (Z32 M) (Z32 (absN v)) with h | h | h
  · rw [if_pos ((gt_iff hav hM).2 h)]
    rw [Int.compare_eq_lt.2 h] at ho
    simp [Builtin.max_, Builtin.max2, ho]
  · rw [if_neg (fun e => by have := (gt_iff hav hM).1 e; omega)]
    rw [Int.compare_eq_eq.2 h] at ho
    simp [Builtin.max_, Builtin.max2, ho, hd]
  · rw [if_neg (fun e => by have := (gt_iff hav hM).1 e; omega)]
    rw [Int.compare_eq_gt.2 h] at ho
    simp [Builtin.max_, Builtin.max2, ho]
theorem fsub_lt {a b : Nat} (ha : Fin32 a) (hb : Fin32 b) : fsub a b < 2 ^ 32 := by
  unfold fsub
  rw [Flt.sub_fin single ha hb]
  simp only [Option.getD_some]
  have := Flt.G_lt single (Flt.Z single a - Flt.Z single b).natAbs 0
  have hsw := sw_single
  unfold Ieee.Format.word
  split <;> omega
theorem zero_Z {z : Nat} (h : zeroB z = true) : Fin32 z ∧ Z32 z = 0 := by
  have hn := zero_num h
  unfold zeroB at h
  rw [order_Z hn (by decide)] at h
  simp only [beq_iff_eq, Option.some.injEq] at h
  have hz : Z32 z = Z32 0 := Int.compare_eq_eq.1 h
  rw [show Z32 0 = 0 from Z_zero] at hz
  exact ⟨fin_of hn (by rw [hz]; decide) (by rw [hz]; decide), hz⟩
theorem dot_Z {z : Nat} (h : partB z = true ∨ zeroB z = true) : Fin32 z ∧ 0 ≤ Z32 z ∧ Z32 z ≤ 2 ^ 149 := by
  rcases h with h | h
  · obtain ⟨_, h1, h2⟩ := (part_iff z).1 h
    exact ⟨part_fin h, h1, h2⟩
  · obtain ⟨h1, h2⟩ := zero_Z h
    exact ⟨h1, by omega, by rw [h2]; decide⟩
theorem fsub_fin {a b : Nat} (ha : partB a = true ∨ zeroB a = true) (hb : partB b = true ∨ zeroB b = true) : Fin32 (fsub a b) := by
  obtain ⟨a1, a2, a3⟩ := dot_Z ha
  obtain ⟨b1, b2, b3⟩ := dot_Z hb
  have h1 := fsub_le a1 b1 (c := 1065353216) (by decide) (by rw [Z_one]; omega)
  have h2 := fsub_ge a1 b1 (c := 3212836864) (by decide) (by rw [show Z32 3212836864 = -2 ^ 149 from by decide +kernel]; omega)
  rw [Z_one] at h1
  rw [show Z32 3212836864 = -2 ^ 149 from by decide +kernel] at h2
  exact fin_of (num_fsub a1 b1) (by omega) (by omega)
theorem plate_dots {x y : Int} {F : Nat → Nat} (h : plateB x y F = true) : ∀ i, i < 64 → partB (F i) = true ∨ zeroB (F i) = true := by
  obtain ⟨a, b, _, _, _, _, _, _, h1, h2⟩ := plateB_size h
  intro i hi
  cases hc : isC a b i
  · exact Or.inr (h2 i hi hc)
  · exact Or.inl (h1 i hi hc)
theorem specSize_q {v : Nat} (hv : ¬ Flt.NaN single v) (hl : v < 2 ^ 32) (w : World) (n : Nat) : Calls Tryz.prog 64 #[.float .f32 v] (w.drewN n) fun e w' => e = .returned (.float .f32 (sizeS v)) ∧ ∃ m, w' = w.drewN m := by
  refine quiet_same ?_
  unfold sizeS
  cases hc : (FloatKind.f32.format.order v 0 == some .lt)
  · go_enter Tryz.func64, Tryz.ntmps64
    go_wp2
    go_ret
    exact ⟨rfl, rfl⟩
  · have hz : Z32 v < 0 := by
      rw [order_Z hv (by decide)] at hc
      simp only [beq_iff_eq, Option.some.injEq] at hc
      have := Int.compare_eq_lt.1 hc
      rwa [show Z32 0 = 0 from Z_zero] at this
    have hneg := negF_abs hl (neg_Z hz)
    have hru : ∀ w, (Op.unary .neg (.float .f32 v)).run Tryz.prog w = .ok (.float .f32 (absN v)) w := fun w => by rw [← hneg]; rfl
    clear hz hneg hv hl
    go_enter Tryz.func64, Tryz.ntmps64
    go_wp2
    go_ret
    exact ⟨rfl, rfl⟩
theorem implSize_q {v : Nat} (hv : Fin32 v) (w : World) (n : Nat) : Calls Tryz.prog 63 #[.float .f32 v] (w.drewN n) fun e w' => e = .returned (.float .f32 (absN v)) ∧ ∃ m, w' = w.drewN m :=
  quiet_same (implSize_any hv _)
/-- The greatest difference of the first k cells. -/
def diffK (F F' : Nat → Nat) (a : Nat) : Nat → Nat
  | 0 => 0
  | k + 1 => maxStep (diffK F F' a k) (fsub (F (cellAt a k)) (F' (cellAt a k)))

theorem diffK_num {a b : Nat} {F F' : Nat → Nat} (ha : a < 9) (hb : b < 9) (h : ∀ i, i < 64 → partB (F i) = true ∨ zeroB (F i) = true) (h' : ∀ i, i < 64 → partB (F' i) = true ∨ zeroB (F' i) = true) : ∀ k, k ≤ a * b → ¬ Flt.NaN single (diffK F F' a k) ∧ Flt.neg single (diffK F F' a k) = false
  | 0, _ => ⟨(by decide : ¬ Flt.NaN single 0), (by decide : Flt.neg single 0 = false)⟩
  | k + 1, hk => by
    have h64 := (cells_all a ha b hb).2
    have c1 := (cells_of a ha b hb k (by omega) (by omega)).1
    obtain ⟨m1, m2⟩ := diffK_num ha hb h h' k (by omega)
    exact max_facts (fin_nan (fsub_fin (h _ c1) (h' _ c1))) m1 m2
/-- The code of two plates. -/
def pairC (x y : Int) (F : Nat → Nat) (x' y' : Int) (F' : Nat → Nat) : Int := if plateB x y F && plateB x' y' F' then (if (x == x') && (y == y') then 0 else 4) else 1
def okP (x y : Int) (F : Nat → Nat) (x' y' : Int) (F' : Nat → Nat) : Bool := (plateB x y F && plateB x' y' F') && ((x == x') && (y == y'))
theorem pairC_ok {x y : Int} {F : Nat → Nat} {x' y' : Int} {F' : Nat → Nat} : okP x y F x' y' F' = true ↔ pairC x y F x' y' F' = 0 := by
  unfold okP pairC
  cases plateB x y F && plateB x' y' F' <;> cases (x == x') && (y == y') <;> simp

set_option maxHeartbeats 1600000 in
theorem specBoth_any (x y : Int) (F : Nat → Nat) (x' y' : Int) (F' : Nat → Nat) (w : World) (lx : -128 ≤ x) (ux : x ≤ 127) (ly : -128 ≤ y) (uy : y ≤ 127) (lx' : -128 ≤ x') (ux' : x' ≤ 127) (ly' : -128 ≤ y') (uy' : y' ≤ 127) (B B' : Nat) (hB : w.heap[B]? = some (.cells (plate x y F) 29 (0, 0))) (hB' : w.heap[B']? = some (.cells (plate x' y' F') 29 (0, 0))) : Calls Tryz.prog 59 #[.pointer (some ⟨B, 0, none⟩), .pointer (some ⟨B', 0, none⟩)] w fun e w' => e = .returned (.int .i64 (pairC x y F x' y' F')) ∧ ∃ m, w' = w.drewN m := by
  unfold pairC
  have p0 : w.cell? ⟨B, 0, none⟩ = some (.int .i8 x) := (cell_of_row w _ 0 _ _ _ hB).trans (row_g0 _ _ _ _)
  have p1 : w.cell? ⟨B, 1, none⟩ = some (.int .i8 y) := (cell_of_row w _ 1 _ _ _ hB).trans (row_g1 _ _ _ _ _)
  have q0 : w.cell? ⟨B', 0, none⟩ = some (.int .i8 x') := (cell_of_row w _ 0 _ _ _ hB').trans (row_g0 _ _ _ _)
  have q1 : w.cell? ⟨B', 1, none⟩ = some (.int .i8 y') := (cell_of_row w _ 1 _ _ _ hB').trans (row_g1 _ _ _ _ _)
  cases ho : plateB x y F
  · skip
    go_enter Tryz.func59, Tryz.ntmps59
    go_wp2_with (first | (go_at_call 45; (with_reducible refine (specPOk_any x y F _ lx ux ly uy _ (by assumption)).mono ?_); rintro e w' ⟨rfl, rfl⟩) | (go_at_call 45; (with_reducible refine (specPOk_any x' y' F' _ lx' ux' ly' uy' _ (by assumption)).mono ?_); rintro e w' ⟨rfl, rfl⟩) | go_in)
    try (go_quiet (fail); go_wp2)
    go_ret
    exact ⟨rfl, by first | exact ⟨0, rfl⟩ | exact ⟨_, rfl⟩⟩
  · cases ho' : plateB x' y' F'
    · skip
      go_enter Tryz.func59, Tryz.ntmps59
      go_wp2_with (first | (go_at_call 45; (with_reducible refine (specPOk_any x y F _ lx ux ly uy _ (by assumption)).mono ?_); rintro e w' ⟨rfl, rfl⟩) | (go_at_call 45; (with_reducible refine (specPOk_any x' y' F' _ lx' ux' ly' uy' _ (by assumption)).mono ?_); rintro e w' ⟨rfl, rfl⟩) | go_in)
      try (go_quiet (fail); go_wp2)
      go_ret
      exact ⟨rfl, by first | exact ⟨0, rfl⟩ | exact ⟨_, rfl⟩⟩
    · by_cases hx : x = x'
      · by_cases hy : y = y'
        · have ex : (x == x') = true := by simp [hx]
          have ey : (y == y') = true := by simp [hy]
          have nx : (x != x') = false := by simp [hx]
          have ny : (y != y') = false := by simp [hy]
          rw [ex, ey]
          clear hx hy
          go_enter Tryz.func59, Tryz.ntmps59
          go_wp2_with (first | (go_at_call 45; (with_reducible refine (specPOk_any x y F _ lx ux ly uy _ (by assumption)).mono ?_); rintro e w' ⟨rfl, rfl⟩) | (go_at_call 45; (with_reducible refine (specPOk_any x' y' F' _ lx' ux' ly' uy' _ (by assumption)).mono ?_); rintro e w' ⟨rfl, rfl⟩) | go_in)
          try (go_quiet (fail); go_wp2)
          go_ret
          exact ⟨rfl, by first | exact ⟨0, rfl⟩ | exact ⟨_, rfl⟩⟩
        · have ex : (x == x') = true := by simp [hx]
          have ey : (y == y') = false := by simp [hy]
          have nx : (x != x') = false := by simp [hx]
          have ny : (y != y') = true := by simp [hy]
          rw [ex, ey]
          clear hx hy
          go_enter Tryz.func59, Tryz.ntmps59
          go_wp2_with (first | (go_at_call 45; (with_reducible refine (specPOk_any x y F _ lx ux ly uy _ (by assumption)).mono ?_); rintro e w' ⟨rfl, rfl⟩) | (go_at_call 45; (with_reducible refine (specPOk_any x' y' F' _ lx' ux' ly' uy' _ (by assumption)).mono ?_); rintro e w' ⟨rfl, rfl⟩) | go_in)
          try (go_quiet (fail); go_wp2)
          go_ret
          exact ⟨rfl, by first | exact ⟨0, rfl⟩ | exact ⟨_, rfl⟩⟩
      · have ex : (x == x') = false := by simp [hx]
        have nx : (x != x') = true := by simp [hx]
        rw [ex]
        clear hx
        go_enter Tryz.func59, Tryz.ntmps59
        go_wp2_with (first | (go_at_call 45; (with_reducible refine (specPOk_any x y F _ lx ux ly uy _ (by assumption)).mono ?_); rintro e w' ⟨rfl, rfl⟩) | (go_at_call 45; (with_reducible refine (specPOk_any x' y' F' _ lx' ux' ly' uy' _ (by assumption)).mono ?_); rintro e w' ⟨rfl, rfl⟩) | go_in)
        try (go_quiet (fail); go_wp2)
        go_ret
        exact ⟨rfl, by first | exact ⟨0, rfl⟩ | exact ⟨_, rfl⟩⟩

set_option maxHeartbeats 1600000 in
theorem implPair_any (x y : Int) (F : Nat → Nat) (x' y' : Int) (F' : Nat → Nat) (w : World) (lx : -128 ≤ x) (ux : x ≤ 127) (ly : -128 ≤ y) (uy : y ≤ 127) (lx' : -128 ≤ x') (ux' : x' ≤ 127) (ly' : -128 ≤ y') (uy' : y' ≤ 127)  : Calls Tryz.prog 56 #[.agg (plate x y F), .agg (plate x' y' F')] w fun e w' => e = .returned (.int .i64 (pairC x y F x' y' F')) ∧ Below w.heap.size w w' := by
  unfold pairC
  cases ho : plateB x y F
  · skip
    go_enter Tryz.func56, Tryz.ntmps56
    go_wp2_with (first | ((with_reducible refine at_load 29 ?_); refine wpList_load_part rfl 29 _ rfl _ 0 66 rfl _ _ _ _ (by repeat (first | (with_reducible assumption) | ((with_reducible refine blk_new _ _ _ ?_); focus (simp; done)) | ((with_reducible refine blk_old _ _ _ ?_ ?_); focus (simp; done)) | ((with_reducible refine blk_old _ _ _ ?_ ?_); focus (first | omega | (simp; omega))) | ((with_reducible apply blk_set); focus (simp; done)) | ((with_reducible refine blk_off _ _ _ _ ?_ ?_); focus (simp; done)) | ((with_reducible refine blk_offc _ _ _ _ ?_ ?_); focus (first | (simp; done) | omega | (simp; omega))) | ((with_reducible refine blk_off _ _ _ _ ?_ ?_); focus (first | omega | (simp; omega))) | (with_reducible refine blk_drew _ _ ?_) | ((with_reducible refine blk_below (by assumption) ?_ ?_); focus (simp; done)) | ((with_reducible refine blk_below (by assumption) ?_ ?_); focus (first | omega | (simp; omega))))) Tryz.underlying29 rfl (by kernel_rfl) (by simp [row_size]) _ (row_all [_, _] 64 _) ?_) | ((with_reducible refine at_load 29 ?_); refine wpList_load_partg (by rfl) 29 _ rfl _ 0 66 rfl _ _ _ _ (by repeat (first | (with_reducible assumption) | ((with_reducible refine blk_new _ _ _ ?_); focus (simp; done)) | ((with_reducible refine blk_old _ _ _ ?_ ?_); focus (simp; done)) | ((with_reducible refine blk_old _ _ _ ?_ ?_); focus (first | omega | (simp; omega))) | ((with_reducible apply blk_set); focus (simp; done)) | ((with_reducible refine blk_off _ _ _ _ ?_ ?_); focus (simp; done)) | ((with_reducible refine blk_offc _ _ _ _ ?_ ?_); focus (first | (simp; done) | omega | (simp; omega))) | ((with_reducible refine blk_off _ _ _ _ ?_ ?_); focus (first | omega | (simp; omega))) | (with_reducible refine blk_drew _ _ ?_) | ((with_reducible refine blk_below (by assumption) ?_ ?_); focus (simp; done)) | ((with_reducible refine blk_below (by assumption) ?_ ?_); focus (first | omega | (simp; omega))))) Tryz.underlying29 rfl (by kernel_rfl) (by simp [row_size]) _ (row_all [_, _] 64 _) ?_) | (go_at_call 16; (with_reducible refine (implPOk_any x y F _ lx ux ly uy).mono ?_); rintro e w1 ⟨rfl, hb1⟩; have hz1 := hb1.size; (try simp at hz1); obtain ⟨hc1, hf1⟩ := bcell hb1; (try have hlta : w.heap.size < w1.heap.size := by omega); (try have hltb : w.heap.size + 1 < w1.heap.size := by omega)) | (go_at_call 16; (with_reducible refine (implPOk_any x' y' F' _ lx' ux' ly' uy').mono ?_); rintro e w2 ⟨rfl, hb2⟩; have hz2 := hb2.size; (try simp at hz2); obtain ⟨hc2, hf2⟩ := bcell hb2; (try have hltc : w.heap.size < w2.heap.size := by omega); (try have hltd : w.heap.size + 1 < w2.heap.size := by omega)) | go_in)
    go_ret
    exact ⟨rfl, (by repeat (first | (with_reducible assumption) | (with_reducible exact Below.refl _ _) | ((with_reducible refine bel_alloc _ ?_ ?_); focus (first | omega | (simp; done) | (simp; omega))) | ((with_reducible refine bel_row _ ?_ ?_); focus (first | omega | (simp; done) | (simp; omega))) | ((with_reducible refine bel_cell _ ?_ ?_); focus (first | omega | (simp; done) | (simp; omega))) | (with_reducible refine Below.drew ?_) | (with_reducible refine below_wideW _ ?_) | ((with_reducible refine bel_next (by assumption) ?_ ?_); focus (first | omega | (simp; done) | (simp; omega)))))⟩
  · cases ho' : plateB x' y' F'
    · skip
      go_enter Tryz.func56, Tryz.ntmps56
      go_wp2_with (first | ((with_reducible refine at_load 29 ?_); refine wpList_load_part rfl 29 _ rfl _ 0 66 rfl _ _ _ _ (by repeat (first | (with_reducible assumption) | ((with_reducible refine blk_new _ _ _ ?_); focus (simp; done)) | ((with_reducible refine blk_old _ _ _ ?_ ?_); focus (simp; done)) | ((with_reducible refine blk_old _ _ _ ?_ ?_); focus (first | omega | (simp; omega))) | ((with_reducible apply blk_set); focus (simp; done)) | ((with_reducible refine blk_off _ _ _ _ ?_ ?_); focus (simp; done)) | ((with_reducible refine blk_offc _ _ _ _ ?_ ?_); focus (first | (simp; done) | omega | (simp; omega))) | ((with_reducible refine blk_off _ _ _ _ ?_ ?_); focus (first | omega | (simp; omega))) | (with_reducible refine blk_drew _ _ ?_) | ((with_reducible refine blk_below (by assumption) ?_ ?_); focus (simp; done)) | ((with_reducible refine blk_below (by assumption) ?_ ?_); focus (first | omega | (simp; omega))))) Tryz.underlying29 rfl (by kernel_rfl) (by simp [row_size]) _ (row_all [_, _] 64 _) ?_) | ((with_reducible refine at_load 29 ?_); refine wpList_load_partg (by rfl) 29 _ rfl _ 0 66 rfl _ _ _ _ (by repeat (first | (with_reducible assumption) | ((with_reducible refine blk_new _ _ _ ?_); focus (simp; done)) | ((with_reducible refine blk_old _ _ _ ?_ ?_); focus (simp; done)) | ((with_reducible refine blk_old _ _ _ ?_ ?_); focus (first | omega | (simp; omega))) | ((with_reducible apply blk_set); focus (simp; done)) | ((with_reducible refine blk_off _ _ _ _ ?_ ?_); focus (simp; done)) | ((with_reducible refine blk_offc _ _ _ _ ?_ ?_); focus (first | (simp; done) | omega | (simp; omega))) | ((with_reducible refine blk_off _ _ _ _ ?_ ?_); focus (first | omega | (simp; omega))) | (with_reducible refine blk_drew _ _ ?_) | ((with_reducible refine blk_below (by assumption) ?_ ?_); focus (simp; done)) | ((with_reducible refine blk_below (by assumption) ?_ ?_); focus (first | omega | (simp; omega))))) Tryz.underlying29 rfl (by kernel_rfl) (by simp [row_size]) _ (row_all [_, _] 64 _) ?_) | (go_at_call 16; (with_reducible refine (implPOk_any x y F _ lx ux ly uy).mono ?_); rintro e w1 ⟨rfl, hb1⟩; have hz1 := hb1.size; (try simp at hz1); obtain ⟨hc1, hf1⟩ := bcell hb1; (try have hlta : w.heap.size < w1.heap.size := by omega); (try have hltb : w.heap.size + 1 < w1.heap.size := by omega)) | (go_at_call 16; (with_reducible refine (implPOk_any x' y' F' _ lx' ux' ly' uy').mono ?_); rintro e w2 ⟨rfl, hb2⟩; have hz2 := hb2.size; (try simp at hz2); obtain ⟨hc2, hf2⟩ := bcell hb2; (try have hltc : w.heap.size < w2.heap.size := by omega); (try have hltd : w.heap.size + 1 < w2.heap.size := by omega)) | go_in)
      go_ret
      exact ⟨rfl, (by repeat (first | (with_reducible assumption) | (with_reducible exact Below.refl _ _) | ((with_reducible refine bel_alloc _ ?_ ?_); focus (first | omega | (simp; done) | (simp; omega))) | ((with_reducible refine bel_row _ ?_ ?_); focus (first | omega | (simp; done) | (simp; omega))) | ((with_reducible refine bel_cell _ ?_ ?_); focus (first | omega | (simp; done) | (simp; omega))) | (with_reducible refine Below.drew ?_) | (with_reducible refine below_wideW _ ?_) | ((with_reducible refine bel_next (by assumption) ?_ ?_); focus (first | omega | (simp; done) | (simp; omega)))))⟩
    · by_cases hx : x = x'
      · by_cases hy : y = y'
        · have ex : (x == x') = true := by simp [hx]
          have ey : (y == y') = true := by simp [hy]
          have nx : (x != x') = false := by simp [hx]
          have ny : (y != y') = false := by simp [hy]
          rw [ex, ey]
          clear hx hy
          go_enter Tryz.func56, Tryz.ntmps56
          go_wp2_with (first | ((with_reducible refine at_load 29 ?_); refine wpList_load_part rfl 29 _ rfl _ 0 66 rfl _ _ _ _ (by repeat (first | (with_reducible assumption) | ((with_reducible refine blk_new _ _ _ ?_); focus (simp; done)) | ((with_reducible refine blk_old _ _ _ ?_ ?_); focus (simp; done)) | ((with_reducible refine blk_old _ _ _ ?_ ?_); focus (first | omega | (simp; omega))) | ((with_reducible apply blk_set); focus (simp; done)) | ((with_reducible refine blk_off _ _ _ _ ?_ ?_); focus (simp; done)) | ((with_reducible refine blk_offc _ _ _ _ ?_ ?_); focus (first | (simp; done) | omega | (simp; omega))) | ((with_reducible refine blk_off _ _ _ _ ?_ ?_); focus (first | omega | (simp; omega))) | (with_reducible refine blk_drew _ _ ?_) | ((with_reducible refine blk_below (by assumption) ?_ ?_); focus (simp; done)) | ((with_reducible refine blk_below (by assumption) ?_ ?_); focus (first | omega | (simp; omega))))) Tryz.underlying29 rfl (by kernel_rfl) (by simp [row_size]) _ (row_all [_, _] 64 _) ?_) | ((with_reducible refine at_load 29 ?_); refine wpList_load_partg (by rfl) 29 _ rfl _ 0 66 rfl _ _ _ _ (by repeat (first | (with_reducible assumption) | ((with_reducible refine blk_new _ _ _ ?_); focus (simp; done)) | ((with_reducible refine blk_old _ _ _ ?_ ?_); focus (simp; done)) | ((with_reducible refine blk_old _ _ _ ?_ ?_); focus (first | omega | (simp; omega))) | ((with_reducible apply blk_set); focus (simp; done)) | ((with_reducible refine blk_off _ _ _ _ ?_ ?_); focus (simp; done)) | ((with_reducible refine blk_offc _ _ _ _ ?_ ?_); focus (first | (simp; done) | omega | (simp; omega))) | ((with_reducible refine blk_off _ _ _ _ ?_ ?_); focus (first | omega | (simp; omega))) | (with_reducible refine blk_drew _ _ ?_) | ((with_reducible refine blk_below (by assumption) ?_ ?_); focus (simp; done)) | ((with_reducible refine blk_below (by assumption) ?_ ?_); focus (first | omega | (simp; omega))))) Tryz.underlying29 rfl (by kernel_rfl) (by simp [row_size]) _ (row_all [_, _] 64 _) ?_) | (go_at_call 16; (with_reducible refine (implPOk_any x y F _ lx ux ly uy).mono ?_); rintro e w1 ⟨rfl, hb1⟩; have hz1 := hb1.size; (try simp at hz1); obtain ⟨hc1, hf1⟩ := bcell hb1; (try have hlta : w.heap.size < w1.heap.size := by omega); (try have hltb : w.heap.size + 1 < w1.heap.size := by omega)) | (go_at_call 16; (with_reducible refine (implPOk_any x' y' F' _ lx' ux' ly' uy').mono ?_); rintro e w2 ⟨rfl, hb2⟩; have hz2 := hb2.size; (try simp at hz2); obtain ⟨hc2, hf2⟩ := bcell hb2; (try have hltc : w.heap.size < w2.heap.size := by omega); (try have hltd : w.heap.size + 1 < w2.heap.size := by omega)) | go_in)
          go_ret
          exact ⟨rfl, (by repeat (first | (with_reducible assumption) | (with_reducible exact Below.refl _ _) | ((with_reducible refine bel_alloc _ ?_ ?_); focus (first | omega | (simp; done) | (simp; omega))) | ((with_reducible refine bel_row _ ?_ ?_); focus (first | omega | (simp; done) | (simp; omega))) | ((with_reducible refine bel_cell _ ?_ ?_); focus (first | omega | (simp; done) | (simp; omega))) | (with_reducible refine Below.drew ?_) | (with_reducible refine below_wideW _ ?_) | ((with_reducible refine bel_next (by assumption) ?_ ?_); focus (first | omega | (simp; done) | (simp; omega)))))⟩
        · have ex : (x == x') = true := by simp [hx]
          have ey : (y == y') = false := by simp [hy]
          have nx : (x != x') = false := by simp [hx]
          have ny : (y != y') = true := by simp [hy]
          rw [ex, ey]
          clear hx hy
          go_enter Tryz.func56, Tryz.ntmps56
          go_wp2_with (first | ((with_reducible refine at_load 29 ?_); refine wpList_load_part rfl 29 _ rfl _ 0 66 rfl _ _ _ _ (by repeat (first | (with_reducible assumption) | ((with_reducible refine blk_new _ _ _ ?_); focus (simp; done)) | ((with_reducible refine blk_old _ _ _ ?_ ?_); focus (simp; done)) | ((with_reducible refine blk_old _ _ _ ?_ ?_); focus (first | omega | (simp; omega))) | ((with_reducible apply blk_set); focus (simp; done)) | ((with_reducible refine blk_off _ _ _ _ ?_ ?_); focus (simp; done)) | ((with_reducible refine blk_offc _ _ _ _ ?_ ?_); focus (first | (simp; done) | omega | (simp; omega))) | ((with_reducible refine blk_off _ _ _ _ ?_ ?_); focus (first | omega | (simp; omega))) | (with_reducible refine blk_drew _ _ ?_) | ((with_reducible refine blk_below (by assumption) ?_ ?_); focus (simp; done)) | ((with_reducible refine blk_below (by assumption) ?_ ?_); focus (first | omega | (simp; omega))))) Tryz.underlying29 rfl (by kernel_rfl) (by simp [row_size]) _ (row_all [_, _] 64 _) ?_) | ((with_reducible refine at_load 29 ?_); refine wpList_load_partg (by rfl) 29 _ rfl _ 0 66 rfl _ _ _ _ (by repeat (first | (with_reducible assumption) | ((with_reducible refine blk_new _ _ _ ?_); focus (simp; done)) | ((with_reducible refine blk_old _ _ _ ?_ ?_); focus (simp; done)) | ((with_reducible refine blk_old _ _ _ ?_ ?_); focus (first | omega | (simp; omega))) | ((with_reducible apply blk_set); focus (simp; done)) | ((with_reducible refine blk_off _ _ _ _ ?_ ?_); focus (simp; done)) | ((with_reducible refine blk_offc _ _ _ _ ?_ ?_); focus (first | (simp; done) | omega | (simp; omega))) | ((with_reducible refine blk_off _ _ _ _ ?_ ?_); focus (first | omega | (simp; omega))) | (with_reducible refine blk_drew _ _ ?_) | ((with_reducible refine blk_below (by assumption) ?_ ?_); focus (simp; done)) | ((with_reducible refine blk_below (by assumption) ?_ ?_); focus (first | omega | (simp; omega))))) Tryz.underlying29 rfl (by kernel_rfl) (by simp [row_size]) _ (row_all [_, _] 64 _) ?_) | (go_at_call 16; (with_reducible refine (implPOk_any x y F _ lx ux ly uy).mono ?_); rintro e w1 ⟨rfl, hb1⟩; have hz1 := hb1.size; (try simp at hz1); obtain ⟨hc1, hf1⟩ := bcell hb1; (try have hlta : w.heap.size < w1.heap.size := by omega); (try have hltb : w.heap.size + 1 < w1.heap.size := by omega)) | (go_at_call 16; (with_reducible refine (implPOk_any x' y' F' _ lx' ux' ly' uy').mono ?_); rintro e w2 ⟨rfl, hb2⟩; have hz2 := hb2.size; (try simp at hz2); obtain ⟨hc2, hf2⟩ := bcell hb2; (try have hltc : w.heap.size < w2.heap.size := by omega); (try have hltd : w.heap.size + 1 < w2.heap.size := by omega)) | go_in)
          go_ret
          exact ⟨rfl, (by repeat (first | (with_reducible assumption) | (with_reducible exact Below.refl _ _) | ((with_reducible refine bel_alloc _ ?_ ?_); focus (first | omega | (simp; done) | (simp; omega))) | ((with_reducible refine bel_row _ ?_ ?_); focus (first | omega | (simp; done) | (simp; omega))) | ((with_reducible refine bel_cell _ ?_ ?_); focus (first | omega | (simp; done) | (simp; omega))) | (with_reducible refine Below.drew ?_) | (with_reducible refine below_wideW _ ?_) | ((with_reducible refine bel_next (by assumption) ?_ ?_); focus (first | omega | (simp; done) | (simp; omega)))))⟩
      · have ex : (x == x') = false := by simp [hx]
        have nx : (x != x') = true := by simp [hx]
        rw [ex]
        clear hx
        go_enter Tryz.func56, Tryz.ntmps56
        go_wp2_with (first | ((with_reducible refine at_load 29 ?_); refine wpList_load_part rfl 29 _ rfl _ 0 66 rfl _ _ _ _ (by repeat (first | (with_reducible assumption) | ((with_reducible refine blk_new _ _ _ ?_); focus (simp; done)) | ((with_reducible refine blk_old _ _ _ ?_ ?_); focus (simp; done)) | ((with_reducible refine blk_old _ _ _ ?_ ?_); focus (first | omega | (simp; omega))) | ((with_reducible apply blk_set); focus (simp; done)) | ((with_reducible refine blk_off _ _ _ _ ?_ ?_); focus (simp; done)) | ((with_reducible refine blk_offc _ _ _ _ ?_ ?_); focus (first | (simp; done) | omega | (simp; omega))) | ((with_reducible refine blk_off _ _ _ _ ?_ ?_); focus (first | omega | (simp; omega))) | (with_reducible refine blk_drew _ _ ?_) | ((with_reducible refine blk_below (by assumption) ?_ ?_); focus (simp; done)) | ((with_reducible refine blk_below (by assumption) ?_ ?_); focus (first | omega | (simp; omega))))) Tryz.underlying29 rfl (by kernel_rfl) (by simp [row_size]) _ (row_all [_, _] 64 _) ?_) | ((with_reducible refine at_load 29 ?_); refine wpList_load_partg (by rfl) 29 _ rfl _ 0 66 rfl _ _ _ _ (by repeat (first | (with_reducible assumption) | ((with_reducible refine blk_new _ _ _ ?_); focus (simp; done)) | ((with_reducible refine blk_old _ _ _ ?_ ?_); focus (simp; done)) | ((with_reducible refine blk_old _ _ _ ?_ ?_); focus (first | omega | (simp; omega))) | ((with_reducible apply blk_set); focus (simp; done)) | ((with_reducible refine blk_off _ _ _ _ ?_ ?_); focus (simp; done)) | ((with_reducible refine blk_offc _ _ _ _ ?_ ?_); focus (first | (simp; done) | omega | (simp; omega))) | ((with_reducible refine blk_off _ _ _ _ ?_ ?_); focus (first | omega | (simp; omega))) | (with_reducible refine blk_drew _ _ ?_) | ((with_reducible refine blk_below (by assumption) ?_ ?_); focus (simp; done)) | ((with_reducible refine blk_below (by assumption) ?_ ?_); focus (first | omega | (simp; omega))))) Tryz.underlying29 rfl (by kernel_rfl) (by simp [row_size]) _ (row_all [_, _] 64 _) ?_) | (go_at_call 16; (with_reducible refine (implPOk_any x y F _ lx ux ly uy).mono ?_); rintro e w1 ⟨rfl, hb1⟩; have hz1 := hb1.size; (try simp at hz1); obtain ⟨hc1, hf1⟩ := bcell hb1; (try have hlta : w.heap.size < w1.heap.size := by omega); (try have hltb : w.heap.size + 1 < w1.heap.size := by omega)) | (go_at_call 16; (with_reducible refine (implPOk_any x' y' F' _ lx' ux' ly' uy').mono ?_); rintro e w2 ⟨rfl, hb2⟩; have hz2 := hb2.size; (try simp at hz2); obtain ⟨hc2, hf2⟩ := bcell hb2; (try have hltc : w.heap.size < w2.heap.size := by omega); (try have hltd : w.heap.size + 1 < w2.heap.size := by omega)) | go_in)
        go_ret
        exact ⟨rfl, (by repeat (first | (with_reducible assumption) | (with_reducible exact Below.refl _ _) | ((with_reducible refine bel_alloc _ ?_ ?_); focus (first | omega | (simp; done) | (simp; omega))) | ((with_reducible refine bel_row _ ?_ ?_); focus (first | omega | (simp; done) | (simp; omega))) | ((with_reducible refine bel_cell _ ?_ ?_); focus (first | omega | (simp; done) | (simp; omega))) | (with_reducible refine Below.drew ?_) | (with_reducible refine below_wideW _ ?_) | ((with_reducible refine bel_next (by assumption) ?_ ?_); focus (first | omega | (simp; done) | (simp; omega)))))⟩

theorem okP_facts {x y : Int} {F : Nat → Nat} {x' y' : Int} {F' : Nat → Nat} (h : okP x y F x' y' F' = true) : plateB x y F = true ∧ plateB x' y' F' = true ∧ x = x' ∧ y = y' := by
  unfold okP at h
  simp only [Bool.and_eq_true, beq_iff_eq] at h
  exact ⟨h.1.1, h.1.2, h.2.1, h.2.2⟩
theorem okP_no {x y : Int} {F : Nat → Nat} {x' y' : Int} {F' : Nat → Nat} (h : okP x y F x' y' F' = false) : ¬ pairC x y F x' y' F' = 0 := fun e => by
  rw [pairC_ok.2 e] at h; cases h
def diffR (x y : Int) (F : Nat → Nat) (x' y' : Int) (F' : Nat → Nat) : Nat := if okP x y F x' y' F' then diffK F F' x.toNat (x.toNat * y.toNat) else 0
set_option maxRecDepth 100000 in
set_option maxHeartbeats 3200000 in
theorem specDiffer_any (x y : Int) (F : Nat → Nat) (x' y' : Int) (F' : Nat → Nat) (w : World) (lx : -128 ≤ x) (ux : x ≤ 127) (ly : -128 ≤ y) (uy : y ≤ 127) (lx' : -128 ≤ x') (ux' : x' ≤ 127) (ly' : -128 ≤ y') (uy' : y' ≤ 127) : Calls Tryz.prog 28 #[.agg (plate x y F), .agg (plate x' y' F')] w fun e w' => e = .returned (.tuple #[.float .f32 (diffR x y F x' y' F'), .int .i64 (pairC x y F x' y' F')]) ∧ Below w.heap.size w w' := by
  unfold diffR
  cases ho : okP x y F x' y' F'
  · have hbo := fun w B B' hB hB' => specBoth_any x y F x' y' F' w lx ux ly uy lx' ux' ly' uy' B B' hB hB'
    obtain ⟨c, hcc⟩ : ∃ c, c = pairC x y F x' y' F' := ⟨_, rfl⟩
    have hne : ¬ c = 0 := by rw [hcc]; exact okP_no ho
    have hnb : (c != 0) = true := by simp [hne]
    rw [← hcc] at hbo ⊢
    clear hcc
    go_enter Tryz.func28, Tryz.ntmps28
    go_wp2_with (first | (go_at_call 59; (with_reducible refine (hbo _ w.heap.size (w.heap.size + 1) ?_ ?_).mono ?_); (focus (repeat (first | (with_reducible assumption) | ((with_reducible refine blk_new _ _ _ ?_); focus (simp; done)) | ((with_reducible refine blk_old _ _ _ ?_ ?_); focus (simp; done)) | ((with_reducible refine blk_old _ _ _ ?_ ?_); focus (first | omega | (simp; omega))) | ((with_reducible apply blk_set); focus (simp; done)) | ((with_reducible refine blk_off _ _ _ _ ?_ ?_); focus (simp; done)) | ((with_reducible refine blk_offc _ _ _ _ ?_ ?_); focus (first | (simp; done) | omega | (simp; omega))) | ((with_reducible refine blk_off _ _ _ _ ?_ ?_); focus (first | omega | (simp; omega))) | (with_reducible refine blk_drew _ _ ?_) | ((with_reducible refine blk_below (by assumption) ?_ ?_); focus (simp; done)) | ((with_reducible refine blk_below (by assumption) ?_ ?_); focus (first | omega | (simp; omega)))))); (focus (repeat (first | (with_reducible assumption) | ((with_reducible refine blk_new _ _ _ ?_); focus (simp; done)) | ((with_reducible refine blk_old _ _ _ ?_ ?_); focus (simp; done)) | ((with_reducible refine blk_old _ _ _ ?_ ?_); focus (first | omega | (simp; omega))) | ((with_reducible apply blk_set); focus (simp; done)) | ((with_reducible refine blk_off _ _ _ _ ?_ ?_); focus (simp; done)) | ((with_reducible refine blk_offc _ _ _ _ ?_ ?_); focus (first | (simp; done) | omega | (simp; omega))) | ((with_reducible refine blk_off _ _ _ _ ?_ ?_); focus (first | omega | (simp; omega))) | (with_reducible refine blk_drew _ _ ?_) | ((with_reducible refine blk_below (by assumption) ?_ ?_); focus (simp; done)) | ((with_reducible refine blk_below (by assumption) ?_ ?_); focus (first | omega | (simp; omega)))))); rintro e w' ⟨rfl, m, rfl⟩) | go_in)
    go_ret2
    exact ⟨rfl, bel_drewN _ (by repeat (first | (with_reducible assumption) | (with_reducible exact Below.refl _ _) | ((with_reducible refine bel_alloc _ ?_ ?_); focus (first | omega | (simp; done) | (simp; omega))) | ((with_reducible refine bel_row _ ?_ ?_); focus (first | omega | (simp; done) | (simp; omega))) | ((with_reducible refine bel_cell _ ?_ ?_); focus (first | omega | (simp; done) | (simp; omega))) | (with_reducible refine Below.drew ?_) | (with_reducible refine below_wideW _ ?_) | ((with_reducible refine bel_next (by assumption) ?_ ?_); focus (first | omega | (simp; done) | (simp; omega)))))⟩
  · obtain ⟨h1, h2, rfl, rfl⟩ := okP_facts ho
    have d1 := plate_dots h1
    have d2 := plate_dots h2
    have hbo := fun w B B' hB hB' => specBoth_any x y F x y F' w lx ux ly uy lx ux ly uy B B' hB hB'
    rw [pairC_ok.1 ho] at hbo ⊢
    obtain ⟨a, b, rfl, rfl, la, ha, lb, hb, hp, hz0⟩ := plateB_size h1
    rw [show (a : Int).toNat = a from rfl, show (b : Int).toNat = b from rfl]
    have hdn := diffK_num ha hb d1 d2
    have hall := (cells_all a ha b hb).1
    obtain ⟨n, hn⟩ : ∃ n, a * b = n := ⟨_, rfl⟩
    have hcn : ∀ i, i ≤ 64 → cntC a b i ≤ n := fun i hi => by rw [← hn, ← hall]; exact cnt_mono a b hi
    rw [hn] at hall hdn ⊢
    have D1 := Lib.hid d1
    have D2 := Lib.hid d2
    have HDN := Lib.hid hdn
    have HALL := Lib.hid hall
    have HCN := Lib.hid hcn
    clear hp hz0 d1 d2 hdn hall hn hcn h1 h2 ho
    go_enter Tryz.func28, Tryz.ntmps28
    go_wp2_with (first | (go_at_call 59; (with_reducible refine (hbo _ w.heap.size (w.heap.size + 1) ?_ ?_).mono ?_); (focus (repeat (first | (with_reducible assumption) | ((with_reducible refine blk_new _ _ _ ?_); focus (simp; done)) | ((with_reducible refine blk_old _ _ _ ?_ ?_); focus (simp; done)) | ((with_reducible refine blk_old _ _ _ ?_ ?_); focus (first | omega | (simp; omega))) | ((with_reducible apply blk_set); focus (simp; done)) | ((with_reducible refine blk_off _ _ _ _ ?_ ?_); focus (simp; done)) | ((with_reducible refine blk_offc _ _ _ _ ?_ ?_); focus (first | (simp; done) | omega | (simp; omega))) | ((with_reducible refine blk_off _ _ _ _ ?_ ?_); focus (first | omega | (simp; omega))) | (with_reducible refine blk_drew _ _ ?_) | ((with_reducible refine blk_below (by assumption) ?_ ?_); focus (simp; done)) | ((with_reducible refine blk_below (by assumption) ?_ ?_); focus (first | omega | (simp; omega)))))); (focus (repeat (first | (with_reducible assumption) | ((with_reducible refine blk_new _ _ _ ?_); focus (simp; done)) | ((with_reducible refine blk_old _ _ _ ?_ ?_); focus (simp; done)) | ((with_reducible refine blk_old _ _ _ ?_ ?_); focus (first | omega | (simp; omega))) | ((with_reducible apply blk_set); focus (simp; done)) | ((with_reducible refine blk_off _ _ _ _ ?_ ?_); focus (simp; done)) | ((with_reducible refine blk_offc _ _ _ _ ?_ ?_); focus (first | (simp; done) | omega | (simp; omega))) | ((with_reducible refine blk_off _ _ _ _ ?_ ?_); focus (first | omega | (simp; omega))) | (with_reducible refine blk_drew _ _ ?_) | ((with_reducible refine blk_below (by assumption) ?_ ?_); focus (simp; done)) | ((with_reducible refine blk_below (by assumption) ?_ ?_); focus (first | omega | (simp; omega)))))); rintro e w' ⟨rfl, m, rfl⟩) | go_in)
    go_loopw [7, 8] (fun v i wr => ∃ k M : Nat, k ≤ 64 ∧ i = .int .i64 k ∧ v = .float .f32 M ∧ diffK F F' a (cntC a b k) = M ∧ wr.heap[w.heap.size]? = some (.cells (plate a b F) 29 (0, 0)) ∧ wr.heap[w.heap.size + 1]? = some (.cells (plate a b F') 29 (0, 0)) ∧ Below w.heap.size w wr) (fun _ i _ => 64 - (intOf i).toNat)
    case atStart => exact ⟨0, 0, by omega, rfl, rfl, rfl, by first | (exact blk_drewN _ _ _ (by repeat (first | (with_reducible assumption) | ((with_reducible refine blk_new _ _ _ ?_); focus (simp; done)) | ((with_reducible refine blk_old _ _ _ ?_ ?_); focus (simp; done)) | ((with_reducible refine blk_old _ _ _ ?_ ?_); focus (first | omega | (simp; omega))) | ((with_reducible apply blk_set); focus (simp; done)) | ((with_reducible refine blk_off _ _ _ _ ?_ ?_); focus (simp; done)) | ((with_reducible refine blk_offc _ _ _ _ ?_ ?_); focus (first | (simp; done) | omega | (simp; omega))) | ((with_reducible refine blk_off _ _ _ _ ?_ ?_); focus (first | omega | (simp; omega))) | (with_reducible refine blk_drew _ _ ?_) | ((with_reducible refine blk_below (by assumption) ?_ ?_); focus (simp; done)) | ((with_reducible refine blk_below (by assumption) ?_ ?_); focus (first | omega | (simp; omega)))))) | repeat (first | (with_reducible assumption) | ((with_reducible refine blk_new _ _ _ ?_); focus (simp; done)) | ((with_reducible refine blk_old _ _ _ ?_ ?_); focus (simp; done)) | ((with_reducible refine blk_old _ _ _ ?_ ?_); focus (first | omega | (simp; omega))) | ((with_reducible apply blk_set); focus (simp; done)) | ((with_reducible refine blk_off _ _ _ _ ?_ ?_); focus (simp; done)) | ((with_reducible refine blk_offc _ _ _ _ ?_ ?_); focus (first | (simp; done) | omega | (simp; omega))) | ((with_reducible refine blk_off _ _ _ _ ?_ ?_); focus (first | omega | (simp; omega))) | (with_reducible refine blk_drew _ _ ?_) | ((with_reducible refine blk_below (by assumption) ?_ ?_); focus (simp; done)) | ((with_reducible refine blk_below (by assumption) ?_ ?_); focus (first | omega | (simp; omega)))), by first | (exact blk_drewN _ _ _ (by repeat (first | (with_reducible assumption) | ((with_reducible refine blk_new _ _ _ ?_); focus (simp; done)) | ((with_reducible refine blk_old _ _ _ ?_ ?_); focus (simp; done)) | ((with_reducible refine blk_old _ _ _ ?_ ?_); focus (first | omega | (simp; omega))) | ((with_reducible apply blk_set); focus (simp; done)) | ((with_reducible refine blk_off _ _ _ _ ?_ ?_); focus (simp; done)) | ((with_reducible refine blk_offc _ _ _ _ ?_ ?_); focus (first | (simp; done) | omega | (simp; omega))) | ((with_reducible refine blk_off _ _ _ _ ?_ ?_); focus (first | omega | (simp; omega))) | (with_reducible refine blk_drew _ _ ?_) | ((with_reducible refine blk_below (by assumption) ?_ ?_); focus (simp; done)) | ((with_reducible refine blk_below (by assumption) ?_ ?_); focus (first | omega | (simp; omega)))))) | repeat (first | (with_reducible assumption) | ((with_reducible refine blk_new _ _ _ ?_); focus (simp; done)) | ((with_reducible refine blk_old _ _ _ ?_ ?_); focus (simp; done)) | ((with_reducible refine blk_old _ _ _ ?_ ?_); focus (first | omega | (simp; omega))) | ((with_reducible apply blk_set); focus (simp; done)) | ((with_reducible refine blk_off _ _ _ _ ?_ ?_); focus (simp; done)) | ((with_reducible refine blk_offc _ _ _ _ ?_ ?_); focus (first | (simp; done) | omega | (simp; omega))) | ((with_reducible refine blk_off _ _ _ _ ?_ ?_); focus (first | omega | (simp; omega))) | (with_reducible refine blk_drew _ _ ?_) | ((with_reducible refine blk_below (by assumption) ?_ ?_); focus (simp; done)) | ((with_reducible refine blk_below (by assumption) ?_ ?_); focus (first | omega | (simp; omega)))), by first | (exact bel_drewN _ (by repeat (first | (with_reducible assumption) | (with_reducible exact Below.refl _ _) | ((with_reducible refine bel_alloc _ ?_ ?_); focus (first | omega | (simp; done) | (simp; omega))) | ((with_reducible refine bel_row _ ?_ ?_); focus (first | omega | (simp; done) | (simp; omega))) | ((with_reducible refine bel_cell _ ?_ ?_); focus (first | omega | (simp; done) | (simp; omega))) | (with_reducible refine Below.drew ?_) | (with_reducible refine below_wideW _ ?_) | ((with_reducible refine bel_next (by assumption) ?_ ?_); focus (first | omega | (simp; done) | (simp; omega)))))) | repeat (first | (with_reducible assumption) | (with_reducible exact Below.refl _ _) | ((with_reducible refine bel_alloc _ ?_ ?_); focus (first | omega | (simp; done) | (simp; omega))) | ((with_reducible refine bel_row _ ?_ ?_); focus (first | omega | (simp; done) | (simp; omega))) | ((with_reducible refine bel_cell _ ?_ ?_); focus (first | omega | (simp; done) | (simp; omega))) | (with_reducible refine Below.drew ?_) | (with_reducible refine below_wideW _ ?_) | ((with_reducible refine bel_next (by assumption) ?_ ?_); focus (first | omega | (simp; done) | (simp; omega))))⟩
    case round =>
      obtain ⟨k, M, hk, rfl, rfl, hM, h1, h2, h5⟩ := hrel
      obtain ⟨m1, m2⟩ := HDN.out _ (HCN.out k hk)
      rw [hM] at m1 m2
      have H5 := Lib.hid h5
      clear h5
      by_cases hlt : k < 64
      · have k0 : (0 : Int) ≤ k := by omega
        have k64 : (k : Int) < 64 := by omega
        have cf : wr.cell? ⟨w.heap.size, 2 + k, none⟩ = some (.float .f32 (F k)) := (cell_of_row wr _ (2 + k) _ _ _ h1).trans (row_k2 _ _ _ _ hlt)
        have cg : wr.cell? ⟨w.heap.size + 1, 2 + k, none⟩ = some (.float .f32 (F' k)) := (cell_of_row wr _ (2 + k) _ _ _ h2).trans (row_k2 _ _ _ _ hlt)
        have p0 : wr.cell? ⟨w.heap.size, 0, none⟩ = some (.int .i8 a) := (cell_of_row wr _ 0 _ _ _ h1).trans (row_g0 _ _ _ _)
        have p1 : wr.cell? ⟨w.heap.size, 1, none⟩ = some (.int .i8 b) := (cell_of_row wr _ 1 _ _ _ h1).trans (row_g1 _ _ _ _ _)
        have hv := fsub_fin (D1.out k hlt) (D2.out k hlt)
        have hvl := fsub_lt (dot_Z (D1.out k hlt)).1 (dot_Z (D2.out k hlt)).1
        have e1 := fun w => run_fsub (P := Tryz.prog) w 25 (dot_Z (D1.out k hlt)).1 (dot_Z (D2.out k hlt)).1
        have hst := size_step (fin_nan hv) hvl m1 (nonneg_of m2)
        obtain ⟨v, hvv⟩ : ∃ v, v = fsub (F k) (F' k) := ⟨_, rfl⟩
        rw [← hvv] at hv hvl e1 hst
        have hsq := fun w n => specSize_q (fin_nan hv) hvl w n
        have HST := Lib.hid hst
        have HVV := Lib.hid hvv
        have H1 := Lib.hid h1
        have H2 := Lib.hid h2
        have HM := Lib.hid hM
        obtain ⟨S, hS⟩ : ∃ S, S = sizeS v := ⟨_, rfl⟩
        rw [← hS] at hsq
        have HS := Lib.hid hS
        clear h1 h2 hM hv hvl hst hvv m1 m2 hS
        cases hr : isC a b k
        · have HR := Lib.hid hr
          have hIs : ∀ w' : World, w'.cell? ⟨w.heap.size, 0, none⟩ = some (.int .i8 a) → w'.cell? ⟨w.heap.size, 1, none⟩ = some (.int .i8 b) → Calls Tryz.prog 46 #[.pointer (some ⟨w.heap.size, 0, none⟩), .int .i64 k] w' fun e w'' => e = .returned (.bool false) ∧ w' = w'' := fun w' c0 c1 => by have := specIs_any ha hb hlt w' (w.heap.size) c0 c1; rwa [HR.out] at this
          clear hr
          go_wp2
          go_quiet ((go_at_call 64; with_reducible exact hsq _ _))
          go_wp2_with (first | (go_at_call 46; (with_reducible refine (hIs _ (by first | assumption | go_simp) (by first | assumption | go_simp)).mono ?_); rintro e w' ⟨rfl, rfl⟩) | go_in)
          go_roundw
          case rel => exact ⟨k + 1, M, by omega, by go_num, rfl, by rw [cnt_skip a b k HR.out]; exact HM.out, H1.out, H2.out, bel_drewN _ H5.out⟩
          case measure => simp [intOf]; omega
        · obtain ⟨e2, _⟩ := cells_at a ha b hb k hlt hr
          have hnext : diffK F F' a (cntC a b (k + 1)) = maxStep M v := by rw [cnt_step a b k hr, diffK, e2, HM.out, HVV.out]
          rw [← HST.out, ← HS.out] at hnext
          have HN := Lib.hid hnext
          have HR := Lib.hid hr
          have hIs : ∀ w' : World, w'.cell? ⟨w.heap.size, 0, none⟩ = some (.int .i8 a) → w'.cell? ⟨w.heap.size, 1, none⟩ = some (.int .i8 b) → Calls Tryz.prog 46 #[.pointer (some ⟨w.heap.size, 0, none⟩), .int .i64 k] w' fun e w'' => e = .returned (.bool true) ∧ w' = w'' := fun w' c0 c1 => by have := specIs_any ha hb hlt w' (w.heap.size) c0 c1; rwa [HR.out] at this
          clear hr e2 hnext
          cases ht : (FloatKind.f32.format.order S M == some .gt)
          · go_wp2
            go_quiet ((go_at_call 64; with_reducible exact hsq _ _))
            go_wp2_with (first | (go_at_call 46; (with_reducible refine (hIs _ (by first | assumption | go_simp) (by first | assumption | go_simp)).mono ?_); rintro e w' ⟨rfl, rfl⟩) | go_in)
            go_roundw
            case rel => exact ⟨k + 1, M, by omega, by go_num, rfl, by rw [HN.out, ht]; rfl, H1.out, H2.out, bel_drewN _ H5.out⟩
            case measure => simp [intOf]; omega
          · go_wp2
            go_quiet ((go_at_call 64; with_reducible exact hsq _ _))
            go_wp2_with (first | (go_at_call 46; (with_reducible refine (hIs _ (by first | assumption | go_simp) (by first | assumption | go_simp)).mono ?_); rintro e w' ⟨rfl, rfl⟩) | go_in)
            go_roundw
            case rel => exact ⟨k + 1, S, by omega, by go_num, rfl, by rw [HN.out, ht]; rfl, H1.out, H2.out, bel_drewN _ H5.out⟩
            case measure => simp [intOf]; omega
      · obtain rfl : k = 64 := by omega
        rw [HALL.out] at hM
        have HM := Lib.hid hM
        clear hM h1 h2 m1 m2
        go_wp2
        go_ret2
        exact ⟨by rw [HM.out]; rfl, H5.out⟩

set_option maxRecDepth 100000 in
set_option maxHeartbeats 3200000 in
theorem implDiffer_any (x y : Int) (F : Nat → Nat) (x' y' : Int) (F' : Nat → Nat) (w : World) (lx : -128 ≤ x) (ux : x ≤ 127) (ly : -128 ≤ y) (uy : y ≤ 127) (lx' : -128 ≤ x') (ux' : x' ≤ 127) (ly' : -128 ≤ y') (uy' : y' ≤ 127) : Calls Tryz.prog 27 #[.agg (plate x y F), .agg (plate x' y' F')] w fun e w' => e = .returned (.tuple #[.float .f32 (diffR x y F x' y' F'), .int .i64 (pairC x y F x' y' F')]) ∧ Below w.heap.size w w' := by
  unfold diffR
  cases ho : okP x y F x' y' F'
  · have hbo := fun w => implPair_any x y F x' y' F' w lx ux ly uy lx' ux' ly' uy'
    obtain ⟨c, hcc⟩ : ∃ c, c = pairC x y F x' y' F' := ⟨_, rfl⟩
    have hne : ¬ c = 0 := by rw [hcc]; exact okP_no ho
    have hnb : (c != 0) = true := by simp [hne]
    rw [← hcc] at hbo ⊢
    clear hcc
    go_enter Tryz.func27, Tryz.ntmps27
    go_wp2_with (first | (go_at_call 56; (with_reducible refine (hbo _).mono ?_); rintro e w1 ⟨rfl, hb1⟩; have hz1 := hb1.size; (try simp at hz1); obtain ⟨hc1, hf1⟩ := bcell hb1) | ((with_reducible refine at_load 29 ?_); refine wpList_load_part rfl 29 _ rfl _ 0 66 rfl _ _ _ _ (by repeat (first | (with_reducible assumption) | ((with_reducible refine blk_new _ _ _ ?_); focus (simp; done)) | ((with_reducible refine blk_old _ _ _ ?_ ?_); focus (simp; done)) | ((with_reducible refine blk_old _ _ _ ?_ ?_); focus (first | omega | (simp; omega))) | ((with_reducible apply blk_set); focus (simp; done)) | ((with_reducible refine blk_off _ _ _ _ ?_ ?_); focus (simp; done)) | ((with_reducible refine blk_offc _ _ _ _ ?_ ?_); focus (first | (simp; done) | omega | (simp; omega))) | ((with_reducible refine blk_off _ _ _ _ ?_ ?_); focus (first | omega | (simp; omega))) | (with_reducible refine blk_drew _ _ ?_) | ((with_reducible refine blk_below (by assumption) ?_ ?_); focus (simp; done)) | ((with_reducible refine blk_below (by assumption) ?_ ?_); focus (first | omega | (simp; omega))))) Tryz.underlying29 rfl (by kernel_rfl) (by simp [row_size]) _ (row_all [_, _] 64 _) ?_) | go_in)
    go_ret2
    exact ⟨rfl, (by repeat (first | (with_reducible assumption) | (with_reducible exact Below.refl _ _) | ((with_reducible refine bel_alloc _ ?_ ?_); focus (first | omega | (simp; done) | (simp; omega))) | ((with_reducible refine bel_row _ ?_ ?_); focus (first | omega | (simp; done) | (simp; omega))) | ((with_reducible refine bel_cell _ ?_ ?_); focus (first | omega | (simp; done) | (simp; omega))) | (with_reducible refine Below.drew ?_) | (with_reducible refine below_wideW _ ?_) | ((with_reducible refine bel_next (by assumption) ?_ ?_); focus (first | omega | (simp; done) | (simp; omega)))))⟩
  · obtain ⟨h1, h2, rfl, rfl⟩ := okP_facts ho
    have d1 := plate_dots h1
    have d2 := plate_dots h2
    have hbo := fun w => implPair_any x y F x y F' w lx ux ly uy lx ux ly uy
    rw [pairC_ok.1 ho] at hbo ⊢
    obtain ⟨a, b, rfl, rfl, la, ha, lb, hb, hp, hz0⟩ := plateB_size h1
    rw [show (a : Int).toNat = a from rfl, show (b : Int).toNat = b from rfl]
    have hdn := diffK_num ha hb d1 d2
    have h64 := (cells_all a ha b hb).2
    have hcl : ∀ k, k < a * b → cellAt a k < 64 := fun k hk => (cells_of a ha b hb k (by omega) hk).1
    obtain ⟨n, hn⟩ : ∃ n, a * b = n := ⟨_, rfl⟩
    rw [hn] at hdn hcl h64 ⊢
    have D1 := Lib.hid d1
    have D2 := Lib.hid d2
    have HDN := Lib.hid hdn
    have HNN := Lib.hid hn
    have HCL := Lib.hid hcl
    clear hp hz0 d1 d2 hdn hn hcl h1 h2 ho
    go_enter Tryz.func27, Tryz.ntmps27
    go_wp2_with (first | (go_at_call 56; (with_reducible refine (hbo _).mono ?_); rintro e w1 ⟨rfl, hb1⟩; have hz1 := hb1.size; (try simp at hz1); obtain ⟨hc1, hf1⟩ := bcell hb1) | ((with_reducible refine at_load 29 ?_); refine wpList_load_part rfl 29 _ rfl _ 0 66 rfl _ _ _ _ (by repeat (first | (with_reducible assumption) | ((with_reducible refine blk_new _ _ _ ?_); focus (simp; done)) | ((with_reducible refine blk_old _ _ _ ?_ ?_); focus (simp; done)) | ((with_reducible refine blk_old _ _ _ ?_ ?_); focus (first | omega | (simp; omega))) | ((with_reducible apply blk_set); focus (simp; done)) | ((with_reducible refine blk_off _ _ _ _ ?_ ?_); focus (simp; done)) | ((with_reducible refine blk_offc _ _ _ _ ?_ ?_); focus (first | (simp; done) | omega | (simp; omega))) | ((with_reducible refine blk_off _ _ _ _ ?_ ?_); focus (first | omega | (simp; omega))) | (with_reducible refine blk_drew _ _ ?_) | ((with_reducible refine blk_below (by assumption) ?_ ?_); focus (simp; done)) | ((with_reducible refine blk_below (by assumption) ?_ ?_); focus (first | omega | (simp; omega))))) Tryz.underlying29 rfl (by kernel_rfl) (by simp [row_size]) _ (row_all [_, _] 64 _) ?_))
    go_at_call 49
    refine (cells_n a b n HNN.out la ha lb hb _ w.heap.size (by first | (simp; done) | (simp; omega) | omega) ((cell_of_row _ _ 0 (plate a b F) 29 (0, 0) (by repeat (first | (with_reducible assumption) | ((with_reducible refine blk_new _ _ _ ?_); focus (simp; done)) | ((with_reducible refine blk_old _ _ _ ?_ ?_); focus (simp; done)) | ((with_reducible refine blk_old _ _ _ ?_ ?_); focus (first | omega | (simp; omega))) | ((with_reducible apply blk_set); focus (simp; done)) | ((with_reducible refine blk_off _ _ _ _ ?_ ?_); focus (simp; done)) | ((with_reducible refine blk_offc _ _ _ _ ?_ ?_); focus (first | (simp; done) | omega | (simp; omega))) | ((with_reducible refine blk_off _ _ _ _ ?_ ?_); focus (first | omega | (simp; omega))) | (with_reducible refine blk_drew _ _ ?_) | ((with_reducible refine blk_below (by assumption) ?_ ?_); focus (simp; done)) | ((with_reducible refine blk_below (by assumption) ?_ ?_); focus (first | omega | (simp; omega)))))).trans (row_g0 _ _ _ _)) ((cell_of_row _ _ 1 (plate a b F) 29 (0, 0) (by repeat (first | (with_reducible assumption) | ((with_reducible refine blk_new _ _ _ ?_); focus (simp; done)) | ((with_reducible refine blk_old _ _ _ ?_ ?_); focus (simp; done)) | ((with_reducible refine blk_old _ _ _ ?_ ?_); focus (first | omega | (simp; omega))) | ((with_reducible apply blk_set); focus (simp; done)) | ((with_reducible refine blk_off _ _ _ _ ?_ ?_); focus (simp; done)) | ((with_reducible refine blk_offc _ _ _ _ ?_ ?_); focus (first | (simp; done) | omega | (simp; omega))) | ((with_reducible refine blk_off _ _ _ _ ?_ ?_); focus (first | omega | (simp; omega))) | (with_reducible refine blk_drew _ _ ?_) | ((with_reducible refine blk_below (by assumption) ?_ ?_); focus (simp; done)) | ((with_reducible refine blk_below (by assumption) ?_ ?_); focus (first | omega | (simp; omega)))))).trans (row_g1 _ _ _ _ _))).mono ?_
    rintro e w2 ⟨g0, c, rfl, hown, hbc⟩
    obtain ⟨cur, hcur, hat⟩ := own_block hown
    have k1 : w2.heap[w.heap.size]? = some (.cells (plate a b F) 29 (0, 0)) := blk_below hbc (by first | (simp; done) | (simp; omega) | omega) (by repeat (first | (with_reducible assumption) | ((with_reducible refine blk_new _ _ _ ?_); focus (simp; done)) | ((with_reducible refine blk_old _ _ _ ?_ ?_); focus (simp; done)) | ((with_reducible refine blk_old _ _ _ ?_ ?_); focus (first | omega | (simp; omega))) | ((with_reducible apply blk_set); focus (simp; done)) | ((with_reducible refine blk_off _ _ _ _ ?_ ?_); focus (simp; done)) | ((with_reducible refine blk_offc _ _ _ _ ?_ ?_); focus (first | (simp; done) | omega | (simp; omega))) | ((with_reducible refine blk_off _ _ _ _ ?_ ?_); focus (first | omega | (simp; omega))) | (with_reducible refine blk_drew _ _ ?_) | ((with_reducible refine blk_below (by assumption) ?_ ?_); focus (simp; done)) | ((with_reducible refine blk_below (by assumption) ?_ ?_); focus (first | omega | (simp; omega)))))
    have k2 : w2.heap[w.heap.size + 1]? = some (.cells (plate a b F') 29 (0, 0)) := blk_below hbc (by first | (simp; done) | (simp; omega) | omega) (by repeat (first | (with_reducible assumption) | ((with_reducible refine blk_new _ _ _ ?_); focus (simp; done)) | ((with_reducible refine blk_old _ _ _ ?_ ?_); focus (simp; done)) | ((with_reducible refine blk_old _ _ _ ?_ ?_); focus (first | omega | (simp; omega))) | ((with_reducible apply blk_set); focus (simp; done)) | ((with_reducible refine blk_off _ _ _ _ ?_ ?_); focus (simp; done)) | ((with_reducible refine blk_offc _ _ _ _ ?_ ?_); focus (first | (simp; done) | omega | (simp; omega))) | ((with_reducible refine blk_off _ _ _ _ ?_ ?_); focus (first | omega | (simp; omega))) | (with_reducible refine blk_drew _ _ ?_) | ((with_reducible refine blk_below (by assumption) ?_ ?_); focus (simp; done)) | ((with_reducible refine blk_below (by assumption) ?_ ?_); focus (first | omega | (simp; omega)))))
    have k4 : Below w.heap.size w w2 := bel_next hbc (by first | (simp; done) | (simp; omega) | omega) (by repeat (first | (with_reducible assumption) | (with_reducible exact Below.refl _ _) | ((with_reducible refine bel_alloc _ ?_ ?_); focus (first | omega | (simp; done) | (simp; omega))) | ((with_reducible refine bel_row _ ?_ ?_); focus (first | omega | (simp; done) | (simp; omega))) | ((with_reducible refine bel_cell _ ?_ ?_); focus (first | omega | (simp; done) | (simp; omega))) | (with_reducible refine Below.drew ?_) | (with_reducible refine below_wideW _ ?_) | ((with_reducible refine bel_next (by assumption) ?_ ?_); focus (first | omega | (simp; done) | (simp; omega)))))
    have HA := Lib.hid hat
    have K1 := Lib.hid k1
    have K2 := Lib.hid k2
    have K4 := Lib.hid k4
    have KC := Lib.hid hcur
    clear hown hbc hcur hat k1 k2 k4 hb1 hc1 hf1
    go_wp2
    go_loopw [7, 18] (fun v i wr => ∃ k M : Nat, k ≤ n ∧ i = .int .i64 k ∧ v = .float .f32 M ∧ diffK F F' a k = M ∧ wr.heap[w.heap.size]? = some (.cells (plate a b F) 29 (0, 0)) ∧ wr.heap[w.heap.size + 1]? = some (.cells (plate a b F') 29 (0, 0)) ∧ wr.heap[g0]? = some (.cells cur 2 (0, 0)) ∧ Below w.heap.size w wr) (fun _ i _ => 65 - (intOf i).toNat)
    case atStart => exact ⟨0, 0, by omega, rfl, rfl, rfl, K1.out, K2.out, KC.out, K4.out⟩
    case round =>
      obtain ⟨k, M, hk, rfl, rfl, hM, h1, h2, h4, h5⟩ := hrel
      obtain ⟨m1, m2⟩ := HDN.out k hk
      rw [hM] at m1 m2
      have H5 := Lib.hid h5
      clear K1 K2 K4 KC h5
      by_cases hlt : k < n
      · have q2 := HCL.out k hlt
        have cl : wr.cell? ⟨g0, k, none⟩ = some (.int .i64 (cellAt a k : Nat)) := (cell_of_row wr g0 k cur 2 (0, 0) h4).trans (HA.out k hlt)
        have cf : wr.cell? ⟨w.heap.size, 2 + cellAt a k, none⟩ = some (.float .f32 (F (cellAt a k))) := (cell_of_row wr _ (2 + cellAt a k) _ _ _ h1).trans (row_k2 _ _ _ _ q2)
        have cg : wr.cell? ⟨w.heap.size + 1, 2 + cellAt a k, none⟩ = some (.float .f32 (F' (cellAt a k))) := (cell_of_row wr _ (2 + cellAt a k) _ _ _ h2).trans (row_k2 _ _ _ _ q2)
        have hnext : diffK F F' a (k + 1) = maxStep (diffK F F' a k) (fsub (F (cellAt a k)) (F' (cellAt a k))) := rfl
        obtain ⟨q, hq⟩ : ∃ q, cellAt a k = q := ⟨_, rfl⟩
        rw [hq] at cl cf cg q2 hnext
        have hv := fsub_fin (D1.out q q2) (D2.out q q2)
        have e1 := fun w => run_fsub (P := Tryz.prog) w 25 (dot_Z (D1.out q q2)).1 (dot_Z (D2.out q q2)).1
        obtain ⟨v, hvv⟩ : ∃ v, v = fsub (F q) (F' q) := ⟨_, rfl⟩
        rw [← hvv] at hv e1 hnext
        rw [hM] at hnext
        have hsq := fun w n => implSize_q hv w n
        have hmx := fun ts t w => run_max_step (P := Tryz.prog) ts t (fin_nan hv) m1 m2 w
        have HN := Lib.hid hnext
        have H1 := Lib.hid h1
        have H2 := Lib.hid h2
        have H4 := Lib.hid h4
        clear h1 h2 h4 hq hM hv hvv hnext m1 m2
        have z0 : (0 : Int) ≤ q := by omega
        have z1 : (q : Int) < 64 := by omega
        have i0' : (0 : Int) ≤ k := by omega
        have i1 : (k : Int) < n := by omega
        have i2 : (n : Int) ≤ 64 := by omega
        go_wp2
        go_quiet ((go_at_call 63; with_reducible exact hsq _ _))
        go_wp2
        go_roundw
        case rel => exact ⟨k + 1, _, by omega, by go_num, rfl, HN.out, H1.out, H2.out, H4.out, bel_drewN _ H5.out⟩
        case measure => simp [intOf]; omega
      · have hkn : k = n := by omega
        rw [hkn] at hM
        have HM := Lib.hid hM
        clear hM hkn h1 h2 h4 m1 m2
        have hge : ¬ k < n := hlt
        go_wp2
        go_ret2
        exact ⟨by rw [HM.out]; rfl, H5.out⟩

end Go.Proofs.YtekfmjddlemboaaGreatDoor
