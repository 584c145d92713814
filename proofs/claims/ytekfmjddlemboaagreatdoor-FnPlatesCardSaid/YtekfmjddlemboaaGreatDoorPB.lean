/- Parts of a proof, merged; each under its own premises. -/
import Derived.Test.YtekfmjddlemboaaGreatDoorPA
import Derived.Deep.RegionWith
import Derived.Deep.RegionHeld3
import Derived.Deep.MidRow
import Derived.OwnWalk
import Derived.Laws.OwnMore

/-! How far a sum of narrow numbers is from the true one, and sums of many; the numbers are finite and bounded. -/
set_option linter.unusedVariables false
set_option linter.unusedSimpArgs false
namespace Go.Proofs.YtekfmjddlemboaaGreatDoor
open Go.RowKit Ieee

theorem RZ_err {z : Int} {d t : Nat} (ht : t ≤ 240) (hz : z.natAbs < 2 ^ (d + 24 + t)) : 2 * (Flt.RZ single z d * 2 ^ d - z) ≤ 2 ^ (d + t) ∧ 2 * (z - Flt.RZ single z d * 2 ^ d) ≤ 2 ^ (d + t) := by
  have hex : Flt.ex single z.natAbs d ≤ t := Flt.ex_le single (by
    have : d + single.fractionBits + t + 1 = d + 24 + t := by show d + 23 + t + 1 = _; omega
    rw [this]; exact hz)
  obtain ⟨h1, h2⟩ := Flt.U_G0_err single z.natAbs d
  have hpow : (2 : Nat) ^ (d + Flt.ex single z.natAbs d) ≤ 2 ^ (d + t) := Nat.pow_le_pow_right (by omega) (by omega)
  -- nothing is cut off
  have hclip : Flt.G single z.natAbs d = Flt.G0 single z.natAbs d := by
    unfold Flt.G
    apply Nat.min_eq_left
    apply Flt.U_mono single
    rw [Flt.single_inf]
    have hd : 0 < 2 ^ d := Nat.two_pow_pos d
    have h3 : Flt.U single (Flt.G0 single z.natAbs d) * 2 ^ d ≤ 2 ^ Flt.eS * 2 ^ d := by
      have h4 : 2 ^ (d + 24 + t) ≤ 2 ^ Flt.eS * 2 ^ d / 4 := by
        have e : 2 ^ Flt.eS * 2 ^ d = 4 * 2 ^ (275 + d) := by
          rw [← Nat.pow_add, show Flt.eS + d = 2 + (275 + d) from by have := Flt.eS_eq; omega, Nat.pow_add]
        rw [e, Nat.mul_div_cancel_left _ (by omega)]
        exact Nat.pow_le_pow_right (by omega) (by omega)
      have h5 : 2 ^ (d + t) ≤ 2 ^ (d + 24 + t) := Nat.pow_le_pow_right (by omega) (by omega)
      omega
    exact Nat.le_of_mul_le_mul_right h3 hd
  unfold Flt.RZ
  rw [hclip]
  generalize Flt.U single (Flt.G0 single z.natAbs d) = u at *
  have c1 : 2 * ((u : Int) * 2 ^ d) ≤ 2 * z.natAbs + 2 ^ (d + t) := by
    have : 2 * (u * 2 ^ d) ≤ 2 * z.natAbs + 2 ^ (d + t) := by omega
    exact_mod_cast this
  have c2 : 2 * (z.natAbs : Int) ≤ 2 * ((u : Int) * 2 ^ d) + 2 ^ (d + t) := by
    have : 2 * z.natAbs ≤ 2 * (u * 2 ^ d) + 2 ^ (d + t) := by omega
    exact_mod_cast this
  unfold Flt.sg
  by_cases hn : z < 0
  · simp only [hn, decide_true, if_true]
    rw [Int.neg_mul]
    generalize (u : Int) * 2 ^ d = v at *
    generalize (2 : Int) ^ (d + t) = q at *
    omega
  · simp only [hn, decide_false, Bool.false_eq_true, if_false]
    generalize (u : Int) * 2 ^ d = v at *
    generalize (2 : Int) ^ (d + t) = q at *
    omega

theorem fadd_err {x y : Nat} {t : Nat} (ht : t ≤ 240) (hx : Fin32 x) (hy : Fin32 y) (hz : (Z32 x + Z32 y).natAbs < 2 ^ (24 + t)) :
    2 * (Z32 (fadd x y) - (Z32 x + Z32 y)) ≤ 2 ^ t ∧ 2 * ((Z32 x + Z32 y) - Z32 (fadd x y)) ≤ 2 ^ t := by
  rw [Z_fadd hx hy]
  have := RZ_err (z := Z32 x + Z32 y) (d := 0) (t := t) ht (by simpa using hz)
  simpa using this
/-- The sum of n numbers, from the first one on. -/
def sumTo (G : Nat → Nat) : Nat → Nat
  | 0 => 0
  | 1 => G 0
  | k + 2 => fadd (sumTo G (k + 1)) (G (k + 1))
theorem sumTo_step (G : Nat → Nat) {k : Nat} (h : 1 ≤ k) : sumTo G (k + 1) = fadd (sumTo G k) (G k) := by
  obtain ⟨j, rfl⟩ : ∃ j, k = j + 1 := ⟨k - 1, by omega⟩
  rfl
theorem sumTo_facts {G : Nat → Nat} {n : Nat} (hn : n ≤ 4000) (hG : ∀ i, i < n → filmB (G i) = true) : ∀ k, k ≤ n → Fin32 (sumTo G k) ∧ 0 ≤ Z32 (sumTo G k) ∧ Z32 (sumTo G k) ≤ k * 2 ^ 170
  | 0, _ => ⟨(by decide : Fin32 0), Int.le_of_eq Z_zero.symm, by rw [show Z32 (sumTo G 0) = 0 from Z_zero]; omega⟩
  | 1, h => by
    have hg := hG 0 (by omega)
    obtain ⟨_, a, b⟩ := (film_iff _).1 hg
    refine ⟨film_fin hg, a, ?_⟩
    show Z32 (G 0) ≤ _
    have : (2 : Int) ^ 169 ≤ 2 ^ 170 := by decide
    omega
  | k + 2, h => by
    obtain ⟨f, a, b⟩ := sumTo_facts hn hG (k + 1) (by omega)
    have hg := hG (k + 1) (by omega)
    obtain ⟨_, c, d⟩ := (film_iff _).1 hg
    have fg := film_fin hg
    have e : sumTo G (k + 2) = fadd (sumTo G (k + 1)) (G (k + 1)) := rfl
    rw [e]
    have hk : ((k + 1 : Nat) : Int) ≤ 4000 := by omega
    have hb : Z32 (sumTo G (k + 1)) ≤ 4000 * 2 ^ 170 := Int.le_trans b (Int.mul_le_mul_of_nonneg_right hk (by decide))
    have herr := fadd_err (t := 160) (by omega) f fg (by
      have : Z32 (sumTo G (k + 1)) + Z32 (G (k + 1)) < 2 ^ 184 := by
        have : (4000 : Int) * 2 ^ 170 + 2 ^ 169 < 2 ^ 184 := by decide
        omega
      omega)
    have h0 := fadd_ge f fg (c := 0) (by decide) (by rw [Z_zero]; omega)
    rw [Z_zero] at h0
    have hup : Z32 (fadd (sumTo G (k + 1)) (G (k + 1))) ≤ ((k + 2 : Nat) : Int) * 2 ^ 170 := by
      have e2 : ((k + 2 : Nat) : Int) * 2 ^ 170 = ((k + 1 : Nat) : Int) * 2 ^ 170 + 2 ^ 170 := by
        rw [show ((k + 2 : Nat) : Int) = ((k + 1 : Nat) : Int) + 1 from by omega, Int.add_mul, Int.one_mul]
      have : (2 : Int) ^ 169 + 2 ^ 160 ≤ 2 ^ 170 := by decide
      omega
    refine ⟨fin_of (num_fadd f fg) (by omega) ?_, h0, hup⟩
    have : ((k + 2 : Nat) : Int) * 2 ^ 170 ≤ 4001 * 2 ^ 170 := Int.mul_le_mul_of_nonneg_right (by omega) (by decide)
    have : (4001 : Int) * 2 ^ 170 ≤ 2 ^ 250 := by decide
    omega
end Go.Proofs.YtekfmjddlemboaaGreatDoor

/-! Contracts of the functions that walk over a train's rollers: FilmsFall, ThickestRoller, InkOn; the reference's and the program's. -/
set_option linter.unusedVariables false
set_option linter.unusedSimpArgs false
namespace Go.Proofs.YtekfmjddlemboaaGreatDoor
open Go.RowKit Ieee

def codeV (ok : Bool) : Int := if ok then 0 else 1
end Go.Proofs.YtekfmjddlemboaaGreatDoor

/-! Sums of films: sum, InkOn; the reference's and the program's. -/
set_option linter.unusedVariables false
set_option linter.unusedSimpArgs false
namespace Go.Proofs.YtekfmjddlemboaaGreatDoor
open Go.RowKit Ieee

theorem sum_any (G : Nat → Nat) (n b o c : Nat) (w : World) (hn : n ≤ 4000) (hG : ∀ i, i < n → filmB (G i) = true) (hc : ∀ i, i < n → w.cell? ⟨b, o + i, none⟩ = some (.float .f32 (G i))) :
    Calls Tryz.prog 47 #[.slice (some ⟨b, o, none⟩) n c] w fun e w' => e = .returned (.float .f32 (sumTo G n)) ∧ w = w' := by
  have HC := Lib.hid hc
  have HG := Lib.hid hG
  have hcs := fun b w => run_conv_same (P := Tryz.prog) 25 25 .f32 b w (by kernel_rfl) (by kernel_rfl)
  clear hc hG
  go_enter Tryz.func47, Tryz.ntmps47
  go_wp2
  go_loop [3, 8] (fun v i => ∃ k : Nat, k ≤ n ∧ i = .int .i64 k ∧ v = .float .f32 (sumTo G k)) (fun _ i => n - (intOf i).toNat)
  case atStart => exact ⟨0, by omega, rfl, rfl⟩
  case round =>
    obtain ⟨k, hk, rfl, rfl⟩ := hrel
    by_cases hlt : k < n
    · have ck := HC.out k hlt
      by_cases h0 : k = 0
      · subst h0
        have ck0 : w.cell? ⟨b, o, none⟩ = some (.float .f32 (G 0)) := by simpa using ck
        go_wp2
        go_round
        case rel => exact ⟨1, by omega, rfl, rfl⟩
        case measure => simp [intOf]; omega
      · have h1 : 1 ≤ k := by omega
        have e1 := fun w => run_fadd (P := Tryz.prog) w 25 (sumTo_facts hn HG.out k hk).1 (film_fin (HG.out k hlt))
        clear h0
        go_wp2
        go_round
        case rel => exact ⟨k + 1, by omega, by go_num, by rw [sumTo_step G h1]⟩
        case measure => simp [intOf]; omega
    · obtain rfl : k = n := by omega
      go_wp2
      go_ret
      exact ⟨rfl, rfl⟩

end Go.Proofs.YtekfmjddlemboaaGreatDoor

/-! Contracts of EmptyTrain and WashTrain, the reference's and the program's, and the laws on them. -/
set_option linter.unusedVariables false
set_option linter.unusedSimpArgs false
namespace Go.Proofs.YtekfmjddlemboaaGreatDoor
open Go.RowKit Ieee

/-- A cell of a block is written. -/
theorem put_row {w : World} {g : Nat} {pre : List Value} {n : Nat} {G : Nat → Nat} {t : TypeId} {k v : Nat} (hk : k < n) (h : w.heap[g]? = some (.cells (row pre n G) t (0, 0))) :
    (w.setCell ⟨g, pre.length + k, none⟩ (.float .f32 v)).heap[g]? = some (.cells (row pre n (upd G k v)) t (0, 0)) := by
  rw [heap_setCell_same w g _ _ t _ h, row_set pre n G hk]
theorem put_mix {w : World} {g : Nat} {pre : List Value} {n : Nat} {F G : Nat → Nat} {t : TypeId} {k : Nat} (hk : k < n) (h : w.heap[g]? = some (.cells (row pre n (mix G F k)) t (0, 0))) :
    (w.setCell ⟨g, pre.length + k, none⟩ (.float .f32 (G k))).heap[g]? = some (.cells (row pre n (mix G F (k + 1))) t (0, 0)) := by
  rw [put_row hk h, mix_step]
theorem put_off {w : World} {g i o : Nat} {v : Value} {r : Option Obj} (h : i ≠ g) (hr : w.heap[i]? = r) : (w.setCell ⟨g, o, none⟩ v).heap[i]? = r := (heap_setCell_other w _ i v h).trans hr
theorem mix_0 (pre : List Value) (n : Nat) (F G : Nat → Nat) : row pre n (mix G F 0) = row pre n F := row_congr _ _ _ (fun i _ => by simp [mix])
end Go.Proofs.YtekfmjddlemboaaGreatDoor

/-! Contracts of SameTrain, the reference's and the program's, and the law on it. -/
set_option linter.unusedVariables false
set_option linter.unusedSimpArgs false
namespace Go.Proofs.YtekfmjddlemboaaGreatDoor
open Go.RowKit Ieee

def sameTo (F G : Nat → Nat) : Nat → Bool
  | 0 => true
  | k + 1 => sameTo F G k && sameN (F k) (G k)
theorem sameTo_no {F G : Nat → Nat} {k n : Nat} (hk : k < n) (h : sameN (F k) (G k) = false) : sameTo F G n = false := by
  induction n with
  | zero => omega
  | succ n ih =>
    by_cases e : k = n
    · subst e; simp [sameTo, h]
    · simp [sameTo, ih (by omega)]

theorem implSame_q {a b : Nat} {v : Bool} (h : sameN a b = v) (ha : a < 2 ^ 32) (hb : b < 2 ^ 32) (w : World) (n : Nat) : Calls Tryz.prog 80 #[.float .f32 a, .float .f32 b] (w.drewN n) fun e w' => e = .returned (.bool v) ∧ ∃ m, w' = w.drewN m := by
  subst h
  exact quiet_same (implSame_any a b _ ha hb)
theorem specSame_q {a b : Nat} {v : Bool} (h : sameN a b = v) (w : World) (n : Nat) : Calls Tryz.prog 55 #[.float .f32 a, .float .f32 b] (w.drewN n) fun e w' => e = .returned (.bool v) ∧ ∃ m, w' = w.drewN m := by
  subst h
  exact quiet_same (specSame_any a b _)

set_option maxHeartbeats 800000 in
theorem sameNumbers_any (F G : Nat → Nat) (n b o b' o' c c' : Nat) (w : World) (hn : n ≤ 64) (hF : ∀ i, i < n → F i < 2 ^ 32) (hG : ∀ i, i < n → G i < 2 ^ 32)
    (hc : ∀ i, i < n → w.cell? ⟨b, o + i, none⟩ = some (.float .f32 (F i))) (hc' : ∀ i, i < n → w.cell? ⟨b', o' + i, none⟩ = some (.float .f32 (G i))) :
    Calls Tryz.prog 50 #[.slice (some ⟨b, o, none⟩) n c, .slice (some ⟨b', o', none⟩) n c'] w fun e w' => e = .returned (.bool (sameTo F G n)) ∧ ∃ m, w' = w.drewN m := by
  have HC := Lib.hid hc
  have HC' := Lib.hid hc'
  have HF := Lib.hid hF
  have HG := Lib.hid hG
  clear hc hc' hF hG
  go_enter Tryz.func50, Tryz.ntmps50
  go_wp2
  go_loopw [8] (fun i wr => ∃ k m : Nat, k ≤ n ∧ i = .int .i64 k ∧ sameTo F G k = true ∧ wr = w.drewN m) (fun i _ => n - (intOf i).toNat)
  case atStart => exact ⟨0, 0, by omega, rfl, rfl, rfl⟩
  case round =>
    obtain ⟨k, m, hk, rfl, hs, hwr⟩ := hrel
    have HW := Lib.hid hwr
    have HS := Lib.hid hs
    clear hs
    by_cases hlt : k < n
    · have ca : wr.cell? ⟨b, o + k, none⟩ = some (.float .f32 (F k)) := by rw [hwr]; exact HC.out k hlt
      have cb : wr.cell? ⟨b', o' + k, none⟩ = some (.float .f32 (G k)) := by rw [hwr]; exact HC'.out k hlt
      clear hwr
      cases hk2 : sameN (F k) (G k)
      · go_wp2
        go_quiet ((go_at_call 80; exact implSame_q hk2 (HF.out k hlt) (HG.out k hlt) _ _))
        go_wp2
        go_ret
        exact ⟨by rw [sameTo_no hlt hk2]; rfl, _, by rw [HW.out, World.drewN_drewN]⟩
      · go_wp2
        go_quiet ((go_at_call 80; exact implSame_q hk2 (HF.out k hlt) (HG.out k hlt) _ _))
        go_wp2
        go_roundw
        case rel => exact ⟨k + 1, _, by omega, by go_num, by simp [sameTo, HS.out, hk2], by rw [HW.out, World.drewN_drewN]⟩
        case measure => simp [intOf]; omega
    · obtain rfl : k = n := by omega
      clear hwr
      go_wp2
      go_ret
      exact ⟨by rw [HS.out]; rfl, m, HW.out⟩

end Go.Proofs.YtekfmjddlemboaaGreatDoor

/-! Contracts of MixTrains and AddRoller, the reference's and the program's. -/
set_option linter.unusedVariables false
set_option linter.unusedSimpArgs false
namespace Go.Proofs.YtekfmjddlemboaaGreatDoor
open Go.RowKit Ieee

/-- A number of no sign that is at most c. -/
def Up (c a : Nat) : Prop := Fin32 a ∧ 0 ≤ Z32 a ∧ Z32 a ≤ Z32 c
theorem put_pre {w : World} {g : Nat} {pre : List Value} {n : Nat} {G : Nat → Nat} {t : TypeId} {i : Nat} {v : Value} (hi : i < pre.length) (h : w.heap[g]? = some (.cells (row pre n G) t (0, 0))) :
    (w.setCell ⟨g, i, none⟩ v).heap[g]? = some (.cells (row (pre.set i v) n G) t (0, 0)) := by
  rw [heap_setCell_same w g _ _ t _ h, row_setpre pre n G v hi]
theorem i8_small {n : Int} (h1 : -128 ≤ n) (h2 : n ≤ 127) : IntKind.i8.wrap n = n := IntWalk.i8_in n ⟨h1, h2⟩
end Go.Proofs.YtekfmjddlemboaaGreatDoor

/-! Contracts of l02Turn and turn. -/
set_option linter.unusedVariables false
set_option linter.unusedSimpArgs false
namespace Go.Proofs.YtekfmjddlemboaaGreatDoor
open Go.RowKit Ieee

@[go_sem] theorem row_t3 (a b c : Value) (F : Nat → Nat) : (row [a, b, c] 12 F)[3]? = some (.float .f32 (F 0)) := row_get [a, b, c] 12 F (i := 0) (by omega)
@[go_sem] theorem row_t4 (a b c : Value) (F : Nat → Nat) : (row [a, b, c] 12 F)[4]? = some (.float .f32 (F 1)) := row_get [a, b, c] 12 F (i := 1) (by omega)
@[go_sem] theorem row_ts3 (a b c : Value) (F : Nat → Nat) (v : Nat) : (row [a, b, c] 12 F).setIfInBounds 3 (.float .f32 v) = row [a, b, c] 12 (upd F 0 v) := row_set [a, b, c] 12 F (i := 0) (by omega)
@[go_sem] theorem row_ts4 (a b c : Value) (F : Nat → Nat) (v : Nat) : (row [a, b, c] 12 F).setIfInBounds 4 (.float .f32 v) = row [a, b, c] 12 (upd F 1 v) := row_set [a, b, c] 12 F (i := 1) (by omega)
@[go_sem] theorem upd_same (F : Nat → Nat) (i v : Nat) : upd F i v i = v := by simp [upd]
@[go_sem] theorem upd_01 (F : Nat → Nat) (v : Nat) : upd F 0 v 1 = F 1 := by simp [upd]
@[go_sem] theorem upd_00 (F : Nat → Nat) (v u : Nat) : upd (upd F 0 v) 0 u = upd F 0 u := by funext j; unfold upd; split <;> rfl

end Go.Proofs.YtekfmjddlemboaaGreatDoor

/-! Plates: which numbers are cells', valid plates, what is done cell by cell; plain, no program in sight. -/
set_option linter.unusedVariables false
set_option linter.unusedSimpArgs false
namespace Go.Proofs.YtekfmjddlemboaaGreatDoor
open Go.RowKit Ieee

/-- A plate's cells. -/
abbrev ppre (x y : Int) : List Value := [.int .i8 x, .int .i8 y]
abbrev plate (x y : Int) (F : Nat → Nat) : Array Value := row (ppre x y) 64 F

/-- Is number i that of a cell, where a cells are wide and b are high? -/
def isC (a b i : Nat) : Bool := decide (i % 8 < a) && decide (i / 8 < b)
/-- How many cells lie before number i. -/
def cntC (a b : Nat) : Nat → Nat
  | 0 => 0
  | i + 1 => cntC a b i + (if isC a b i then 1 else 0)
/-- The number of the k-th cell. -/
def cellAt (a k : Nat) : Nat := k % a + 8 * (k / a)
/-- The number that lies where i lies in the mirror. -/
def mirr (a i : Nat) : Nat := i + a - 1 - 2 * (i % 8)

theorem cells_at : ∀ a, a < 9 → ∀ b, b < 9 → ∀ i, i < 64 → isC a b i = true → cellAt a (cntC a b i) = i ∧ cntC a b i < a * b := by decide +kernel
theorem cells_of : ∀ a, a < 9 → ∀ b, b < 9 → ∀ k, k < 64 → k < a * b → cellAt a k < 64 ∧ isC a b (cellAt a k) = true ∧ cntC a b (cellAt a k) = k := by decide +kernel
theorem cells_all : ∀ a, a < 9 → ∀ b, b < 9 → cntC a b 64 = a * b ∧ a * b ≤ 64 := by decide +kernel
theorem mirr_of1 : ∀ a, a < 9 → ∀ b, b < 9 → ∀ i, i < 64 → isC a b i = true → mirr a i < 64 ∧ isC a b (mirr a i) = true := by decide +kernel
theorem mirr_of2 : ∀ a, a < 9 → ∀ b, b < 9 → ∀ i, i < 64 → isC a b i = true → mirr a (mirr a i) = i := by decide +kernel
theorem mirr_of (a : Nat) (ha : a < 9) (b : Nat) (hb : b < 9) (i : Nat) (hi : i < 64) (h : isC a b i = true) : mirr a i < 64 ∧ isC a b (mirr a i) = true ∧ mirr a (mirr a i) = i :=
  ⟨(mirr_of1 a ha b hb i hi h).1, (mirr_of1 a ha b hb i hi h).2, mirr_of2 a ha b hb i hi h⟩
theorem cnt_step (a b i : Nat) (h : isC a b i = true) : cntC a b (i + 1) = cntC a b i + 1 := by simp [cntC, h]
theorem cnt_skip (a b i : Nat) (h : isC a b i = false) : cntC a b (i + 1) = cntC a b i := by simp [cntC, h]
theorem isC_iff {a b i : Nat} : isC a b i = true ↔ i % 8 < a ∧ i / 8 < b := by simp [isC]
theorem isC_no {a b i : Nat} : isC a b i = false ↔ ¬ (i % 8 < a ∧ i / 8 < b) := by
  rw [← isC_iff]; simp
theorem cell_xy {a b X Y : Nat} (ha : a ≤ 8) (h1 : X < a) (h2 : Y < b) : isC a b (X + 8 * Y) = true := by
  rw [isC_iff]; omega
theorem cellAt_xy {a X Y : Nat} (h1 : X < a) : cellAt a (a * Y + X) = X + 8 * Y := by
  unfold cellAt
  rw [Nat.mul_add_mod, Nat.mod_eq_of_lt h1, Nat.mul_add_div (by omega), Nat.div_eq_of_lt h1, Nat.add_zero]

/-- A plate in which the first k cells have turned. -/
def mapC (a b : Nat) (g G : Nat → Nat) (k : Nat) : Nat → Nat := fun j => if isC a b j && decide (cntC a b j < k) then g j else G j
theorem mapC_0 (a b : Nat) (g G : Nat → Nat) : mapC a b g G 0 = G := by funext j; simp [mapC]
/-- A plate in which all cells have turned. -/
def mapA (a b : Nat) (g G : Nat → Nat) : Nat → Nat := fun j => if isC a b j then g j else G j
section
variable {a b : Nat} (ha : a < 9) (hb : b < 9) (g G : Nat → Nat)
include ha hb
theorem mapC_step {k : Nat} (hk : k < a * b) (pre : List Value) : row pre 64 (upd (mapC a b g G k) (cellAt a k) (g (cellAt a k))) = row pre 64 (mapC a b g G (k + 1)) := by
  have h64 := (cells_all a ha b hb).2
  obtain ⟨c1, c2, c3⟩ := cells_of a ha b hb k (by omega) hk
  apply row_congr
  intro j hj
  unfold upd mapC
  by_cases h : j = cellAt a k
  · subst h
    simp [c2, c3]
  · rw [if_neg h]
    cases hc : isC a b j
    · simp
    · obtain ⟨d1, d2⟩ := cells_at a ha b hb j hj hc
      by_cases e : cntC a b j = k
      · rw [e] at d1; exact absurd d1.symm h
      · have : (cntC a b j < k + 1) ↔ (cntC a b j < k) := by omega
        simp [this]
theorem mapC_step' {i : Nat} (hi : i < 64) (hc : isC a b i = true) (pre : List Value) : row pre 64 (upd (mapC a b g G (cntC a b i)) i (g i)) = row pre 64 (mapC a b g G (cntC a b (i + 1))) := by
  obtain ⟨d1, d2⟩ := cells_at a ha b hb i hi hc
  have := mapC_step ha hb g G d2 pre
  rw [d1] at this
  rw [this, cnt_step a b i hc]
theorem mapC_end (pre : List Value) : row pre 64 (mapC a b g G (a * b)) = row pre 64 (mapA a b g G) := by
  apply row_congr
  intro j hj
  unfold mapC mapA
  cases hc : isC a b j
  · simp
  · have := (cells_at a ha b hb j hj hc).2
    simp [this]
omit ha hb in
theorem mapC_keep {k i : Nat} (hi : i < 64) (h : cntC a b i = k) : mapC a b g G k i = G i := by
  unfold mapC; simp [h]
end
/-- The mirror of which the cells below i are laid. -/
def mirC (a b : Nat) (F : Nat → Nat) (i : Nat) : Nat → Nat := fun j => if isC a b j && decide (mirr a j < i) then F (mirr a j) else 0
theorem mirC_0 (a b : Nat) (F : Nat → Nat) : mirC a b F 0 = fun _ => 0 := by funext j; simp [mirC]
section
variable {a b : Nat} (ha : a < 9) (hb : b < 9) (F : Nat → Nat)
include ha hb
theorem mirC_step {i : Nat} (hi : i < 64) (hc : isC a b i = true) (pre : List Value) : row pre 64 (upd (mirC a b F i) (mirr a i) (F i)) = row pre 64 (mirC a b F (i + 1)) := by
  obtain ⟨m1, m2, m3⟩ := mirr_of a ha b hb i hi hc
  apply row_congr
  intro j hj
  unfold upd mirC
  by_cases h : j = mirr a i
  · subst h
    rw [if_pos rfl, m2, m3]; simp
  · rw [if_neg h]
    cases hcj : isC a b j
    · simp
    · obtain ⟨n1, n2, n3⟩ := mirr_of a ha b hb j hj hcj
      have : mirr a j ≠ i := fun e => h (by rw [← e, n3])
      have : (mirr a j < i + 1) ↔ (mirr a j < i) := by omega
      simp [this]
theorem mirC_skip {i : Nat} (hi : i < 64) (hc : isC a b i = false) (pre : List Value) : row pre 64 (mirC a b F i) = row pre 64 (mirC a b F (i + 1)) := by
  apply row_congr
  intro j hj
  unfold mirC
  cases hcj : isC a b j
  · simp
  · obtain ⟨n1, n2, n3⟩ := mirr_of a ha b hb j hj hcj
    have : mirr a j ≠ i := fun e => by rw [e, hc] at n2; cases n2
    have : (mirr a j < i + 1) ↔ (mirr a j < i) := by omega
    simp [this]
theorem mirC_end (pre : List Value) : row pre 64 (mirC a b F 64) = row pre 64 (mapA a b (fun i => F (mirr a i)) (fun _ => 0)) := by
  apply row_congr
  intro j hj
  unfold mirC mapA
  cases hcj : isC a b j
  · simp
  · have := (mirr_of a ha b hb j hj hcj).1
    simp [this]
end

/-! ### valid plates -/
def dotB (a b : Nat) (F : Nat → Nat) (i : Nat) : Bool := if isC a b i then partB (F i) else zeroB (F i)
def dotsB (a b : Nat) (F : Nat → Nat) : Nat → Bool
  | 0 => true
  | k + 1 => dotsB a b F k && dotB a b F k
def sizeB (x y : Int) : Bool := (decide (1 ≤ x) && decide (x ≤ 8)) && (decide (1 ≤ y) && decide (y ≤ 8))
def plateB (x y : Int) (F : Nat → Nat) : Bool := sizeB x y && dotsB x.toNat y.toNat F 64
theorem dotsB_le {a b : Nat} {F : Nat → Nat} {n : Nat} (h : dotsB a b F n = true) : ∀ k, k < n → dotB a b F k = true := by
  induction n with
  | zero => intro k hk; omega
  | succ n ih =>
    simp only [dotsB, Bool.and_eq_true] at h
    intro k hk
    by_cases e : k = n
    · subst e; exact h.2
    · exact ih h.1 k (by omega)
theorem dotsB_no {a b : Nat} {F : Nat → Nat} {n k : Nat} (hk : k < n) (h : dotB a b F k = false) : dotsB a b F n = false := by
  cases e : dotsB a b F n
  · rfl
  · have := dotsB_le e k hk
    rw [h] at this; cases this
theorem sizeB_iff {x y : Int} : sizeB x y = true ↔ (1 ≤ x ∧ x ≤ 8) ∧ 1 ≤ y ∧ y ≤ 8 := by simp [sizeB]
theorem plateB_size {x y : Int} {F : Nat → Nat} (h : plateB x y F = true) : ∃ a b : Nat, x = a ∧ y = b ∧ 1 ≤ a ∧ a < 9 ∧ 1 ≤ b ∧ b < 9 ∧ (∀ i, i < 64 → isC a b i = true → partB (F i) = true) ∧ (∀ i, i < 64 → isC a b i = false → zeroB (F i) = true) := by
  unfold plateB at h
  simp only [Bool.and_eq_true] at h
  obtain ⟨⟨h1, h2⟩, h3, h4⟩ := (sizeB_iff.1 h.1)
  have hd := dotsB_le h.2
  refine ⟨x.toNat, y.toNat, by omega, by omega, by omega, by omega, by omega, by omega, fun i hi hc => ?_, fun i hi hc => ?_⟩
  · have := hd i hi
    unfold dotB at this
    rwa [if_pos hc] at this
  · have := hd i hi
    unfold dotB at this
    rwa [if_neg (by rw [hc]; simp)] at this
theorem zero_num {z : Nat} (h : zeroB z = true) : ¬ Flt.NaN single z := by
  intro hn
  unfold zeroB at h
  rw [order_nan .f32 (Or.inl hn)] at h
  cases h
end Go.Proofs.YtekfmjddlemboaaGreatDoor

/-! Cells of plates and valid plates, as the reference and the program ask it. -/
set_option linter.unusedVariables false
set_option linter.unusedSimpArgs false
namespace Go.Proofs.YtekfmjddlemboaaGreatDoor
open Go.RowKit Ieee

theorem specIn_yes {n lo hi : Int} (h1 : lo ≤ n) (h2 : n ≤ hi) (w : World) : Calls Tryz.prog 78 #[.int .i64 n, .int .i64 lo, .int .i64 hi] w fun e w' => e = .returned (.bool true) ∧ w = w' := by
  go_enter Tryz.func78, Tryz.ntmps78
  go_wp2
  go_ret
  exact ⟨rfl, rfl⟩
theorem specIn_lo {n lo hi : Int} (h1 : n < lo) (w : World) : Calls Tryz.prog 78 #[.int .i64 n, .int .i64 lo, .int .i64 hi] w fun e w' => e = .returned (.bool false) ∧ w = w' := by
  go_enter Tryz.func78, Tryz.ntmps78
  go_wp2
  go_ret
  exact ⟨rfl, rfl⟩
theorem specIn_hi {n lo hi : Int} (h1 : lo ≤ n) (h2 : hi < n) (w : World) : Calls Tryz.prog 78 #[.int .i64 n, .int .i64 lo, .int .i64 hi] w fun e w' => e = .returned (.bool false) ∧ w = w' := by
  have h3 : decide (n ≤ hi) = false := by simp; omega
  go_enter Tryz.func78, Tryz.ntmps78
  go_wp2
  go_ret
  exact ⟨rfl, rfl⟩
theorem specIs_any {a b i : Nat} (ha : a < 9) (hb : b < 9) (hi : i < 64) (w : World) (B : Nat) (c0 : w.cell? ⟨B, 0, none⟩ = some (.int .i8 a)) (c1 : w.cell? ⟨B, 1, none⟩ = some (.int .i8 b)) :
    Calls Tryz.prog 46 #[.pointer (some ⟨B, 0, none⟩), .int .i64 i] w fun e w' => e = .returned (.bool (isC a b i)) ∧ w = w' := by
  have i0 : (0 : Int) ≤ i := by omega
  have i63 : (i : Int) ≤ 63 := by omega
  unfold isC
  by_cases h1 : i % 8 < a
  · by_cases h2 : i / 8 < b
    · have g1 : (i : Int) % 8 < a := by omega
      have g2 : (i : Int) / 8 < b := by omega
      have e1 : decide (i % 8 < a) = true := by simpa using h1
      have e2 : decide (i / 8 < b) = true := by simpa using h2
      rw [e1, e2]
      clear e1 e2 h1 h2 hi
      go_enter Tryz.func46, Tryz.ntmps46
      go_wp2_with (first | (go_at_call 78; (with_reducible refine (specIn_yes (by omega) (by omega) _).mono ?_); rintro e w' ⟨rfl, rfl⟩) | go_in)
      go_ret
      exact ⟨rfl, rfl⟩
    · have g1 : (i : Int) % 8 < a := by omega
      have g2 : ¬ (i : Int) / 8 < b := by omega
      have e1 : decide (i % 8 < a) = true := by simpa using h1
      have e2 : decide (i / 8 < b) = false := by simp; omega
      have g3 : decide ((i : Int) / 8 < b) = false := by simp; omega
      rw [e1, e2]
      clear e1 e2 h1 h2 hi g2
      go_enter Tryz.func46, Tryz.ntmps46
      go_wp2_with (first | (go_at_call 78; (with_reducible refine (specIn_yes (by omega) (by omega) _).mono ?_); rintro e w' ⟨rfl, rfl⟩) | go_in)
      go_ret
      exact ⟨rfl, rfl⟩
  · have g1 : decide ((i : Int) % 8 < a) = false := by simp; omega
    have e1 : decide (i % 8 < a) = false := by simpa using h1
    rw [e1]
    clear e1 h1 hi
    go_enter Tryz.func46, Tryz.ntmps46
    go_wp2_with (first | (go_at_call 78; (with_reducible refine (specIn_yes (by omega) (by omega) _).mono ?_); rintro e w' ⟨rfl, rfl⟩) | go_in)
    go_ret
    exact ⟨rfl, rfl⟩

/-- Does a plate of a by b cells have the cell X, Y? -/
def inXY (X Y : Int) (a b : Nat) : Bool := (decide (0 ≤ X) && decide (X < a)) && (decide (0 ≤ Y) && decide (Y < b))
theorem implIs_any (X Y : Int) (a b : Nat) (ha : a < 9) (hb : b < 9) (w : World) (B : Nat) (c0 : w.cell? ⟨B, 0, none⟩ = some (.int .i8 a)) (c1 : w.cell? ⟨B, 1, none⟩ = some (.int .i8 b)) :
    Calls Tryz.prog 52 #[.pointer (some ⟨B, 0, none⟩), .int .i64 X, .int .i64 Y] w fun e w' => e = .returned (.bool (inXY X Y a b)) ∧ w = w' := by
  unfold inXY
  by_cases h1 : 0 ≤ X
  · by_cases h2 : X < a
    · by_cases h3 : 0 ≤ Y
      · by_cases h4 : Y < b
        · rw [show decide (0 ≤ X) = true from by simpa using h1, show decide (X < a) = true from by simpa using h2, show decide (0 ≤ Y) = true from by simpa using h3, show decide (Y < b) = true from by simpa using h4]
          go_enter Tryz.func52, Tryz.ntmps52
          go_wp2
          go_ret
          exact ⟨rfl, rfl⟩
        · rw [show decide (0 ≤ X) = true from by simpa using h1, show decide (X < a) = true from by simpa using h2, show decide (0 ≤ Y) = true from by simpa using h3, show decide (Y < b) = false from by simpa using h4]
          have g : decide (Y < b) = false := by simpa using h4
          clear h4
          go_enter Tryz.func52, Tryz.ntmps52
          go_wp2
          go_ret
          exact ⟨rfl, rfl⟩
      · rw [show decide (0 ≤ X) = true from by simpa using h1, show decide (X < a) = true from by simpa using h2, show decide (0 ≤ Y) = false from by simpa using h3]
        have g : decide (0 ≤ Y) = false := by simpa using h3
        clear h3
        go_enter Tryz.func52, Tryz.ntmps52
        go_wp2
        go_ret
        exact ⟨rfl, rfl⟩
    · rw [show decide (0 ≤ X) = true from by simpa using h1, show decide (X < a) = false from by simpa using h2]
      have g : decide (X < a) = false := by simpa using h2
      clear h2
      go_enter Tryz.func52, Tryz.ntmps52
      go_wp2
      go_ret
      exact ⟨rfl, rfl⟩
  · rw [show decide (0 ≤ X) = false from by simpa using h1]
    have g : decide (0 ≤ X) = false := by simpa using h1
    clear h1
    go_enter Tryz.func52, Tryz.ntmps52
    go_wp2
    go_ret
    exact ⟨rfl, rfl⟩

set_option maxHeartbeats 1600000 in
theorem specPOk0 (a b : Nat) (F : Nat → Nat) (w : World) (ha1 : 1 ≤ a) (ha : a < 9) (hb1 : 1 ≤ b) (hb : b < 9) (B : Nat) (hB : w.heap[B]? = some (.cells (plate a b F) 29 (0, 0))) : Calls Tryz.prog 45 #[.pointer (some ⟨B, 0, none⟩)] w fun e w' => e = .returned (.bool (dotsB a b F 64)) ∧ w = w' := by
  have c0 : w.cell? ⟨B, 0, none⟩ = some (.int .i8 a) := (cell_of_row w B 0 _ _ _ hB).trans (row_g0 _ _ _ _)
  have c1 : w.cell? ⟨B, 1, none⟩ = some (.int .i8 b) := (cell_of_row w B 1 _ _ _ hB).trans (row_g1 _ _ _ _ _)
  have HB := Lib.hid hB
  clear hB
  go_enter Tryz.func45, Tryz.ntmps45
  go_wp2_with (first | (go_at_call 46; (with_reducible refine (hIs _ (by assumption) (by assumption)).mono ?_); rintro e w' ⟨rfl, rfl⟩) | (go_at_call 79; (with_reducible refine (specPart_any _ _).mono ?_); rintro e w' ⟨rfl, rfl⟩) | (go_at_call 78; (with_reducible refine (specIn_yes (by omega) (by omega) _).mono ?_); rintro e w' ⟨rfl, rfl⟩) | go_in)
  · skip
    go_loop [3] (fun i => ∃ k : Nat, k ≤ 64 ∧ i = .int .i64 k ∧ dotsB a b F k = true) (fun i => 64 - (intOf i).toNat)
    case atStart => exact ⟨0, by omega, rfl, rfl⟩
    case round =>
      obtain ⟨k, hk, rfl, hc⟩ := hrel
      have HC := Lib.hid hc
      clear hc
      by_cases hlt : k < 64
      · have cf : w.cell? ⟨B, 2 + k, none⟩ = some (.float .f32 (F k)) := (cell_of_row w B (2 + k) _ _ _ HB.out).trans (row_k2 _ _ _ _ hlt)
        cases hr : isC a b k
        · cases hz : zeroB (F k)
          · obtain ⟨z1, z2⟩ := zero_no hz
            have HZ := Lib.hid hz
            have HR := Lib.hid hr
            have hIs : ∀ w : World, w.cell? ⟨B, 0, none⟩ = some (.int .i8 a) → w.cell? ⟨B, 1, none⟩ = some (.int .i8 b) → Calls Tryz.prog 46 #[.pointer (some ⟨B, 0, none⟩), .int .i64 k] w fun e w' => e = .returned (.bool false) ∧ w = w' := fun w c0 c1 => by have := specIs_any ha hb hlt w B c0 c1; rwa [HR.out] at this
            clear hz hr
            go_wp2_with (first | (go_at_call 46; (with_reducible refine (hIs _ (by assumption) (by assumption)).mono ?_); rintro e w' ⟨rfl, rfl⟩) | (go_at_call 79; (with_reducible refine (specPart_any _ _).mono ?_); rintro e w' ⟨rfl, rfl⟩) | (go_at_call 78; (with_reducible refine (specIn_yes (by omega) (by omega) _).mono ?_); rintro e w' ⟨rfl, rfl⟩) | go_in)
            go_ret
            exact ⟨by rw [dotsB_no hlt (by simp [dotB, HR.out, HZ.out])]; rfl, rfl⟩
          · have z1 := zero_yes hz
            have HZ := Lib.hid hz
            have HR := Lib.hid hr
            have hIs : ∀ w : World, w.cell? ⟨B, 0, none⟩ = some (.int .i8 a) → w.cell? ⟨B, 1, none⟩ = some (.int .i8 b) → Calls Tryz.prog 46 #[.pointer (some ⟨B, 0, none⟩), .int .i64 k] w fun e w' => e = .returned (.bool false) ∧ w = w' := fun w c0 c1 => by have := specIs_any ha hb hlt w B c0 c1; rwa [HR.out] at this
            clear hz hr
            go_wp2_with (first | (go_at_call 46; (with_reducible refine (hIs _ (by assumption) (by assumption)).mono ?_); rintro e w' ⟨rfl, rfl⟩) | (go_at_call 79; (with_reducible refine (specPart_any _ _).mono ?_); rintro e w' ⟨rfl, rfl⟩) | (go_at_call 78; (with_reducible refine (specIn_yes (by omega) (by omega) _).mono ?_); rintro e w' ⟨rfl, rfl⟩) | go_in)
            go_round
            case rel => exact ⟨k + 1, by omega, by go_num, by simp [dotsB, dotB, HC.out, HR.out, HZ.out]⟩
            case measure => simp [intOf]; omega
        · cases hf : partB (F k)
          · have HR := Lib.hid hr
            have hIs : ∀ w : World, w.cell? ⟨B, 0, none⟩ = some (.int .i8 a) → w.cell? ⟨B, 1, none⟩ = some (.int .i8 b) → Calls Tryz.prog 46 #[.pointer (some ⟨B, 0, none⟩), .int .i64 k] w fun e w' => e = .returned (.bool true) ∧ w = w' := fun w c0 c1 => by have := specIs_any ha hb hlt w B c0 c1; rwa [HR.out] at this
            clear hr
            go_wp2_with (first | (go_at_call 46; (with_reducible refine (hIs _ (by assumption) (by assumption)).mono ?_); rintro e w' ⟨rfl, rfl⟩) | (go_at_call 79; (with_reducible refine (specPart_any _ _).mono ?_); rintro e w' ⟨rfl, rfl⟩) | (go_at_call 78; (with_reducible refine (specIn_yes (by omega) (by omega) _).mono ?_); rintro e w' ⟨rfl, rfl⟩) | go_in)
            go_ret
            exact ⟨by rw [dotsB_no hlt (by simp [dotB, HR.out, hf])]; rfl, rfl⟩
          · have HR := Lib.hid hr
            have hIs : ∀ w : World, w.cell? ⟨B, 0, none⟩ = some (.int .i8 a) → w.cell? ⟨B, 1, none⟩ = some (.int .i8 b) → Calls Tryz.prog 46 #[.pointer (some ⟨B, 0, none⟩), .int .i64 k] w fun e w' => e = .returned (.bool true) ∧ w = w' := fun w c0 c1 => by have := specIs_any ha hb hlt w B c0 c1; rwa [HR.out] at this
            clear hr
            go_wp2_with (first | (go_at_call 46; (with_reducible refine (hIs _ (by assumption) (by assumption)).mono ?_); rintro e w' ⟨rfl, rfl⟩) | (go_at_call 79; (with_reducible refine (specPart_any _ _).mono ?_); rintro e w' ⟨rfl, rfl⟩) | (go_at_call 78; (with_reducible refine (specIn_yes (by omega) (by omega) _).mono ?_); rintro e w' ⟨rfl, rfl⟩) | go_in)
            go_round
            case rel => exact ⟨k + 1, by omega, by go_num, by simp [dotsB, dotB, HC.out, HR.out, hf]⟩
            case measure => simp [intOf]; omega
      · obtain rfl : k = 64 := by omega
        go_wp2
        go_ret
        exact ⟨by rw [HC.out]; rfl, rfl⟩

set_option maxHeartbeats 1600000 in
theorem specPOk_any (x y : Int) (F : Nat → Nat) (w : World) (lx : -128 ≤ x) (ux : x ≤ 127) (ly : -128 ≤ y) (uy : y ≤ 127) (B : Nat) (hB : w.heap[B]? = some (.cells (plate x y F) 29 (0, 0))) : Calls Tryz.prog 45 #[.pointer (some ⟨B, 0, none⟩)] w fun e w' => e = .returned (.bool (plateB x y F)) ∧ w = w' := by
  by_cases h1 : 1 ≤ x ∧ x ≤ 8
  · by_cases h2 : 1 ≤ y ∧ y ≤ 8
    · obtain ⟨a, rfl⟩ : ∃ a : Nat, x = a := ⟨x.toNat, by omega⟩
      obtain ⟨b, rfl⟩ : ∃ b : Nat, y = b := ⟨y.toNat, by omega⟩
      have := specPOk0 a b F w (by omega) (by omega) (by omega) (by omega) B hB
      have e : plateB a b F = dotsB a b F 64 := by unfold plateB; rw [sizeB_iff.2 ⟨h1, h2⟩]; simp
      rwa [e]
    · have hS : plateB x y F = false := by unfold plateB; rw [show sizeB x y = false from by cases h : sizeB x y; rfl; exact absurd (sizeB_iff.1 h).2 h2]; rfl
      rw [hS]
      clear hS
      have c0 : w.cell? ⟨B, 0, none⟩ = some (.int .i8 x) := (cell_of_row w B 0 _ _ _ hB).trans (row_g0 _ _ _ _)
      have c1 : w.cell? ⟨B, 1, none⟩ = some (.int .i8 y) := (cell_of_row w B 1 _ _ _ hB).trans (row_g1 _ _ _ _ _)
      obtain ⟨x1, x2⟩ := h1
      clear hB
      by_cases hy : 1 ≤ y
      · have hy2 : 8 < y := by omega
        clear h2
        go_enter Tryz.func45, Tryz.ntmps45
        go_wp2_with (first | (go_at_call 78; (with_reducible refine (specIn_yes (by omega) (by omega) _).mono ?_); rintro e w' ⟨rfl, rfl⟩) | (go_at_call 78; (with_reducible refine (specIn_hi (by omega) (by omega) _).mono ?_); rintro e w' ⟨rfl, rfl⟩) | go_in)
        go_ret
        exact ⟨rfl, rfl⟩
      · have hy2 : y < 1 := by omega
        clear h2
        go_enter Tryz.func45, Tryz.ntmps45
        go_wp2_with (first | (go_at_call 78; (with_reducible refine (specIn_yes (by omega) (by omega) _).mono ?_); rintro e w' ⟨rfl, rfl⟩) | (go_at_call 78; (with_reducible refine (specIn_lo (by omega) _).mono ?_); rintro e w' ⟨rfl, rfl⟩) | go_in)
        go_ret
        exact ⟨rfl, rfl⟩
  · have hS : plateB x y F = false := by unfold plateB; rw [show sizeB x y = false from by cases h : sizeB x y; rfl; exact absurd (sizeB_iff.1 h).1 h1]; rfl
    rw [hS]
    clear hS
    have c0 : w.cell? ⟨B, 0, none⟩ = some (.int .i8 x) := (cell_of_row w B 0 _ _ _ hB).trans (row_g0 _ _ _ _)
    clear hB
    by_cases hy : 1 ≤ x
    · have hy2 : 8 < x := by omega
      clear h1
      go_enter Tryz.func45, Tryz.ntmps45
      go_wp2_with (first | (go_at_call 78; (with_reducible refine (specIn_hi (by omega) (by omega) _).mono ?_); rintro e w' ⟨rfl, rfl⟩) | go_in)
      go_ret
      exact ⟨rfl, rfl⟩
    · have hy2 : x < 1 := by omega
      clear h1
      go_enter Tryz.func45, Tryz.ntmps45
      go_wp2_with (first | (go_at_call 78; (with_reducible refine (specIn_lo (by omega) _).mono ?_); rintro e w' ⟨rfl, rfl⟩) | go_in)
      go_ret
      exact ⟨rfl, rfl⟩

set_option maxHeartbeats 1600000 in
theorem implPOk0 (a b : Nat) (F : Nat → Nat) (w0 : World) (ha1 : 1 ≤ a) (ha : a < 9) (hb1 : 1 ≤ b) (hb : b < 9) : Calls Tryz.prog 16 #[.agg (plate a b F)] w0 fun e w' => e = .returned (.bool (dotsB a b F 64)) ∧ Below w0.heap.size w0 w' := by
  go_enter Tryz.func16, Tryz.ntmps16
  go_wp2_with (first | (go_at_call 52; (with_reducible refine (hIs _ ?_ ?_).mono ?_); (focus (go_simp)); (focus (go_simp)); rintro e w' ⟨rfl, rfl⟩) | (go_at_call 53; (with_reducible refine (implPart_any _ _).mono ?_); rintro e w' ⟨rfl, rfl⟩) | ((with_reducible refine at_load 27 ?_); refine wpList_load_part rfl 27 _ rfl _ 2 64 rfl _ _ _ _ (by repeat (first | (with_reducible assumption) | ((with_reducible refine blk_new _ _ _ ?_); focus (simp; done)) | ((with_reducible refine blk_old _ _ _ ?_ ?_); focus (simp; done)) | ((with_reducible refine blk_old _ _ _ ?_ ?_); focus (first | omega | (simp; omega))) | ((with_reducible apply blk_set); focus (simp; done)) | ((with_reducible refine blk_off _ _ _ _ ?_ ?_); focus (simp; done)) | ((with_reducible refine blk_offc _ _ _ _ ?_ ?_); focus (first | (simp; done) | omega | (simp; omega))) | ((with_reducible refine blk_off _ _ _ _ ?_ ?_); focus (first | omega | (simp; omega))) | (with_reducible refine blk_drew _ _ ?_) | ((with_reducible refine blk_below (by assumption) ?_ ?_); focus (simp; done)) | ((with_reducible refine blk_below (by assumption) ?_ ?_); focus (first | omega | (simp; omega))))) Tryz.underlying27 rfl (by kernel_rfl) (by simp [row_size]) _ (row_tail [_, _] 64 _) ?_) | go_in)
  · skip
    go_loop [25] (fun i => ∃ k : Nat, k ≤ 64 ∧ i = .int .i64 k ∧ dotsB a b F k = true) (fun i => 64 - (intOf i).toNat)
    case atStart => exact ⟨0, by omega, rfl, rfl⟩
    case round =>
      obtain ⟨k, hk, rfl, hc⟩ := hrel
      have HC := Lib.hid hc
      clear hc
      by_cases hlt : k < 64
      · have ix := fun w => run_index_row (P := Tryz.prog) w 27 25 64 F k hlt Tryz.underlying27 Tryz.underlying25 (by kernel_rfl)
        have k0 : (0 : Int) ≤ k := by omega
        cases hr : isC a b k
        · cases hz : zeroB (F k)
          · obtain ⟨z1, z2⟩ := zero_no hz
            have HZ := Lib.hid hz
            have HR := Lib.hid hr
            have hIs : ∀ w : World, w.cell? ⟨w0.heap.size, 0, none⟩ = some (.int .i8 a) → w.cell? ⟨w0.heap.size, 1, none⟩ = some (.int .i8 b) → Calls Tryz.prog 52 #[.pointer (some ⟨w0.heap.size, 0, none⟩), .int .i64 ((k : Int) % 8), .int .i64 ((k : Int) / 8)] w fun e w' => e = .returned (.bool false) ∧ w = w' := fun w c0 c1 => by have := implIs_any ((k : Int) % 8) ((k : Int) / 8) a b ha hb w w0.heap.size c0 c1; rwa [show inXY ((k : Int) % 8) ((k : Int) / 8) a b = false from by have := HR.out; first | (rw [isC_no] at this; unfold inXY; simp; omega) | (rw [isC_iff] at this; unfold inXY; simp; omega)] at this
            clear hz hr
            go_wp2_with (first | (go_at_call 52; (with_reducible refine (hIs _ ?_ ?_).mono ?_); (focus (go_simp)); (focus (go_simp)); rintro e w' ⟨rfl, rfl⟩) | (go_at_call 53; (with_reducible refine (implPart_any _ _).mono ?_); rintro e w' ⟨rfl, rfl⟩) | ((with_reducible refine at_load 27 ?_); refine wpList_load_part rfl 27 _ rfl _ 2 64 rfl _ _ _ _ (by repeat (first | (with_reducible assumption) | ((with_reducible refine blk_new _ _ _ ?_); focus (simp; done)) | ((with_reducible refine blk_old _ _ _ ?_ ?_); focus (simp; done)) | ((with_reducible refine blk_old _ _ _ ?_ ?_); focus (first | omega | (simp; omega))) | ((with_reducible apply blk_set); focus (simp; done)) | ((with_reducible refine blk_off _ _ _ _ ?_ ?_); focus (simp; done)) | ((with_reducible refine blk_offc _ _ _ _ ?_ ?_); focus (first | (simp; done) | omega | (simp; omega))) | ((with_reducible refine blk_off _ _ _ _ ?_ ?_); focus (first | omega | (simp; omega))) | (with_reducible refine blk_drew _ _ ?_) | ((with_reducible refine blk_below (by assumption) ?_ ?_); focus (simp; done)) | ((with_reducible refine blk_below (by assumption) ?_ ?_); focus (first | omega | (simp; omega))))) Tryz.underlying27 rfl (by kernel_rfl) (by simp [row_size]) _ (row_tail [_, _] 64 _) ?_) | go_in)
            go_ret
            exact ⟨by rw [dotsB_no hlt (by simp [dotB, HR.out, HZ.out])]; rfl, (by repeat (first | (with_reducible assumption) | (with_reducible exact Below.refl _ _) | ((with_reducible refine bel_alloc _ ?_ ?_); focus (first | omega | (simp; done) | (simp; omega))) | ((with_reducible refine bel_row _ ?_ ?_); focus (first | omega | (simp; done) | (simp; omega))) | ((with_reducible refine bel_cell _ ?_ ?_); focus (first | omega | (simp; done) | (simp; omega))) | (with_reducible refine Below.drew ?_) | (with_reducible refine below_wideW _ ?_) | ((with_reducible refine bel_next (by assumption) ?_ ?_); focus (first | omega | (simp; done) | (simp; omega)))))⟩
          · have z1 := zero_yes hz
            have HZ := Lib.hid hz
            have HR := Lib.hid hr
            have hIs : ∀ w : World, w.cell? ⟨w0.heap.size, 0, none⟩ = some (.int .i8 a) → w.cell? ⟨w0.heap.size, 1, none⟩ = some (.int .i8 b) → Calls Tryz.prog 52 #[.pointer (some ⟨w0.heap.size, 0, none⟩), .int .i64 ((k : Int) % 8), .int .i64 ((k : Int) / 8)] w fun e w' => e = .returned (.bool false) ∧ w = w' := fun w c0 c1 => by have := implIs_any ((k : Int) % 8) ((k : Int) / 8) a b ha hb w w0.heap.size c0 c1; rwa [show inXY ((k : Int) % 8) ((k : Int) / 8) a b = false from by have := HR.out; first | (rw [isC_no] at this; unfold inXY; simp; omega) | (rw [isC_iff] at this; unfold inXY; simp; omega)] at this
            clear hz hr
            go_wp2_with (first | (go_at_call 52; (with_reducible refine (hIs _ ?_ ?_).mono ?_); (focus (go_simp)); (focus (go_simp)); rintro e w' ⟨rfl, rfl⟩) | (go_at_call 53; (with_reducible refine (implPart_any _ _).mono ?_); rintro e w' ⟨rfl, rfl⟩) | ((with_reducible refine at_load 27 ?_); refine wpList_load_part rfl 27 _ rfl _ 2 64 rfl _ _ _ _ (by repeat (first | (with_reducible assumption) | ((with_reducible refine blk_new _ _ _ ?_); focus (simp; done)) | ((with_reducible refine blk_old _ _ _ ?_ ?_); focus (simp; done)) | ((with_reducible refine blk_old _ _ _ ?_ ?_); focus (first | omega | (simp; omega))) | ((with_reducible apply blk_set); focus (simp; done)) | ((with_reducible refine blk_off _ _ _ _ ?_ ?_); focus (simp; done)) | ((with_reducible refine blk_offc _ _ _ _ ?_ ?_); focus (first | (simp; done) | omega | (simp; omega))) | ((with_reducible refine blk_off _ _ _ _ ?_ ?_); focus (first | omega | (simp; omega))) | (with_reducible refine blk_drew _ _ ?_) | ((with_reducible refine blk_below (by assumption) ?_ ?_); focus (simp; done)) | ((with_reducible refine blk_below (by assumption) ?_ ?_); focus (first | omega | (simp; omega))))) Tryz.underlying27 rfl (by kernel_rfl) (by simp [row_size]) _ (row_tail [_, _] 64 _) ?_) | go_in)
            go_round
            case rel => exact ⟨k + 1, by omega, by go_num, by simp [dotsB, dotB, HC.out, HR.out, HZ.out]⟩
            case measure => simp [intOf]; omega
        · cases hf : partB (F k)
          · have HR := Lib.hid hr
            have hIs : ∀ w : World, w.cell? ⟨w0.heap.size, 0, none⟩ = some (.int .i8 a) → w.cell? ⟨w0.heap.size, 1, none⟩ = some (.int .i8 b) → Calls Tryz.prog 52 #[.pointer (some ⟨w0.heap.size, 0, none⟩), .int .i64 ((k : Int) % 8), .int .i64 ((k : Int) / 8)] w fun e w' => e = .returned (.bool true) ∧ w = w' := fun w c0 c1 => by have := implIs_any ((k : Int) % 8) ((k : Int) / 8) a b ha hb w w0.heap.size c0 c1; rwa [show inXY ((k : Int) % 8) ((k : Int) / 8) a b = true from by have := HR.out; first | (rw [isC_no] at this; unfold inXY; simp; omega) | (rw [isC_iff] at this; unfold inXY; simp; omega)] at this
            clear hr
            go_wp2_with (first | (go_at_call 52; (with_reducible refine (hIs _ ?_ ?_).mono ?_); (focus (go_simp)); (focus (go_simp)); rintro e w' ⟨rfl, rfl⟩) | (go_at_call 53; (with_reducible refine (implPart_any _ _).mono ?_); rintro e w' ⟨rfl, rfl⟩) | ((with_reducible refine at_load 27 ?_); refine wpList_load_part rfl 27 _ rfl _ 2 64 rfl _ _ _ _ (by repeat (first | (with_reducible assumption) | ((with_reducible refine blk_new _ _ _ ?_); focus (simp; done)) | ((with_reducible refine blk_old _ _ _ ?_ ?_); focus (simp; done)) | ((with_reducible refine blk_old _ _ _ ?_ ?_); focus (first | omega | (simp; omega))) | ((with_reducible apply blk_set); focus (simp; done)) | ((with_reducible refine blk_off _ _ _ _ ?_ ?_); focus (simp; done)) | ((with_reducible refine blk_offc _ _ _ _ ?_ ?_); focus (first | (simp; done) | omega | (simp; omega))) | ((with_reducible refine blk_off _ _ _ _ ?_ ?_); focus (first | omega | (simp; omega))) | (with_reducible refine blk_drew _ _ ?_) | ((with_reducible refine blk_below (by assumption) ?_ ?_); focus (simp; done)) | ((with_reducible refine blk_below (by assumption) ?_ ?_); focus (first | omega | (simp; omega))))) Tryz.underlying27 rfl (by kernel_rfl) (by simp [row_size]) _ (row_tail [_, _] 64 _) ?_) | go_in)
            go_ret
            exact ⟨by rw [dotsB_no hlt (by simp [dotB, HR.out, hf])]; rfl, (by repeat (first | (with_reducible assumption) | (with_reducible exact Below.refl _ _) | ((with_reducible refine bel_alloc _ ?_ ?_); focus (first | omega | (simp; done) | (simp; omega))) | ((with_reducible refine bel_row _ ?_ ?_); focus (first | omega | (simp; done) | (simp; omega))) | ((with_reducible refine bel_cell _ ?_ ?_); focus (first | omega | (simp; done) | (simp; omega))) | (with_reducible refine Below.drew ?_) | (with_reducible refine below_wideW _ ?_) | ((with_reducible refine bel_next (by assumption) ?_ ?_); focus (first | omega | (simp; done) | (simp; omega)))))⟩
          · have HR := Lib.hid hr
            have hIs : ∀ w : World, w.cell? ⟨w0.heap.size, 0, none⟩ = some (.int .i8 a) → w.cell? ⟨w0.heap.size, 1, none⟩ = some (.int .i8 b) → Calls Tryz.prog 52 #[.pointer (some ⟨w0.heap.size, 0, none⟩), .int .i64 ((k : Int) % 8), .int .i64 ((k : Int) / 8)] w fun e w' => e = .returned (.bool true) ∧ w = w' := fun w c0 c1 => by have := implIs_any ((k : Int) % 8) ((k : Int) / 8) a b ha hb w w0.heap.size c0 c1; rwa [show inXY ((k : Int) % 8) ((k : Int) / 8) a b = true from by have := HR.out; first | (rw [isC_no] at this; unfold inXY; simp; omega) | (rw [isC_iff] at this; unfold inXY; simp; omega)] at this
            clear hr
            go_wp2_with (first | (go_at_call 52; (with_reducible refine (hIs _ ?_ ?_).mono ?_); (focus (go_simp)); (focus (go_simp)); rintro e w' ⟨rfl, rfl⟩) | (go_at_call 53; (with_reducible refine (implPart_any _ _).mono ?_); rintro e w' ⟨rfl, rfl⟩) | ((with_reducible refine at_load 27 ?_); refine wpList_load_part rfl 27 _ rfl _ 2 64 rfl _ _ _ _ (by repeat (first | (with_reducible assumption) | ((with_reducible refine blk_new _ _ _ ?_); focus (simp; done)) | ((with_reducible refine blk_old _ _ _ ?_ ?_); focus (simp; done)) | ((with_reducible refine blk_old _ _ _ ?_ ?_); focus (first | omega | (simp; omega))) | ((with_reducible apply blk_set); focus (simp; done)) | ((with_reducible refine blk_off _ _ _ _ ?_ ?_); focus (simp; done)) | ((with_reducible refine blk_offc _ _ _ _ ?_ ?_); focus (first | (simp; done) | omega | (simp; omega))) | ((with_reducible refine blk_off _ _ _ _ ?_ ?_); focus (first | omega | (simp; omega))) | (with_reducible refine blk_drew _ _ ?_) | ((with_reducible refine blk_below (by assumption) ?_ ?_); focus (simp; done)) | ((with_reducible refine blk_below (by assumption) ?_ ?_); focus (first | omega | (simp; omega))))) Tryz.underlying27 rfl (by kernel_rfl) (by simp [row_size]) _ (row_tail [_, _] 64 _) ?_) | go_in)
            go_round
            case rel => exact ⟨k + 1, by omega, by go_num, by simp [dotsB, dotB, HC.out, HR.out, hf]⟩
            case measure => simp [intOf]; omega
      · obtain rfl : k = 64 := by omega
        go_wp2
        go_ret
        exact ⟨by rw [HC.out]; rfl, (by repeat (first | (with_reducible assumption) | (with_reducible exact Below.refl _ _) | ((with_reducible refine bel_alloc _ ?_ ?_); focus (first | omega | (simp; done) | (simp; omega))) | ((with_reducible refine bel_row _ ?_ ?_); focus (first | omega | (simp; done) | (simp; omega))) | ((with_reducible refine bel_cell _ ?_ ?_); focus (first | omega | (simp; done) | (simp; omega))) | (with_reducible refine Below.drew ?_) | (with_reducible refine below_wideW _ ?_) | ((with_reducible refine bel_next (by assumption) ?_ ?_); focus (first | omega | (simp; done) | (simp; omega)))))⟩

set_option maxHeartbeats 1600000 in
theorem implPOk_any (x y : Int) (F : Nat → Nat) (w : World) (lx : -128 ≤ x) (ux : x ≤ 127) (ly : -128 ≤ y) (uy : y ≤ 127) : Calls Tryz.prog 16 #[.agg (plate x y F)] w fun e w' => e = .returned (.bool (plateB x y F)) ∧ Below w.heap.size w w' := by
  by_cases h1 : 1 ≤ x ∧ x ≤ 8
  · by_cases h2 : 1 ≤ y ∧ y ≤ 8
    · obtain ⟨a, rfl⟩ : ∃ a : Nat, x = a := ⟨x.toNat, by omega⟩
      obtain ⟨b, rfl⟩ : ∃ b : Nat, y = b := ⟨y.toNat, by omega⟩
      have := implPOk0 a b F w (by omega) (by omega) (by omega) (by omega)
      have e : plateB a b F = dotsB a b F 64 := by unfold plateB; rw [sizeB_iff.2 ⟨h1, h2⟩]; simp
      rwa [e]
    · have hS : plateB x y F = false := by unfold plateB; rw [show sizeB x y = false from by cases h : sizeB x y; rfl; exact absurd (sizeB_iff.1 h).2 h2]; rfl
      rw [hS]
      clear hS
      obtain ⟨x1, x2⟩ := h1
      by_cases hy : 1 ≤ y
      · have hy2 : 8 < y := by omega
        clear h2
        go_enter Tryz.func16, Tryz.ntmps16
        go_wp2
        go_ret
        exact ⟨rfl, (by repeat (first | (with_reducible assumption) | (with_reducible exact Below.refl _ _) | ((with_reducible refine bel_alloc _ ?_ ?_); focus (first | omega | (simp; done) | (simp; omega))) | ((with_reducible refine bel_row _ ?_ ?_); focus (first | omega | (simp; done) | (simp; omega))) | ((with_reducible refine bel_cell _ ?_ ?_); focus (first | omega | (simp; done) | (simp; omega))) | (with_reducible refine Below.drew ?_) | (with_reducible refine below_wideW _ ?_) | ((with_reducible refine bel_next (by assumption) ?_ ?_); focus (first | omega | (simp; done) | (simp; omega)))))⟩
      · have hy2 : y < 1 := by omega
        clear h2 hy
        go_enter Tryz.func16, Tryz.ntmps16
        go_wp2
        go_ret
        exact ⟨rfl, (by repeat (first | (with_reducible assumption) | (with_reducible exact Below.refl _ _) | ((with_reducible refine bel_alloc _ ?_ ?_); focus (first | omega | (simp; done) | (simp; omega))) | ((with_reducible refine bel_row _ ?_ ?_); focus (first | omega | (simp; done) | (simp; omega))) | ((with_reducible refine bel_cell _ ?_ ?_); focus (first | omega | (simp; done) | (simp; omega))) | (with_reducible refine Below.drew ?_) | (with_reducible refine below_wideW _ ?_) | ((with_reducible refine bel_next (by assumption) ?_ ?_); focus (first | omega | (simp; done) | (simp; omega)))))⟩
  · have hS : plateB x y F = false := by unfold plateB; rw [show sizeB x y = false from by cases h : sizeB x y; rfl; exact absurd (sizeB_iff.1 h).1 h1]; rfl
    rw [hS]
    clear hS
    by_cases hy : 1 ≤ x
    · have hy2 : 8 < x := by omega
      clear h1
      go_enter Tryz.func16, Tryz.ntmps16
      go_wp2
      go_ret
      exact ⟨rfl, (by repeat (first | (with_reducible assumption) | (with_reducible exact Below.refl _ _) | ((with_reducible refine bel_alloc _ ?_ ?_); focus (first | omega | (simp; done) | (simp; omega))) | ((with_reducible refine bel_row _ ?_ ?_); focus (first | omega | (simp; done) | (simp; omega))) | ((with_reducible refine bel_cell _ ?_ ?_); focus (first | omega | (simp; done) | (simp; omega))) | (with_reducible refine Below.drew ?_) | (with_reducible refine below_wideW _ ?_) | ((with_reducible refine bel_next (by assumption) ?_ ?_); focus (first | omega | (simp; done) | (simp; omega)))))⟩
    · have hy2 : x < 1 := by omega
      clear h1 hy
      go_enter Tryz.func16, Tryz.ntmps16
      go_wp2
      go_ret
      exact ⟨rfl, (by repeat (first | (with_reducible assumption) | (with_reducible exact Below.refl _ _) | ((with_reducible refine bel_alloc _ ?_ ?_); focus (first | omega | (simp; done) | (simp; omega))) | ((with_reducible refine bel_row _ ?_ ?_); focus (first | omega | (simp; done) | (simp; omega))) | ((with_reducible refine bel_cell _ ?_ ?_); focus (first | omega | (simp; done) | (simp; omega))) | (with_reducible refine Below.drew ?_) | (with_reducible refine below_wideW _ ?_) | ((with_reducible refine bel_next (by assumption) ?_ ?_); focus (first | omega | (simp; done) | (simp; omega)))))⟩
end Go.Proofs.YtekfmjddlemboaaGreatDoor

/-! The numbers of all cells: cells. -/
set_option linter.unusedVariables false
set_option linter.unusedSimpArgs false
namespace Go.Proofs.YtekfmjddlemboaaGreatDoor
open Go.RowKit Ieee

/-- The numbers of the first n cells, as values. -/
def cellsV (a n : Nat) : List Value := (List.range n).map (fun k => Value.int .i64 (cellAt a k))
theorem cellsV_snoc (a n : Nat) : cellsV a n ++ [.int .i64 (cellAt a n)] = cellsV a (n + 1) := by simp [cellsV, List.range_succ]
theorem cellsV_xy {a X Y : Nat} (h : X < a) : cellsV a (a * Y + X) ++ [.int .i64 ((X : Int) + 8 * (Y : Int))] = cellsV a (a * Y + (X + 1)) := by
  rw [← Nat.add_assoc, ← cellsV_snoc, cellAt_xy h]
  simp
theorem cellsV_at {a n k : Nat} (h : k < n) : (cellsV a n)[k]? = some (.int .i64 (cellAt a k)) := by simp [cellsV, h]
theorem Tryz.info_i64 : (Tryz.prog.info? 2).map (fun i => (i.zero, i.size, i.bytes)) = some (some (.int .i64 0), 1, 8) := by kernel_rfl
theorem own_shape {w : World} {base : Nat} {e : TypeId} {v : Value} {n : Nat} {xs : List Value} (h : w.ownsRow base e 1 v n xs) (hn : 0 < n) : ∃ g c, v = .slice (some ⟨g, 0, none⟩) n c ∧ base ≤ g ∧ g < w.heap.size := by
  obtain ⟨_, h2⟩ := h
  rcases h2 with ⟨_, h0⟩ | ⟨g, cap, cur, hv, hg, hh, _⟩
  · omega
  · refine ⟨g, cap, hv, hg, ?_⟩
    cases hlt : decide (g < w.heap.size)
    · simp only [decide_eq_false_iff_not] at hlt
      rw [Array.getElem?_eq_none (by omega)] at hh
      cases hh
    · simpa using hlt
theorem own_next {w0 wr w1 : World} {e : TypeId} {v : Value} {n : Nat} {xs : List Value} {o : Obj} (hown : wr.ownsRow w0.heap.size e 1 v n xs) (hb : Below w0.heap.size w0 wr) (hg : (wr.alloc o).grownBy w1 v.ownBlock) : Below w0.heap.size w0 w1 := by
  have h1 : Below w0.heap.size w0 (wr.alloc o) := hb.alloc hb.size o
  refine h1.grown hg ?_ ?_
  · have := hb.size; simp; omega
  · intro k hk
    exact (hown.lt k hk).1

set_option maxRecDepth 100000 in
set_option maxHeartbeats 1600000 in
theorem cells_any (a b : Nat) (ha1 : 1 ≤ a) (ha : a < 9) (hb1 : 1 ≤ b) (hb : b < 9) (w : World) (B : Nat) (hB : B < w.heap.size) (c0 : w.cell? ⟨B, 0, none⟩ = some (.int .i8 a)) (c1 : w.cell? ⟨B, 1, none⟩ = some (.int .i8 b)) :
    Calls Tryz.prog 49 #[.pointer (some ⟨B, 0, none⟩)] w fun e w' => ∃ g c, e = .returned (.slice (some ⟨g, 0, none⟩) (a * b : Nat) c) ∧ w'.ownsRow w.heap.size 2 1 (.slice (some ⟨g, 0, none⟩) (a * b : Nat) c) (a * b) (cellsV a (a * b)) ∧ Below w.heap.size w w' := by
  obtain ⟨i0, hi, hz0, hz1, hz2⟩ := info_parts Tryz.info_i64
  go_enter Tryz.func49, Tryz.ntmps49
  go_wp2
  go_loopw [3, 12] (fun v i wr => ∃ Y : Nat, Y ≤ b ∧ i = .int .i64 Y ∧ wr.ownsRow w.heap.size 2 1 v (a * Y) (cellsV a (a * Y)) ∧ Below w.heap.size w wr) (fun _ i _ => 9 - (intOf i).toNat)
  case atStart => exact ⟨0, by omega, rfl, World.ownsRow_made _ _ 0 (by simp) (by simp [maxLen]) (by simp), (Below.refl _ _).alloc (Nat.le_refl _) _⟩
  case round =>
    obtain ⟨Y, hY, rfl, hown, hbw⟩ := hrel
    obtain ⟨wo, rfl⟩ : ∃ wo : World, wo = wr := ⟨_, rfl⟩
    have d0 : wo.cell? ⟨B, 0, none⟩ = some (.int .i8 a) := (hbw.cell (p := ⟨B, 0, none⟩) hB).trans c0
    have HO := Lib.hid hown
    have HW := Lib.hid hbw
    clear hown hbw
    by_cases hlt : Y < b
    · go_wp2
      go_loopw [3, 20] (fun v i wr => ∃ X : Nat, X ≤ a ∧ i = .int .i64 X ∧ wr.ownsRow w.heap.size 2 1 v (a * Y + X) (cellsV a (a * Y + X)) ∧ Below w.heap.size w wr) (fun _ i _ => 9 - (intOf i).toNat)
      case atStart => exact ⟨0, by omega, rfl, HO.out, HW.out⟩
      case round =>
        obtain ⟨X, hX, rfl, hown, hbw⟩ := hrel
        by_cases hlx : X < a
        · have x0 : (0 : Int) ≤ X := by omega
          have x8 : (X : Int) < 9 := by omega
          have y0 : (0 : Int) ≤ Y := by omega
          have y8 : (Y : Int) < 9 := by omega
          have h64 : a * Y + X < 100 := by
            have : a * Y ≤ 8 * 8 := Nat.mul_le_mul (by omega) (by omega)
            omega
          have H64 := Lib.hid h64
          clear h64
          go_wp2_with (first | (at_builtin; refine wpList_append_own _ rfl _ _ 77 rfl w.heap.size 2 i0 (.int .i64 0) 1 8 Tryz.underlying77 hi hz0 hz1 hz2 rfl (by decide) _ _ _ rfl (hown.alloc _) ⟨wr.heap.size, 0, none⟩ 1 1 [.int .i64 ((X : Int) + 8 * (Y : Int))] rfl rfl ?c1 ?c2 ?c3 ?c4 ?c5 ?_) | go_in)
          case c1 =>
            intro j u hj
            match j, hj with
            | 0, hj => simp at hj; subst hj; simp [Addr.add]
          case c2 => intro u hu; simp at hu; subst hu; rfl
          case c3 => have := H64.out; unfold maxLen; omega
          case c4 => have := H64.out; omega
          case c5 => have := hbw.size; simp; omega
          intro v' w1 hown' hgrow _
          have hb1' := own_next hown hbw hgrow
          rw [cellsV_xy hlx] at hown'
          have HO' := Lib.hid hown'
          have HW' := Lib.hid hb1'
          clear hown' hgrow hown hbw hb1'
          go_wp2
          go_roundw
          case rel => exact ⟨X + 1, by omega, by go_num, HO'.out, HW'.out⟩
          case measure => simp [intOf]; omega
        · obtain rfl : X = a := by omega
          have HO' := Lib.hid hown
          have HW' := Lib.hid hbw
          clear hown hbw
          go_wp2
          go_roundw
          case rel => exact ⟨Y + 1, by omega, by go_num, by have := HO'.out; rwa [show X * (Y + 1) = X * Y + X from Nat.mul_succ _ _], HW'.out⟩
          case measure => simp [intOf]; omega
    · obtain rfl : Y = b := by omega
      have hpos : 0 < a * Y := Nat.mul_pos (by omega) (by omega)
      obtain ⟨g, c, hv, _, _⟩ := own_shape HO.out hpos
      subst hv
      have HP := Lib.hid hpos
      clear hpos
      go_wp2
      go_ret
      exact ⟨g, c, rfl, HO.out, HW.out⟩
theorem cells_n (a b n : Nat) (hn : a * b = n) (ha1 : 1 ≤ a) (ha : a < 9) (hb1 : 1 ≤ b) (hb : b < 9) (w : World) (B : Nat) (hB : B < w.heap.size) (c0 : w.cell? ⟨B, 0, none⟩ = some (.int .i8 a)) (c1 : w.cell? ⟨B, 1, none⟩ = some (.int .i8 b)) :
    Calls Tryz.prog 49 #[.pointer (some ⟨B, 0, none⟩)] w fun e w' => ∃ g c, e = .returned (.slice (some ⟨g, 0, none⟩) n c) ∧ w'.ownsRow w.heap.size 2 1 (.slice (some ⟨g, 0, none⟩) n c) n (cellsV a n) ∧ Below w.heap.size w w' := by
  subst hn
  exact cells_any a b ha1 ha hb1 hb w B hB c0 c1
end Go.Proofs.YtekfmjddlemboaaGreatDoor
