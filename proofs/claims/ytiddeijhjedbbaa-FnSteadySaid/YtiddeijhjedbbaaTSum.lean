/- Sums of films: sum, InkOn; the reference's and the program's. -/
import Derived.Test.YtiddeijhjedbbaaTWalk
set_option linter.unusedVariables false
set_option linter.unusedSimpArgs false
namespace Go.Proofs.Ytiddeijhjedbbaa
open Go.RowKit Ieee

theorem sum_any (G : Nat → Nat) (n b o c : Nat) (w : World) (hn : n ≤ 4000) (hG : ∀ i, i < n → filmB (G i) = true) (hc : ∀ i, i < n → w.cell? ⟨b, o + i, none⟩ = some (.float .f32 (G i))) :
    Calls Try.prog 48 #[.slice (some ⟨b, o, none⟩) n c] w fun e w' => e = .returned (.float .f32 (sumTo G n)) ∧ w = w' := by
  have HC := Lib.hid hc
  have HG := Lib.hid hG
  have hcs := fun b w => run_conv_same (P := Try.prog) 25 25 .f32 b w (by kernel_rfl) (by kernel_rfl)
  clear hc hG
  go_enter Try.func48, Try.ntmps48
  go_wp2
  go_loop [3, 8] (fun v i => ∃ k : Nat, k ≤ n ∧ i = .int .i64 k ∧ v = .float .f32 (sumTo G k)) (fun _ i => n - (intOf i).toNat)
  case atStart => exact ⟨0, by omega, rfl, rfl⟩
  case round =>
    obtain ⟨k, hk, rfl, rfl⟩ := hrel
    by_cases hlt : k < n
    · have ck := HC.out k hlt
      by_cases h0 : k = 0
      · subst h0
        have ck0 : w.cell? ⟨b, o, none⟩ = some (.float .f32 (G 0)) := by simpa using ck
        go_wp2
        go_round
        case rel => exact ⟨1, by omega, rfl, rfl⟩
        case measure => simp [intOf]; omega
      · have h1 : 1 ≤ k := by omega
        have e1 := fun w => run_fadd (P := Try.prog) w 25 (sumTo_facts hn HG.out k hk).1 (film_fin (HG.out k hlt))
        clear h0
        go_wp2
        go_round
        case rel => exact ⟨k + 1, by omega, by go_num, by rw [sumTo_step G h1]⟩
        case measure => simp [intOf]; omega
    · obtain rfl : k = n := by omega
      go_wp2
      go_ret
      exact ⟨rfl, rfl⟩

theorem film_upto {r : Int} {F : Nat → Nat} (hfl : ∀ i : Nat, i < 12 → (i : Int) < r → filmB (F i) = true) (h12 : r ≤ 12) : ∀ i, i < r.toNat → filmB (F i) = true :=
  fun i hi => hfl i (by omega) (by omega)
theorem specInk_any (r : Int) (s t : Nat) (F : Nat → Nat) (w : World) (lr : -128 ≤ r) (ur : r ≤ 127) (ho : trainB r s t F = true) (B : Nat) (hB : w.heap[B]? = some (.cells (train r s t F) 28 (0, 0))) : Calls Try.prog 46 #[.pointer (some ⟨B, 0, none⟩)] w fun e w' => e = .returned (.float .f32 (sumTo F r.toNat)) ∧ w = w' := by
  obtain ⟨h2, h12, _, _, hfl, _⟩ := trainB_facts ho
  have HG := Lib.hid (film_upto hfl h12)
  have c0 : w.cell? ⟨B, 0, none⟩ = some (.int .i8 r) := (cell_of_row w _ 0 _ _ _ hB).trans (row_g0 _ _ _ _)
  have cf : w.cell? ⟨B, 3 + 0, none⟩ = some (.float .f32 (F 0)) := (cell_of_row w B (3 + 0) _ _ _ hB).trans (row_k3 _ _ _ _ _ (by omega))
  have HB := Lib.hid hB
  clear hB hfl
  go_enter Try.func46, Try.ntmps46
  go_wp2
  go_loop [3, 4] (fun v i => ∃ k : Nat, 1 ≤ k ∧ (k : Int) ≤ r ∧ i = .int .i64 k ∧ v = .float .f32 (sumTo F k)) (fun _ i => 12 - (intOf i).toNat)
  case atStart => exact ⟨1, by omega, by omega, rfl, rfl⟩
  case round =>
    obtain ⟨k, hk1, hk, rfl, rfl⟩ := hrel
    by_cases hlt : (k : Int) < r
    · have ck : w.cell? ⟨B, 3 + k, none⟩ = some (.float .f32 (F k)) := (cell_of_row w B (3 + k) _ _ _ HB.out).trans (row_k3 _ _ _ _ _ (by omega))
      have e1 := fun w => run_fadd (P := Try.prog) w 25 (sumTo_facts (by omega) HG.out k (by omega)).1 (film_fin (HG.out k (by omega)))
      have k12 : k < 12 := by omega
      go_wp2
      go_round
      case rel => exact ⟨k + 1, by omega, by omega, by go_num, by rw [sumTo_step F hk1]⟩
      case measure => simp [intOf]; omega
    · have hkr : r.toNat = k := by omega
      have HK := Lib.hid hkr
      clear hkr
      go_wp2
      go_ret
      exact ⟨by rw [HK.out]; rfl, rfl⟩
def inkR (r : Int) (s t : Nat) (F : Nat → Nat) : Nat := if trainB r s t F then sumTo F r.toNat else 0
theorem inkR_num (r : Int) (s t : Nat) (F : Nat → Nat) : ¬ Flt.NaN single (inkR r s t F) := by
  unfold inkR
  split
  · rename_i h
    obtain ⟨h2, h12, _, _, hfl, _⟩ := trainB_facts h
    exact fin_nan (sumTo_facts (by omega) (film_upto hfl h12) _ (Nat.le_refl _)).1
  · decide

end Go.Proofs.Ytiddeijhjedbbaa
