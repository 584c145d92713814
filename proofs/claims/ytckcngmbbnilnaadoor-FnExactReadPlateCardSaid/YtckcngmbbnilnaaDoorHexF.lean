/- internal/strconv.formatBits at base 16, for numbers of 32 bits. -/
import Derived.Test.YtckcngmbbnilnaaDoorHexP
import Derived.Lib.ItoaWalk
import Derived.Lib.ItoaNum
import Derived.Laws.Bits64b
import Derived.Lib.LaidTab
import Derived.Lib.Walk
import Derived.Lib.Strings
import Derived.Laws.IdiomStrings
import Derived.WalkKit
import Derived.BigCall
set_option linter.unusedVariables false
set_option linter.unusedSimpArgs false
namespace Go.Proofs.YtckcngmbbnilnaaDoor
open Go.RowKit Go.Lib

def deBruijn64 : List Int := [0, 1, 56, 2, 57, 49, 28, 3, 61, 58, 42, 50, 38, 29, 17, 4, 62, 47, 59, 36, 45, 43, 51, 22, 53, 39, 33, 30, 24, 18, 12, 5, 63, 55, 48, 27, 60, 41, 37, 16, 46, 35, 44, 21, 52, 32, 23, 11, 54, 26, 40, 15, 34, 20, 31, 10, 25, 14, 19, 9, 13, 8, 7, 6]

theorem digits36_at : ∀ i, i < 16 → digits36.data.toList.getD i 0 = hexDig i := by decide +kernel
theorem idx_digits {P : Program} (t : TypeId) (ht : P.underlying t = some .string) (k : IntKind) (z : Int) (i : Nat) (hz : z = (i : Int)) (hi : i < 16) (w : World) :
    (Instr.index t (.string digits36) (.int k z)).run P w = .ok (.int .u8 ((hexDig i).toNat : Int)) w := by
  subst hz
  rw [run_index_string w t digits36 k _ ht, dif_pos ⟨by omega, by rw [digits36_size]; omega⟩]
  have e : ((i : Int)).toNat = i := by omega
  simp only [e]
  rw [Lib.getD_at digits36 i (by rw [digits36_size]; omega), digits36_at i hi]
theorem and15 (v : Nat) (hv : v < 18446744073709551616) : bits .and .u64 (v : Int) 15 = ((v % 16 : Nat) : Int) := by
  have h := bits_and_u64_nat v 15 hv (by omega)
  rw [Nat.and_two_pow_sub_one_eq_mod v 4] at h
  exact h
set_option maxHeartbeats 4000000 in
set_option maxRecDepth 100000 in
theorem isPow16 (w : World) : Calls Tryd.prog 107 #[.int .i64 16] w fun e w' => e = .returned (.bool true) ∧ w = w' := by
  have h1 : bits .and .i64 16 15 = 0 := by decide
  go_enter Tryd.func107, Tryd.ntmps107
  go_wp2
  go_ret
  exact ⟨rfl, rfl⟩

set_option maxHeartbeats 4000000 in
set_option maxRecDepth 100000 in
theorem tz16 (w : World) (hc : w.cell? ⟨6, 15, none⟩ = some (.int .u8 4)) : Calls Tryd.prog 108 #[.int .u64 16] w fun e w' => e = .returned (.int .i64 4) ∧ w = w' := by
  have h1 : bits .and .u64 16 (IntKind.u64.wrap (-16)) = 16 := by decide
  have h2 : IntKind.u64.wrap (16 * 285870213051353865) / 288230376151711744 = 15 := by decide
  go_enter Tryd.func108, Tryd.ntmps108
  go_wp2
  go_ret
  exact ⟨rfl, rfl⟩

/-- What the row of bytes behind the walk's own world says. -/
structure RowB (n : Nat) (w wr : World) (B : Nat) (i : Nat) (D : List UInt8) : Prop where
  cells : ∃ G : Nat → Int, (∀ t, t < n → wr.cell? ⟨B, t, none⟩ = some (.int .u8 (G t))) ∧ ∀ j (h : j < D.length), G (i + j) = ((D[j]).toNat : Int)
  free : ∀ t, t < n → wr.frozen? ⟨B, t, none⟩ = false
  below : Below w.heap.size w wr

theorem RowB.step {n : Nat} {w wr : World} {B i : Nat} {D : List UInt8} (h : RowB n w wr B (i + 1) D) (hB : w.heap.size ≤ B) (hi : i < n) (x : UInt8) : RowB n w (wr.setCell ⟨B, i, none⟩ (.int .u8 (x.toNat : Int))) B i (x :: D) := by
  obtain ⟨⟨G, h1, h2⟩, h3, h4⟩ := h
  refine ⟨⟨fun t => if t = i then (x.toNat : Int) else G t, fun t ht => ?_, fun j hj => ?_⟩, fun t ht => ?_, h4.setCell hB _⟩
  · by_cases e : t = i
    · subst e
      rw [World.cell?_setCell_same _ _ _ (h1 t ht)]
      simp
    · rw [World.cell?_setCell_other _ _ _ _ (by simp [e]), h1 t ht]
      simp [e]
  · cases j with
    | zero => simp
    | succ j =>
      have := h2 j (by simpa using hj)
      simp only [List.getElem_cons_succ]
      rw [← this]
      simp
      congr 1
      omega
  · rw [World.frozen?_setCell]
    exact h3 t ht

theorem zero65 : ∀ t, t < 65 → Tryd.zeroCells138[t]? = some (.int .u8 0) := by
  intro t ht
  have e : Tryd.zeroCells138 = Array.replicate 65 (Value.int .u8 0) := rfl
  rw [e]
  simp [ht]
theorem slice65 (B k : Nat) (hk : k < 65) (W : World) : (Instr.sliceAt 138 (.pointer (some ⟨B, 0, none⟩)) (some (.int .i64 (k : Int))) none none).run Tryd.prog W = .ok (.slice (some ⟨B, k, none⟩) (65 - k) (65 - k)) W := by
  have hal : Tryd.prog.arrayLen 138 = 65 := by kernel_rfl
  rw [run_sliceAt_array_l W 138 ⟨B, 0, none⟩ (by kernel_rfl) .i64 (k : Int) (by omega) (by rw [hal]; omega), hal]
  have h1 : (sizeOf (Tryd.prog.elem 138)).run Tryd.prog W = .ok 1 W := by kernel_rfl
  rw [h1]
  simp [slicedAt, Addr.add, Result.andThen]
  rw [if_neg (by omega)]
  split <;> simp_all
theorem wp_nm {P : Program} {c : Code} {fr : Act} {w : World} {Q : Exit → Act → World → Prop} {S : World → Prop} (h : S w) (k : ∀ W, S W → c.wp P Q fr W) : c.wp P Q fr w := k w h

set_option maxHeartbeats 8000000 in
set_option maxRecDepth 100000 in
theorem formatBits16 (u : Nat) (hu : u < 4294967296) (w : World) (hc : w.cell? ⟨6, 15, none⟩ = some (.int .u8 4)) :
    Calls Tryd.prog 84 #[.slice none 0 0, .int .u64 u, .int .i64 16, .bool false, .bool false] w fun e w' => e = .returned (.tuple #[.slice none 0 0, .string ⟨(hexS 8 u).toArray⟩]) ∧ Below w.heap.size w w' := by
  have hc1 : ∀ o, (w.alloc o).cell? ⟨6, 15, none⟩ = some (.int .u8 4) := fun o => by
    rw [World.cell?_alloc_old _ _ _ (Nat.ne_of_lt (World.block_lt_of_cell? _ _ hc))]
    exact hc
  have AHC := Lib.hid hc
  clear hc
  go_enter Tryd.func84, Tryd.ntmps84
  go_name_bytes PM hPM
  clear hPM
  go_name_bytes DG hDG
  have eDG : DG = Lib.digits36 := by rw [← hDG]; decide +kernel
  subst eDG
  clear hDG
  go_wp2_with (first
    | (go_at_call 107; refine (isPow16 _).mono ?_; rintro e w' ⟨rfl, rfl⟩)
    | (go_at_call 108; refine (tz16 _ (hc1 _)).mono ?_; rintro e w' ⟨rfl, rfl⟩))
  have hW0 : RowB 65 w (w.alloc (.cells Tryd.zeroCells138 138)) w.heap.size 65 [] :=
    ⟨⟨fun _ => 0, fun t ht => by rw [World.cell?_alloc_new]; exact zero65 t ht, fun j hj => absurd hj (by simp)⟩, fun t ht => World.frozen?_alloc_new _ _ _ _, Below.alloc (Below.refl _ w) (Nat.le_refl _) _⟩
  refine wp_nm (S := fun W => RowB 65 w W w.heap.size 65 []) hW0 ?_
  intro W HW
  have hSZ : w.heap.size ≤ W.heap.size := HW.below.size
  have hHW := Lib.hid HW
  clear HW hc1
  go_loopw [1, 13] (fun vu vi wr => ∃ (v i : Nat) (D : List UInt8), vu = .int .u64 v ∧ vi = .int .i64 i ∧ Hid (RowB 65 w wr w.heap.size i D ∧ i + D.length = 65 ∧ D.length < 8 ∧ v < 16 ^ (8 - D.length) ∧ hexS (8 - D.length) v ++ D = hexS 8 u)) (fun vu _ _ => (RowKit.intOf vu).toNat)
  case atStart => exact ⟨u, 65, [], rfl, rfl, hHW.out, by simp, by simp, by simpa using hu, by simp⟩
  case round =>
    obtain ⟨v, i, D, rfl, rfl, hh⟩ := hrel
    obtain ⟨hR, hiD, hD8, hv, hS⟩ := hh.out
    clear hh
    obtain ⟨G, hc, hg⟩ := hR.cells
    have hf := hR.free
    have HR := Lib.hid hR
    have hb1 : w.heap.size ≤ wr.heap.size := hR.below.size
    have HG := Lib.hid hg
    clear hR hg
    obtain ⟨k, rfl⟩ : ∃ k, i = k + 1 := ⟨i - 1, by omega⟩
    have hv64 : v < 18446744073709551616 := by
      have := Nat.pow_le_pow_right (show 0 < 16 by omega) (show 8 - D.length ≤ 8 by omega)
      omega
    by_cases h16 : 16 ≤ v
    · have hL : D.length ≤ 6 := by
        apply Classical.byContradiction
        intro hn
        have : D.length = 7 := by omega
        rw [this] at hv
        omega
      have hand : bits .and .u64 (v : Int) 15 = (v : Int) % 16 := by rw [and15 v hv64]; omega
      have hix : ∀ w, (Instr.index 9 (.string Lib.digits36) (.int .u64 ((v : Int) % 16))).run Tryd.prog w = .ok (.int .u8 ((hexDig (v % 16)).toNat : Int)) w := fun w => idx_digits 9 Tryd.underlying9 .u64 _ (v % 16) (by omega) (by omega) w
      have HN : Hid (k + (hexDig (v % 16) :: D).length = 65 ∧ (hexDig (v % 16) :: D).length < 8 ∧ v / 16 < 16 ^ (8 - (hexDig (v % 16) :: D).length) ∧ hexS (8 - (hexDig (v % 16) :: D).length) (v / 16) ++ (hexDig (v % 16) :: D) = hexS 8 u) := by
        refine Lib.hid ⟨by simp; omega, by simp; omega, ?_, ?_⟩
        · have e : 8 - D.length = (8 - (D.length + 1)) + 1 := by omega
          rw [e, Nat.pow_succ] at hv
          simp only [List.length_cons]
          omega
        · have e : 8 - D.length = (8 - (D.length + 1)) + 1 := by omega
          rw [e] at hS
          simp only [List.length_cons]
          rw [← hS, show hexS (8 - (D.length + 1) + 1) v = if v < 16 then [hexDig v] else hexS (8 - (D.length + 1)) (v / 16) ++ [hexDig (v % 16)] from rfl, if_neg (by omega), List.append_assoc]
          rfl
      have hk : k < 65 := by omega
      clear hv hS hD8 hL hiD
      go_wp2
      go_roundw
      case rel => exact ⟨v / 16, k, hexDig (v % 16) :: D, by first | rfl | go_num | (congr 1; omega), by first | rfl | go_num | (congr 1; omega), Lib.hid ⟨HR.out.step (Nat.le_refl _) hk _, HN.out⟩⟩
      case measure => simp [RowKit.intOf]; omega
    · have hix : ∀ w, (Instr.index 9 (.string Lib.digits36) (.int .u64 (v : Int))).run Tryd.prog w = .ok (.int .u8 ((hexDig v).toNat : Int)) w := fun w => idx_digits 9 Tryd.underlying9 .u64 _ v rfl (by omega) w
      have HS : Hid (hexDig v :: D = hexS 8 u) := by
        have e : 8 - D.length = (8 - (D.length + 1)) + 1 := by omega
        rw [e, show hexS (8 - (D.length + 1) + 1) v = if v < 16 then [hexDig v] else hexS (8 - (D.length + 1)) (v / 16) ++ [hexDig (v % 16)] from rfl, if_pos (by omega)] at hS
        exact Lib.hid hS
      have hk : k < 65 := by omega
      have HI := Lib.hid hiD
      clear hv hS hD8 hiD
      have hsl := fun W => slice65 w.heap.size k hk W
      have hR2 := HR.out.step (Nat.le_refl _) hk (hexDig v)
      have hcv : (convert 92 9 (.slice (some ⟨w.heap.size, k, none⟩) (65 - k) (65 - k))).run Tryd.prog (wr.setCell ⟨w.heap.size, k, none⟩ (.int .u8 ((hexDig v).toNat : Int))) = .ok (.string ⟨(hexS 8 u).toArray⟩) (wr.setCell ⟨w.heap.size, k, none⟩ (.int .u8 ((hexDig v).toNat : Int))) := by
        obtain ⟨G2, g1, g2⟩ := hR2.cells
        have hl : (hexDig v :: D).length = 65 - k := by have := HI.out; simp; omega
        have h := run_convert_bytes_back (P := Tryd.prog) (wr.setCell ⟨w.heap.size, k, none⟩ (.int .u8 ((hexDig v).toNat : Int))) 92 9 5 ⟨w.heap.size, k, none⟩ (65 - k) (hexDig v :: D) Tryd.underlying92 Tryd.underlying5 Tryd.underlying9 (fun j hj => by
          rw [← g2 j hj]
          have e : (⟨w.heap.size, k, none⟩ : Addr).add j = ⟨w.heap.size, k + j, none⟩ := by unfold Addr.add; split <;> simp_all
          rw [e]
          exact g1 (k + j) (by omega))
        rw [hl, HS.out] at h
        exact h
      have HR2 := Lib.hid hR2.below
      clear hR2
      go_wp2
      go_ret2
      exact ⟨rfl, HR2.out⟩
end Go.Proofs.YtckcngmbbnilnaaDoor
