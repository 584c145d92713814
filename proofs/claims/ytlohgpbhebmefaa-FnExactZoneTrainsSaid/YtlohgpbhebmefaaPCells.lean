/- The numbers of all cells: cells. -/
import Derived.Test.YtlohgpbhebmefaaPOk
import Derived.OwnWalk
import Derived.Laws.OwnMore
set_option linter.unusedVariables false
set_option linter.unusedSimpArgs false
namespace Go.Proofs.Ytlohgpbhebmefaa
open Go.RowKit Ieee

/-- The numbers of the first n cells, as values. -/
def cellsV (a n : Nat) : List Value := (List.range n).map (fun k => Value.int .i64 (cellAt a k))
theorem cellsV_len (a n : Nat) : (cellsV a n).length = n := by simp [cellsV]
theorem cellsV_snoc (a n : Nat) : cellsV a n ++ [.int .i64 (cellAt a n)] = cellsV a (n + 1) := by simp [cellsV, List.range_succ]
theorem cellsV_xy {a X Y : Nat} (h : X < a) : cellsV a (a * Y + X) ++ [.int .i64 ((X : Int) + 8 * (Y : Int))] = cellsV a (a * Y + (X + 1)) := by
  rw [← Nat.add_assoc, ← cellsV_snoc, cellAt_xy h]
  simp
theorem cellsV_at {a n k : Nat} (h : k < n) : (cellsV a n)[k]? = some (.int .i64 (cellAt a k)) := by simp [cellsV, h]
theorem Try.info_i64 : (Try.prog.info? 2).map (fun i => (i.zero, i.size, i.bytes)) = some (some (.int .i64 0), 1, 8) := by kernel_rfl
theorem own_shape {w : World} {base : Nat} {e : TypeId} {v : Value} {n : Nat} {xs : List Value} (h : w.ownsRow base e 1 v n xs) (hn : 0 < n) : ∃ g c, v = .slice (some ⟨g, 0, none⟩) n c ∧ base ≤ g ∧ g < w.heap.size := by
  obtain ⟨_, h2⟩ := h
  rcases h2 with ⟨_, h0⟩ | ⟨g, cap, cur, hv, hg, hh, _⟩
  · omega
  · refine ⟨g, cap, hv, hg, ?_⟩
    cases hlt : decide (g < w.heap.size)
    · simp only [decide_eq_false_iff_not] at hlt
      rw [Array.getElem?_eq_none (by omega)] at hh
      cases hh
    · simpa using hlt
theorem own_next {w0 wr w1 : World} {e : TypeId} {v : Value} {n : Nat} {xs : List Value} {o : Obj} (hown : wr.ownsRow w0.heap.size e 1 v n xs) (hb : Below w0.heap.size w0 wr) (hg : (wr.alloc o).grownBy w1 v.ownBlock) : Below w0.heap.size w0 w1 := by
  have h1 : Below w0.heap.size w0 (wr.alloc o) := hb.alloc hb.size o
  refine h1.grown hg ?_ ?_
  · have := hb.size; simp; omega
  · intro k hk
    exact (hown.lt k hk).1

set_option maxRecDepth 100000 in
set_option maxHeartbeats 1600000 in
theorem cells_any (a b : Nat) (ha1 : 1 ≤ a) (ha : a < 9) (hb1 : 1 ≤ b) (hb : b < 9) (w : World) (B : Nat) (hB : B < w.heap.size) (c0 : w.cell? ⟨B, 0, none⟩ = some (.int .i8 a)) (c1 : w.cell? ⟨B, 1, none⟩ = some (.int .i8 b)) :
    Calls Try.prog 85 #[.pointer (some ⟨B, 0, none⟩)] w fun e w' => ∃ g c, e = .returned (.slice (some ⟨g, 0, none⟩) (a * b : Nat) c) ∧ w'.ownsRow w.heap.size 2 1 (.slice (some ⟨g, 0, none⟩) (a * b : Nat) c) (a * b) (cellsV a (a * b)) ∧ Below w.heap.size w w' := by
  obtain ⟨i0, hi, hz0, hz1, hz2⟩ := info_parts Try.info_i64
  go_enter Try.func85, Try.ntmps85
  go_wp2
  go_loopw [3, 12] (fun v i wr => ∃ Y : Nat, Y ≤ b ∧ i = .int .i64 Y ∧ wr.ownsRow w.heap.size 2 1 v (a * Y) (cellsV a (a * Y)) ∧ Below w.heap.size w wr) (fun _ i _ => 9 - (intOf i).toNat)
  case atStart => exact ⟨0, by omega, rfl, World.ownsRow_made _ _ 0 (by simp) (by simp [maxLen]) (by simp), (Below.refl _ _).alloc (Nat.le_refl _) _⟩
  case round =>
    obtain ⟨Y, hY, rfl, hown, hbw⟩ := hrel
    obtain ⟨wo, rfl⟩ : ∃ wo : World, wo = wr := ⟨_, rfl⟩
    have d0 : wo.cell? ⟨B, 0, none⟩ = some (.int .i8 a) := (hbw.cell (p := ⟨B, 0, none⟩) hB).trans c0
    have HO := Lib.hid hown
    have HW := Lib.hid hbw
    clear hown hbw
    by_cases hlt : Y < b
    · go_wp2
      go_loopw [3, 20] (fun v i wr => ∃ X : Nat, X ≤ a ∧ i = .int .i64 X ∧ wr.ownsRow w.heap.size 2 1 v (a * Y + X) (cellsV a (a * Y + X)) ∧ Below w.heap.size w wr) (fun _ i _ => 9 - (intOf i).toNat)
      case atStart => exact ⟨0, by omega, rfl, HO.out, HW.out⟩
      case round =>
        obtain ⟨X, hX, rfl, hown, hbw⟩ := hrel
        by_cases hlx : X < a
        · have x0 : (0 : Int) ≤ X := by omega
          have x8 : (X : Int) < 9 := by omega
          have y0 : (0 : Int) ≤ Y := by omega
          have y8 : (Y : Int) < 9 := by omega
          have h64 : a * Y + X < 100 := by
            have : a * Y ≤ 8 * 8 := Nat.mul_le_mul (by omega) (by omega)
            omega
          have H64 := Lib.hid h64
          clear h64
          go_wp2_with (first | (at_builtin; refine wpList_append_own _ rfl _ _ 106 rfl w.heap.size 2 i0 (.int .i64 0) 1 8 Try.underlying106 hi hz0 hz1 hz2 rfl (by decide) _ _ _ rfl (hown.alloc _) ⟨wr.heap.size, 0, none⟩ 1 1 [.int .i64 ((X : Int) + 8 * (Y : Int))] rfl rfl ?c1 ?c2 ?c3 ?c4 ?c5 ?_) | go_in)
          case c1 =>
            intro j u hj
            match j, hj with
            | 0, hj => simp at hj; subst hj; simp [Addr.add]
          case c2 => intro u hu; simp at hu; subst hu; rfl
          case c3 => have := H64.out; unfold maxLen; omega
          case c4 => have := H64.out; omega
          case c5 => have := hbw.size; simp; omega
          intro v' w1 hown' hgrow _
          have hb1' := own_next hown hbw hgrow
          rw [cellsV_xy hlx] at hown'
          have HO' := Lib.hid hown'
          have HW' := Lib.hid hb1'
          clear hown' hgrow hown hbw hb1'
          go_wp2
          go_roundw
          case rel => exact ⟨X + 1, by omega, by go_num, HO'.out, HW'.out⟩
          case measure => simp [intOf]; omega
        · obtain rfl : X = a := by omega
          have HO' := Lib.hid hown
          have HW' := Lib.hid hbw
          clear hown hbw
          go_wp2
          go_roundw
          case rel => exact ⟨Y + 1, by omega, by go_num, by have := HO'.out; rwa [show X * (Y + 1) = X * Y + X from Nat.mul_succ _ _], HW'.out⟩
          case measure => simp [intOf]; omega
    · obtain rfl : Y = b := by omega
      have hpos : 0 < a * Y := Nat.mul_pos (by omega) (by omega)
      obtain ⟨g, c, hv, _, _⟩ := own_shape HO.out hpos
      subst hv
      have HP := Lib.hid hpos
      clear hpos
      go_wp2
      go_ret
      exact ⟨g, c, rfl, HO.out, HW.out⟩
theorem cells_n (a b n : Nat) (hn : a * b = n) (ha1 : 1 ≤ a) (ha : a < 9) (hb1 : 1 ≤ b) (hb : b < 9) (w : World) (B : Nat) (hB : B < w.heap.size) (c0 : w.cell? ⟨B, 0, none⟩ = some (.int .i8 a)) (c1 : w.cell? ⟨B, 1, none⟩ = some (.int .i8 b)) :
    Calls Try.prog 85 #[.pointer (some ⟨B, 0, none⟩)] w fun e w' => ∃ g c, e = .returned (.slice (some ⟨g, 0, none⟩) n c) ∧ w'.ownsRow w.heap.size 2 1 (.slice (some ⟨g, 0, none⟩) n c) n (cellsV a n) ∧ Below w.heap.size w w' := by
  subst hn
  exact cells_any a b ha1 ha hb1 hb w B hB c0 c1
end Go.Proofs.Ytlohgpbhebmefaa
