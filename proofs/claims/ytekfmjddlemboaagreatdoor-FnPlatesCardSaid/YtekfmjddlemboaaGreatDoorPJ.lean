/- Parts of a proof, merged; each under its own premises. -/
import Derived.Test.YtekfmjddlemboaaGreatDoorPI
import Derived.Test.YtekfmjddlemboaaGreatDoorPF
import Derived.ChangeSlices
import Derived.Shelf.LaysM
import Derived.Shelf.Strconv.Lower
import Derived.Shelf.Strconv.ParseUintEmpty
import Derived.Lib.Strings
import Derived.Lib.Walk
import Derived.Lib.ConvBytes
import Derived.Lib.ParseIntBMem
import Derived.Lib.Hide
import Derived.Laws.Strings3
import Derived.Laws.Closers25
import Derived.Laws.Closers25b
import Derived.WalkKit
import Derived.BigCall
import Derived.BigGuard
import Derived.Lib.ItoaWalk
import Derived.Lib.ItoaNum
import Derived.Laws.Bits64b
import Derived.Lib.LaidTab
import Derived.Laws.IdiomStrings
import Derived.Shelf.Strings.Builder1
import Derived.Shelf.Strings.Builder2
import Derived.Shelf.Strings.BuilderF
import Derived.Shelf.Strconv.Itoa0
import Derived.Shelf.Strconv.Itoa1
import Derived.Shelf.Strconv.Itoa2
import Derived.Shelf.Strconv.Itoa3
import Derived.Shelf.Strconv.Itoa4
import Derived.Shelf.Strconv.Clone
import Derived.Shelf.Strconv.RangeError
import Derived.Shelf.LaysC
import Derived.Shelf.Strconv.ToErrorRange
import Derived.Shelf.Strings.Search1
import Derived.Shelf.Strings.Search2
import Derived.Shelf.Strings.Search3
import Derived.Shelf.Strings.Cut
import Derived.Shelf.Strings.Count
import Derived.Shelf.Strings.Shaped
import Derived.Shelf.Strings.Prefix
import Derived.Shelf.Bits.Mul64
import Derived.Shelf.Strings.Repeat
import Derived.Shelf.Unicode.DecodeSlow
import Derived.Test.YtekfmjddlemboaaGreatDoorProg

/-! Contracts of the draw of a plate, and of A2Plate and A2Gain; each under its own premises. -/
set_option linter.unusedVariables false
set_option linter.unusedSimpArgs false
namespace Go.Proofs.YtekfmjddlemboaaGreatDoor
open Go.RowKit Ieee

/-- A plate as it is drawn. -/
structure DrawnP (a b : Nat) (F : Nat → Nat) : Prop where
  a1 : 1 ≤ a
  a5 : a ≤ 5
  b1 : 1 ≤ b
  b5 : b ≤ 5
  dot : ∀ i : Nat, partB (F i) = true ∧ F i < 2 ^ 32
  out : ∀ i : Nat, isC a b i = false → F i = 0
set_option maxRecDepth 100000 in
set_option maxHeartbeats 3200000 in
theorem drawnP_any (b : Nat) (ao : Option Addr) (n cap : Nat) (w : World) (hs : Src w b 0 ao n cap) (hb : BytesAt w b ao n) (hl : b < w.heap.size) :
    Calls Tryz.prog 33 #[.pointer (some ⟨b, 0, none⟩)] w fun e w' => ∃ (A B : Nat) (F : Nat → Nat), e = .returned (.agg (plate A B F)) ∧ DrawnP A B F ∧ Below b w w' := by
  have hz : Tryz.zeroCells29 = row [.int .i8 0, .int .i8 0] 64 (fun _ => 0) := rfl
  obtain ⟨p0, sd0, hp0, hB0⟩ := hs
  go_enter Tryz.func33, Tryz.ntmps33
  go_wp2_with (fail)
  refine (pick_any b 0 ao n cap 5 _ (by omega) (by omega) (by omega) ⟨p0, sd0, hp0, (by repeat (first | (with_reducible assumption) | ((with_reducible refine blk_new _ _ _ ?_); focus (first | omega | (simp; done) | (simp; omega))) | ((with_reducible refine blk_old _ _ _ ?_ ?_); focus (simp; done)) | ((with_reducible refine blk_old _ _ _ ?_ ?_); focus (first | omega | (simp; omega))) | ((with_reducible apply blk_set); focus (simp; done)) | ((with_reducible refine blk_off _ _ _ _ ?_ ?_); focus (simp; done)) | ((with_reducible refine blk_offc _ _ _ _ ?_ ?_); focus (first | (simp; done) | omega | (simp; omega))) | ((with_reducible refine blk_off _ _ _ _ ?_ ?_); focus (first | omega | (simp; omega))) | (with_reducible refine blk_drew _ _ ?_) | ((with_reducible refine blk_below (by assumption) ?_ ?_); focus (simp; done)) | ((with_reducible refine blk_below (by assumption) ?_ ?_); focus (first | omega | (simp; omega)))))⟩ (bytes_below (by repeat (first | (with_reducible assumption) | (with_reducible exact Below.refl _ _) | ((with_reducible refine bel_alloc _ ?_ ?_); focus (first | omega | (simp; done) | (simp; omega))) | ((with_reducible refine bel_row _ ?_ ?_); focus (first | omega | (simp; done) | (simp; omega))) | ((with_reducible refine bel_cell _ ?_ ?_); focus (first | omega | (simp; done) | (simp; omega))) | (with_reducible refine Below.drew ?_) | (with_reducible refine below_wideW _ ?_) | ((with_reducible refine bel_next (by assumption) ?_ ?_); focus (first | omega | (simp; done) | (simp; omega))))) hb)).mono ?_
  rintro e w1 ⟨x, rfl, hx0, hx9, ⟨p1, sd1, hp1, hB1⟩, hm1⟩
  have hR1 : w1.heap[w.heap.size]? = some (.cells (plate 0 0 (fun _ => 0)) 29 (0, 0)) := (hm1.2.1 _ (by omega)).trans (by repeat (first | (with_reducible assumption) | ((with_reducible refine blk_new _ _ _ ?_); focus (first | omega | (simp; done) | (simp; omega))) | ((with_reducible refine blk_old _ _ _ ?_ ?_); focus (simp; done)) | ((with_reducible refine blk_old _ _ _ ?_ ?_); focus (first | omega | (simp; omega))) | ((with_reducible apply blk_set); focus (simp; done)) | ((with_reducible refine blk_off _ _ _ _ ?_ ?_); focus (simp; done)) | ((with_reducible refine blk_offc _ _ _ _ ?_ ?_); focus (first | (simp; done) | omega | (simp; omega))) | ((with_reducible refine blk_off _ _ _ _ ?_ ?_); focus (first | omega | (simp; omega))) | (with_reducible refine blk_drew _ _ ?_) | ((with_reducible refine blk_below (by assumption) ?_ ?_); focus (simp; done)) | ((with_reducible refine blk_below (by assumption) ?_ ?_); focus (first | omega | (simp; omega)))))
  have hz1 : w1.heap.size = w.heap.size + 1 := hm1.2.2.trans (by simp)
  have hd1 : Below b w w1 := Below.trans (by repeat (first | (with_reducible assumption) | (with_reducible exact Below.refl _ _) | ((with_reducible refine bel_alloc _ ?_ ?_); focus (first | omega | (simp; done) | (simp; omega))) | ((with_reducible refine bel_row _ ?_ ?_); focus (first | omega | (simp; done) | (simp; omega))) | ((with_reducible refine bel_cell _ ?_ ?_); focus (first | omega | (simp; done) | (simp; omega))) | (with_reducible refine Below.drew ?_) | (with_reducible refine below_wideW _ ?_) | ((with_reducible refine bel_next (by assumption) ?_ ?_); focus (first | omega | (simp; done) | (simp; omega))))) hm1.1
  clear hm1 hB0
  obtain ⟨x, rfl⟩ := Int.eq_ofNat_of_zero_le hx0
  obtain ⟨A, hA⟩ : ∃ A : Nat, A = x + 1 := ⟨_, rfl⟩
  have hi8 : IntKind.i8.wrap (1 + (x : Int)) = (A : Int) := by rw [i8_small (by omega) (by omega), hA]; omega
  have a1 : 1 ≤ A := by omega
  have a5 : A ≤ 5 := by omega
  clear hA
  go_wp2_with (fail)
  refine (pick_any b 2 ao n cap 5 _ (by omega) (by omega) (by omega) ⟨p1, sd1, hp1, (by repeat (first | (with_reducible assumption) | ((with_reducible refine blk_new _ _ _ ?_); focus (first | omega | (simp; done) | (simp; omega))) | ((with_reducible refine blk_old _ _ _ ?_ ?_); focus (simp; done)) | ((with_reducible refine blk_old _ _ _ ?_ ?_); focus (first | omega | (simp; omega))) | ((with_reducible apply blk_set); focus (simp; done)) | ((with_reducible refine blk_off _ _ _ _ ?_ ?_); focus (simp; done)) | ((with_reducible refine blk_offc _ _ _ _ ?_ ?_); focus (first | (simp; done) | omega | (simp; omega))) | ((with_reducible refine blk_off _ _ _ _ ?_ ?_); focus (first | omega | (simp; omega))) | (with_reducible refine blk_drew _ _ ?_) | ((with_reducible refine blk_below (by assumption) ?_ ?_); focus (simp; done)) | ((with_reducible refine blk_below (by assumption) ?_ ?_); focus (first | omega | (simp; omega)))))⟩ (bytes_below (by repeat (first | (with_reducible assumption) | (with_reducible exact Below.refl _ _) | ((with_reducible refine bel_alloc _ ?_ ?_); focus (first | omega | (simp; done) | (simp; omega))) | ((with_reducible refine bel_row _ ?_ ?_); focus (first | omega | (simp; done) | (simp; omega))) | ((with_reducible refine bel_cell _ ?_ ?_); focus (first | omega | (simp; done) | (simp; omega))) | (with_reducible refine Below.drew ?_) | (with_reducible refine below_wideW _ ?_) | ((with_reducible refine bel_next (by assumption) ?_ ?_); focus (first | omega | (simp; done) | (simp; omega))))) hb)).mono ?_
  rintro e w2 ⟨y, rfl, hy0, hy9, ⟨p2, sd2, hp2, hB2⟩, hm2⟩
  have hR2 : w2.heap[w.heap.size]? = some (.cells (plate 0 0 (fun _ => 0)) 29 (0, 0)) := (hm2.2.1 _ (by omega)).trans (by repeat (first | (with_reducible assumption) | ((with_reducible refine blk_new _ _ _ ?_); focus (first | omega | (simp; done) | (simp; omega))) | ((with_reducible refine blk_old _ _ _ ?_ ?_); focus (simp; done)) | ((with_reducible refine blk_old _ _ _ ?_ ?_); focus (first | omega | (simp; omega))) | ((with_reducible apply blk_set); focus (simp; done)) | ((with_reducible refine blk_off _ _ _ _ ?_ ?_); focus (simp; done)) | ((with_reducible refine blk_offc _ _ _ _ ?_ ?_); focus (first | (simp; done) | omega | (simp; omega))) | ((with_reducible refine blk_off _ _ _ _ ?_ ?_); focus (first | omega | (simp; omega))) | (with_reducible refine blk_drew _ _ ?_) | ((with_reducible refine blk_below (by assumption) ?_ ?_); focus (simp; done)) | ((with_reducible refine blk_below (by assumption) ?_ ?_); focus (first | omega | (simp; omega)))))
  have hz2 : w2.heap.size = w.heap.size + 1 := hm2.2.2.trans (by simp [hz1])
  have hd2 : Below b w w2 := Below.trans (by repeat (first | (with_reducible assumption) | (with_reducible exact Below.refl _ _) | ((with_reducible refine bel_alloc _ ?_ ?_); focus (first | omega | (simp; done) | (simp; omega))) | ((with_reducible refine bel_row _ ?_ ?_); focus (first | omega | (simp; done) | (simp; omega))) | ((with_reducible refine bel_cell _ ?_ ?_); focus (first | omega | (simp; done) | (simp; omega))) | (with_reducible refine Below.drew ?_) | (with_reducible refine below_wideW _ ?_) | ((with_reducible refine bel_next (by assumption) ?_ ?_); focus (first | omega | (simp; done) | (simp; omega))))) hm2.1
  clear hm2 hB1 hR1 hd1 hz1
  obtain ⟨y, rfl⟩ := Int.eq_ofNat_of_zero_le hy0
  obtain ⟨B, hBB⟩ : ∃ B : Nat, B = y + 1 := ⟨_, rfl⟩
  have hj8 : IntKind.i8.wrap (1 + (y : Int)) = (B : Int) := by rw [i8_small (by omega) (by omega), hBB]; omega
  have b1 : 1 ≤ B := by omega
  have b5 : B ≤ 5 := by omega
  clear hBB
  go_wp2_with (first | ((with_reducible refine at_store 29 ?_); refine wpList_store_part rfl 29 _ _ rfl _ 0 _ rfl rfl _ _ (by repeat (first | (with_reducible assumption) | ((with_reducible refine blk_new _ _ _ ?_); focus (first | omega | (simp; done) | (simp; omega))) | ((with_reducible refine blk_old _ _ _ ?_ ?_); focus (simp; done)) | ((with_reducible refine blk_old _ _ _ ?_ ?_); focus (first | omega | (simp; omega))) | ((with_reducible apply blk_set); focus (simp; done)) | ((with_reducible refine blk_off _ _ _ _ ?_ ?_); focus (simp; done)) | ((with_reducible refine blk_offc _ _ _ _ ?_ ?_); focus (first | (simp; done) | omega | (simp; omega))) | ((with_reducible refine blk_off _ _ _ _ ?_ ?_); focus (first | omega | (simp; omega))) | (with_reducible refine blk_drew _ _ ?_) | ((with_reducible refine blk_below (by assumption) ?_ ?_); focus (simp; done)) | ((with_reducible refine blk_below (by assumption) ?_ ?_); focus (first | omega | (simp; omega))))) (by rw [row_size]; kernel_rfl) (by simp [row_size]) (row_cells _ _ _ rfl) _ (row_over _ _ 64 _ _ (by simp)) ?_))
  go_loopw [4] (fun i wr => ∃ (k : Nat) (G : Nat → Nat), k ≤ 64 ∧ i = .int .i64 k ∧ wr.heap[w.heap.size + 1]? = some (.cells (plate (A : Nat) (B : Nat) G) 29 (0, 0)) ∧ wr.heap[w.heap.size]? = some (.cells (plate 0 0 (fun _ => 0)) 29 (0, 0)) ∧ (∀ i : Nat, partB (G i) = true ∧ G i < 2 ^ 32) ∧ (∀ i : Nat, isC A B i = false → G i = 0) ∧ (∀ i : Nat, k ≤ i → G i = 0) ∧ Src wr b (4 + 4 * k) ao n cap ∧ wr.heap.size = w.heap.size + 2 ∧ Below b w wr) (fun i _ => 64 - (intOf i).toNat)
  case atStart => exact ⟨0, fun _ => 0, by omega, rfl, by rw [← hz2]; exact (by repeat (first | (with_reducible assumption) | ((with_reducible refine blk_new _ _ _ ?_); focus (first | omega | (simp; done) | (simp; omega))) | ((with_reducible refine blk_old _ _ _ ?_ ?_); focus (simp; done)) | ((with_reducible refine blk_old _ _ _ ?_ ?_); focus (first | omega | (simp; omega))) | ((with_reducible apply blk_set); focus (simp; done)) | ((with_reducible refine blk_off _ _ _ _ ?_ ?_); focus (simp; done)) | ((with_reducible refine blk_offc _ _ _ _ ?_ ?_); focus (first | (simp; done) | omega | (simp; omega))) | ((with_reducible refine blk_off _ _ _ _ ?_ ?_); focus (first | omega | (simp; omega))) | (with_reducible refine blk_drew _ _ ?_) | ((with_reducible refine blk_below (by assumption) ?_ ?_); focus (simp; done)) | ((with_reducible refine blk_below (by assumption) ?_ ?_); focus (first | omega | (simp; omega))))), (by repeat (first | (with_reducible assumption) | ((with_reducible refine blk_new _ _ _ ?_); focus (first | omega | (simp; done) | (simp; omega))) | ((with_reducible refine blk_old _ _ _ ?_ ?_); focus (simp; done)) | ((with_reducible refine blk_old _ _ _ ?_ ?_); focus (first | omega | (simp; omega))) | ((with_reducible apply blk_set); focus (simp; done)) | ((with_reducible refine blk_off _ _ _ _ ?_ ?_); focus (simp; done)) | ((with_reducible refine blk_offc _ _ _ _ ?_ ?_); focus (first | (simp; done) | omega | (simp; omega))) | ((with_reducible refine blk_off _ _ _ _ ?_ ?_); focus (first | omega | (simp; omega))) | (with_reducible refine blk_drew _ _ ?_) | ((with_reducible refine blk_below (by assumption) ?_ ?_); focus (simp; done)) | ((with_reducible refine blk_below (by assumption) ?_ ?_); focus (first | omega | (simp; omega))))), fun _ => ⟨(by decide +kernel : partB 0 = true), (by decide : 0 < 2 ^ 32)⟩, fun _ _ => rfl, fun _ _ => rfl, ⟨p2, sd2, hp2, (by repeat (first | (with_reducible assumption) | ((with_reducible refine blk_new _ _ _ ?_); focus (first | omega | (simp; done) | (simp; omega))) | ((with_reducible refine blk_old _ _ _ ?_ ?_); focus (simp; done)) | ((with_reducible refine blk_old _ _ _ ?_ ?_); focus (first | omega | (simp; omega))) | ((with_reducible apply blk_set); focus (simp; done)) | ((with_reducible refine blk_off _ _ _ _ ?_ ?_); focus (simp; done)) | ((with_reducible refine blk_offc _ _ _ _ ?_ ?_); focus (first | (simp; done) | omega | (simp; omega))) | ((with_reducible refine blk_off _ _ _ _ ?_ ?_); focus (first | omega | (simp; omega))) | (with_reducible refine blk_drew _ _ ?_) | ((with_reducible refine blk_below (by assumption) ?_ ?_); focus (simp; done)) | ((with_reducible refine blk_below (by assumption) ?_ ?_); focus (first | omega | (simp; omega)))))⟩, by simp [hz2], (by repeat (first | (with_reducible assumption) | (with_reducible exact Below.refl _ _) | ((with_reducible refine bel_alloc _ ?_ ?_); focus (first | omega | (simp; done) | (simp; omega))) | ((with_reducible refine bel_row _ ?_ ?_); focus (first | omega | (simp; done) | (simp; omega))) | ((with_reducible refine bel_cell _ ?_ ?_); focus (first | omega | (simp; done) | (simp; omega))) | (with_reducible refine Below.drew ?_) | (with_reducible refine below_wideW _ ?_) | ((with_reducible refine bel_next (by assumption) ?_ ?_); focus (first | omega | (simp; done) | (simp; omega)))))⟩
  case round =>
    clear hB2 hR2 hd2 hz2 hi8 hj8
    obtain ⟨k, G, hk, rfl, hT, hR, hG, hO, hZ, ⟨p, sd, hp, hB⟩, hzz, hd⟩ := hrel
    have HG := Lib.hid hG
    have HO := Lib.hid hO
    have HZ := Lib.hid hZ
    clear hG hO hZ
    by_cases hlt : k < 64
    · have c0 : wr.cell? ⟨w.heap.size + 1, 0, none⟩ = some (.int .i8 A) := (cell_of_row wr _ 0 _ _ _ hT).trans (row_g0 _ _ _ _)
      have c1 : wr.cell? ⟨w.heap.size + 1, 1, none⟩ = some (.int .i8 B) := (cell_of_row wr _ 1 _ _ _ hT).trans (row_g1 _ _ _ _ _)
      have hI := specIs_any (a := A) (b := B) (i := k) (by omega) (by omega) hlt wr (w.heap.size + 1) c0 c1
      cases hc : isC A B k
      · rw [hc] at hI
        go_wp2_with (go_at_call 46; (with_reducible refine hI.mono ?_); rintro e w' ⟨rfl, rfl⟩)
        go_roundw
        case rel => exact ⟨k + 1, G, by omega, by go_num, hT, hR, HG.out, HO.out, fun i hi => HZ.out i (by omega), ⟨p, sd, by omega, hB⟩, hzz, hd⟩
        case measure => simp [intOf]; omega
      · rw [hc] at hI
        go_wp2_with (go_at_call 46; (with_reducible refine hI.mono ?_); rintro e w' ⟨rfl, rfl⟩)
        refine (toneL_any b (4 + 4 * k) ao n cap _ (by omega) ⟨p, sd, hp, (by repeat (first | (with_reducible assumption) | ((with_reducible refine blk_new _ _ _ ?_); focus (first | omega | (simp; done) | (simp; omega))) | ((with_reducible refine blk_old _ _ _ ?_ ?_); focus (simp; done)) | ((with_reducible refine blk_old _ _ _ ?_ ?_); focus (first | omega | (simp; omega))) | ((with_reducible apply blk_set); focus (simp; done)) | ((with_reducible refine blk_off _ _ _ _ ?_ ?_); focus (simp; done)) | ((with_reducible refine blk_offc _ _ _ _ ?_ ?_); focus (first | (simp; done) | omega | (simp; omega))) | ((with_reducible refine blk_off _ _ _ _ ?_ ?_); focus (first | omega | (simp; omega))) | (with_reducible refine blk_drew _ _ ?_) | ((with_reducible refine blk_below (by assumption) ?_ ?_); focus (simp; done)) | ((with_reducible refine blk_below (by assumption) ?_ ?_); focus (first | omega | (simp; omega)))))⟩ (bytes_below (by repeat (first | (with_reducible assumption) | (with_reducible exact Below.refl _ _) | ((with_reducible refine bel_alloc _ ?_ ?_); focus (first | omega | (simp; done) | (simp; omega))) | ((with_reducible refine bel_row _ ?_ ?_); focus (first | omega | (simp; done) | (simp; omega))) | ((with_reducible refine bel_cell _ ?_ ?_); focus (first | omega | (simp; done) | (simp; omega))) | (with_reducible refine Below.drew ?_) | (with_reducible refine below_wideW _ ?_) | ((with_reducible refine bel_next (by assumption) ?_ ?_); focus (first | omega | (simp; done) | (simp; omega))))) hb)).mono ?_
        rintro e w6 ⟨v, rfl, hv, ⟨p6, sd6, hp6, hB6⟩, hm6⟩
        have hR6 : w6.heap[w.heap.size]? = some (.cells (plate 0 0 (fun _ => 0)) 29 (0, 0)) := (hm6.2.1 _ (by omega)).trans (by repeat (first | (with_reducible assumption) | ((with_reducible refine blk_new _ _ _ ?_); focus (first | omega | (simp; done) | (simp; omega))) | ((with_reducible refine blk_old _ _ _ ?_ ?_); focus (simp; done)) | ((with_reducible refine blk_old _ _ _ ?_ ?_); focus (first | omega | (simp; omega))) | ((with_reducible apply blk_set); focus (simp; done)) | ((with_reducible refine blk_off _ _ _ _ ?_ ?_); focus (simp; done)) | ((with_reducible refine blk_offc _ _ _ _ ?_ ?_); focus (first | (simp; done) | omega | (simp; omega))) | ((with_reducible refine blk_off _ _ _ _ ?_ ?_); focus (first | omega | (simp; omega))) | (with_reducible refine blk_drew _ _ ?_) | ((with_reducible refine blk_below (by assumption) ?_ ?_); focus (simp; done)) | ((with_reducible refine blk_below (by assumption) ?_ ?_); focus (first | omega | (simp; omega)))))
        have hT6 : w6.heap[w.heap.size + 1]? = some (.cells (plate (A : Nat) (B : Nat) G) 29 (0, 0)) := (hm6.2.1 _ (by omega)).trans hT
        have hz6 : w6.heap.size = w.heap.size + 2 := hm6.2.2.trans (by simp [hzz])
        have hd6 : Below b w w6 := Below.trans (by repeat (first | (with_reducible assumption) | (with_reducible exact Below.refl _ _) | ((with_reducible refine bel_alloc _ ?_ ?_); focus (first | omega | (simp; done) | (simp; omega))) | ((with_reducible refine bel_row _ ?_ ?_); focus (first | omega | (simp; done) | (simp; omega))) | ((with_reducible refine bel_cell _ ?_ ?_); focus (first | omega | (simp; done) | (simp; omega))) | (with_reducible refine Below.drew ?_) | (with_reducible refine below_wideW _ ?_) | ((with_reducible refine bel_next (by assumption) ?_ ?_); focus (first | omega | (simp; done) | (simp; omega))))) hm6.1
        clear hm6 hB hR hd hzz hT c0 c1 hI
        have ft6 : w6.frozen? ⟨w.heap.size + 1, 2 + k, none⟩ = false := frozen_of_row w6 _ _ _ _ hT6
        have ct6 : w6.cell? ⟨w.heap.size + 1, 2 + k, none⟩ = some (.float .f32 (G k)) := (cell_of_row w6 _ (2 + k) _ _ _ hT6).trans (row_k2 _ _ _ _ hlt)
        go_wp2_with (fail)
        go_roundw
        case rel => exact ⟨k + 1, upd G k v, by omega, by go_num, put_row (pre := [.int .i8 (A : Nat), .int .i8 (B : Nat)]) hlt hT6, put_off (by omega) hR6, fun i => by unfold upd; split; exact hv; exact HG.out i, fun i hi => by unfold upd; rw [if_neg (fun e => by rw [e, hc] at hi; cases hi)]; exact HO.out i hi, fun i hi => by unfold upd; rw [if_neg (by omega)]; exact HZ.out i (by omega), ⟨p6, sd6, by omega, put_off (by omega) hB6⟩, by simp [hz6], hd6.setCell (by simp; omega) _⟩
        case measure => simp [intOf]; omega
    · obtain rfl : k = 64 := by omega
      go_wp2_with (first | ((with_reducible refine at_load 29 ?_); refine wpList_load_part rfl 29 _ rfl _ 0 66 rfl _ _ _ _ (by repeat (first | (with_reducible assumption) | ((with_reducible refine blk_new _ _ _ ?_); focus (first | omega | (simp; done) | (simp; omega))) | ((with_reducible refine blk_old _ _ _ ?_ ?_); focus (simp; done)) | ((with_reducible refine blk_old _ _ _ ?_ ?_); focus (first | omega | (simp; omega))) | ((with_reducible apply blk_set); focus (simp; done)) | ((with_reducible refine blk_off _ _ _ _ ?_ ?_); focus (simp; done)) | ((with_reducible refine blk_offc _ _ _ _ ?_ ?_); focus (first | (simp; done) | omega | (simp; omega))) | ((with_reducible refine blk_off _ _ _ _ ?_ ?_); focus (first | omega | (simp; omega))) | (with_reducible refine blk_drew _ _ ?_) | ((with_reducible refine blk_below (by assumption) ?_ ?_); focus (simp; done)) | ((with_reducible refine blk_below (by assumption) ?_ ?_); focus (first | omega | (simp; omega))))) Tryz.underlying29 rfl (by kernel_rfl) (by simp [row_size]) _ (row_all [_, _] 64 _) ?_) | ((with_reducible refine at_store 29 ?_); refine wpList_store_part rfl 29 _ _ rfl _ 0 _ rfl rfl _ _ (by repeat (first | (with_reducible assumption) | ((with_reducible refine blk_new _ _ _ ?_); focus (first | omega | (simp; done) | (simp; omega))) | ((with_reducible refine blk_old _ _ _ ?_ ?_); focus (simp; done)) | ((with_reducible refine blk_old _ _ _ ?_ ?_); focus (first | omega | (simp; omega))) | ((with_reducible apply blk_set); focus (simp; done)) | ((with_reducible refine blk_off _ _ _ _ ?_ ?_); focus (simp; done)) | ((with_reducible refine blk_offc _ _ _ _ ?_ ?_); focus (first | (simp; done) | omega | (simp; omega))) | ((with_reducible refine blk_off _ _ _ _ ?_ ?_); focus (first | omega | (simp; omega))) | (with_reducible refine blk_drew _ _ ?_) | ((with_reducible refine blk_below (by assumption) ?_ ?_); focus (simp; done)) | ((with_reducible refine blk_below (by assumption) ?_ ?_); focus (first | omega | (simp; omega))))) (by rw [row_size]; kernel_rfl) (by simp [row_size]) (row_cells _ _ _ rfl) _ (row_over _ _ 64 _ _ (by simp)) ?_))
      refine bodyPost_ret (v := .agg (plate (A : Nat) (B : Nat) G)) ?_ ?_ ?_
      · refine results_cell_row Tryz.results33 _ _ _ 29 (plate (A : Nat) (B : Nat) G) (0, 0) _ rfl ?_ Tryz.underlying29 rfl (by rw [row_size]; kernel_rfl)
        exact (by repeat (first | (with_reducible assumption) | ((with_reducible refine blk_new _ _ _ ?_); focus (first | omega | (simp; done) | (simp; omega))) | ((with_reducible refine blk_old _ _ _ ?_ ?_); focus (simp; done)) | ((with_reducible refine blk_old _ _ _ ?_ ?_); focus (first | omega | (simp; omega))) | ((with_reducible apply blk_set); focus (simp; done)) | ((with_reducible refine blk_off _ _ _ _ ?_ ?_); focus (simp; done)) | ((with_reducible refine blk_offc _ _ _ _ ?_ ?_); focus (first | (simp; done) | omega | (simp; omega))) | ((with_reducible refine blk_off _ _ _ _ ?_ ?_); focus (first | omega | (simp; omega))) | (with_reducible refine blk_drew _ _ ?_) | ((with_reducible refine blk_below (by assumption) ?_ ?_); focus (simp; done)) | ((with_reducible refine blk_below (by assumption) ?_ ?_); focus (first | omega | (simp; omega)))))
      · rfl
      · exact ⟨A, B, G, rfl, ⟨by omega, by omega, by omega, by omega, HG.out, HO.out⟩, (by repeat (first | (with_reducible assumption) | (with_reducible exact Below.refl _ _) | ((with_reducible refine bel_alloc _ ?_ ?_); focus (first | omega | (simp; done) | (simp; omega))) | ((with_reducible refine bel_row _ ?_ ?_); focus (first | omega | (simp; done) | (simp; omega))) | ((with_reducible refine bel_cell _ ?_ ?_); focus (first | omega | (simp; done) | (simp; omega))) | (with_reducible refine Below.drew ?_) | (with_reducible refine below_wideW _ ?_) | ((with_reducible refine bel_next (by assumption) ?_ ?_); focus (first | omega | (simp; done) | (simp; omega)))))⟩
theorem a2plate_any (ao : Option Addr) (n cap : Nat) (w : World) (hb : BytesAt w w.heap.size ao n) : Calls Tryz.prog 5 #[.slice ao n cap] w fun e w' => ∃ (A B : Nat) (F : Nat → Nat), e = .returned (.agg (plate A B F)) ∧ DrawnP A B F ∧ Below w.heap.size w w' := by
  have hz : Tryz.zeroCells29 = row [.int .i8 0, .int .i8 0] 64 (fun _ => 0) := rfl
  go_enter Tryz.func5, Tryz.ntmps5
  go_wp2_with (go_at_call 34; (with_reducible refine (from_any ao n cap _).mono ?_); rintro e w' ⟨rfl, rfl⟩)
  refine (drawnP_any (w.heap.size + 1) ao n cap _ ⟨0, 0, Nat.le_refl _, blk_new _ _ _ (by simp)⟩ (bytes_wide (bytes_below (by repeat (first | (with_reducible assumption) | (with_reducible exact Below.refl _ _) | ((with_reducible refine bel_alloc _ ?_ ?_); focus (first | omega | (simp; done) | (simp; omega))) | ((with_reducible refine bel_row _ ?_ ?_); focus (first | omega | (simp; done) | (simp; omega))) | ((with_reducible refine bel_cell _ ?_ ?_); focus (first | omega | (simp; done) | (simp; omega))) | (with_reducible refine Below.drew ?_) | (with_reducible refine below_wideW _ ?_) | ((with_reducible refine bel_next (by assumption) ?_ ?_); focus (first | omega | (simp; done) | (simp; omega))))) hb) (by omega)) (by simp)).mono ?_
  rintro e w1 ⟨A, B, G, rfl, hS, hm⟩
  have hR : w1.heap[w.heap.size]? = some (.cells (plate 0 0 (fun _ => 0)) 29 (0, 0)) := (hm.block _ (by omega)).trans (by repeat (first | (with_reducible assumption) | ((with_reducible refine blk_new _ _ _ ?_); focus (first | omega | (simp; done) | (simp; omega))) | ((with_reducible refine blk_old _ _ _ ?_ ?_); focus (simp; done)) | ((with_reducible refine blk_old _ _ _ ?_ ?_); focus (first | omega | (simp; omega))) | ((with_reducible apply blk_set); focus (simp; done)) | ((with_reducible refine blk_off _ _ _ _ ?_ ?_); focus (simp; done)) | ((with_reducible refine blk_offc _ _ _ _ ?_ ?_); focus (first | (simp; done) | omega | (simp; omega))) | ((with_reducible refine blk_off _ _ _ _ ?_ ?_); focus (first | omega | (simp; omega))) | (with_reducible refine blk_drew _ _ ?_) | ((with_reducible refine blk_below (by assumption) ?_ ?_); focus (simp; done)) | ((with_reducible refine blk_below (by assumption) ?_ ?_); focus (first | omega | (simp; omega)))))
  have hz : w.heap.size + 2 ≤ w1.heap.size := by have := hm.size; simp at this; omega
  go_wp2_with (first | ((with_reducible refine at_store 29 ?_); refine wpList_store_part rfl 29 _ _ rfl _ 0 _ rfl rfl _ _ (by repeat (first | (with_reducible assumption) | ((with_reducible refine blk_new _ _ _ ?_); focus (first | omega | (simp; done) | (simp; omega))) | ((with_reducible refine blk_old _ _ _ ?_ ?_); focus (simp; done)) | ((with_reducible refine blk_old _ _ _ ?_ ?_); focus (first | omega | (simp; omega))) | ((with_reducible apply blk_set); focus (simp; done)) | ((with_reducible refine blk_off _ _ _ _ ?_ ?_); focus (simp; done)) | ((with_reducible refine blk_offc _ _ _ _ ?_ ?_); focus (first | (simp; done) | omega | (simp; omega))) | ((with_reducible refine blk_off _ _ _ _ ?_ ?_); focus (first | omega | (simp; omega))) | (with_reducible refine blk_drew _ _ ?_) | ((with_reducible refine blk_below (by assumption) ?_ ?_); focus (simp; done)) | ((with_reducible refine blk_below (by assumption) ?_ ?_); focus (first | omega | (simp; omega))))) (by rw [row_size]; kernel_rfl) (by simp [row_size]) (row_cells _ _ _ rfl) _ (row_over _ _ 64 _ _ (by simp)) ?_))
  refine bodyPost_ret (v := .agg (plate A B G)) ?_ ?_ ?_
  · refine results_cell_row Tryz.results5 _ _ _ 29 (plate A B G) (0, 0) _ rfl ?_ Tryz.underlying29 rfl (by rw [row_size]; kernel_rfl)
    exact (by repeat (first | (with_reducible assumption) | ((with_reducible refine blk_new _ _ _ ?_); focus (first | omega | (simp; done) | (simp; omega))) | ((with_reducible refine blk_old _ _ _ ?_ ?_); focus (simp; done)) | ((with_reducible refine blk_old _ _ _ ?_ ?_); focus (first | omega | (simp; omega))) | ((with_reducible apply blk_set); focus (simp; done)) | ((with_reducible refine blk_off _ _ _ _ ?_ ?_); focus (simp; done)) | ((with_reducible refine blk_offc _ _ _ _ ?_ ?_); focus (first | (simp; done) | omega | (simp; omega))) | ((with_reducible refine blk_off _ _ _ _ ?_ ?_); focus (first | omega | (simp; omega))) | (with_reducible refine blk_drew _ _ ?_) | ((with_reducible refine blk_below (by assumption) ?_ ?_); focus (simp; done)) | ((with_reducible refine blk_below (by assumption) ?_ ?_); focus (first | omega | (simp; omega)))))
  · rfl
  · exact ⟨A, B, G, rfl, hS, bel_row _ (Nat.le_refl _) (Below.trans (by repeat (first | (with_reducible assumption) | (with_reducible exact Below.refl _ _) | ((with_reducible refine bel_alloc _ ?_ ?_); focus (first | omega | (simp; done) | (simp; omega))) | ((with_reducible refine bel_row _ ?_ ?_); focus (first | omega | (simp; done) | (simp; omega))) | ((with_reducible refine bel_cell _ ?_ ?_); focus (first | omega | (simp; done) | (simp; omega))) | (with_reducible refine Below.drew ?_) | (with_reducible refine below_wideW _ ?_) | ((with_reducible refine bel_next (by assumption) ?_ ?_); focus (first | omega | (simp; done) | (simp; omega))))) (hm.mono (by omega)))⟩
end Go.Proofs.YtekfmjddlemboaaGreatDoor

/-! Small laws of worlds, and the parts of a function's code; each under its own premises. -/
set_option linter.unusedVariables false
set_option linter.unusedSimpArgs false
namespace Go.Proofs.YtekfmjddlemboaaGreatDoor
open Go.RowKit Ieee
theorem lt_of_heap {w : World} {g : Nat} {o : Obj} (h : w.heap[g]? = some o) : g < w.heap.size := by
  obtain ⟨h1, _⟩ := Array.getElem?_eq_some_iff.1 h
  exact h1
theorem chain1 {wk : World} {o o1 : Obj} {cs : Array Value} {g : Nat} (h : wk.heap[g]? = some o1) : ((wk.alloc o).setRow wk.heap.size cs).heap[g]? = some o1 := by
  have hl := lt_of_heap h
  exact blk_off _ _ _ _ (by omega) (blk_old _ _ _ hl h)
theorem chainN (wk : World) (a cs : Array Value) (t : TypeId) : ((wk.alloc (.cells a t)).setRow wk.heap.size cs).heap[wk.heap.size]? = some (.cells cs t (0, 0)) := blk_set _ _ _ _ _ _ _ rfl (blk_new _ _ _ rfl)
theorem old0 {wk w2 : World} {o1 : Obj} {g : Nat} (hb : Below wk.heap.size wk w2) (h : wk.heap[g]? = some o1) : w2.heap[g]? = some o1 := blk_below hb (lt_of_heap h) h
theorem old1 {wk w2 : World} {o o1 : Obj} {cs : Array Value} {g : Nat} (hb : Below ((wk.alloc o).setRow wk.heap.size cs).heap.size ((wk.alloc o).setRow wk.heap.size cs) w2) (h : wk.heap[g]? = some o1) : w2.heap[g]? = some o1 := by
  have hl := lt_of_heap h
  exact blk_below hb (by simp; omega) (chain1 h)
theorem new1 {wk w2 : World} {a cs : Array Value} {t : TypeId} (hb : Below ((wk.alloc (.cells a t)).setRow wk.heap.size cs).heap.size ((wk.alloc (.cells a t)).setRow wk.heap.size cs) w2) : w2.heap[wk.heap.size]? = some (.cells cs t (0, 0)) :=
  blk_below hb (by simp) (chainN _ _ _ _)
theorem bel0 {B : Nat} {w wk w2 : World} (hb : Below wk.heap.size wk w2) (h : Below B w wk) (hl : B ≤ wk.heap.size) : Below B w w2 := h.trans (hb.mono hl)
theorem belr {B : Nat} {w wk : World} {o : Obj} {cs : Array Value} (h : Below B w wk) (hl : B ≤ wk.heap.size) : Below B w ((wk.alloc o).setRow wk.heap.size cs) := bel_row _ hl (bel_alloc _ hl h)
theorem bel1 {B : Nat} {w wk w2 : World} {o : Obj} {cs : Array Value} (hb : Below ((wk.alloc o).setRow wk.heap.size cs).heap.size ((wk.alloc o).setRow wk.heap.size cs) w2) (h : Below B w wk) (hl : B ≤ wk.heap.size) : Below B w w2 :=
  bel_next hb (by simp; omega) (bel_row _ hl (bel_alloc _ hl h))

/-! ### the parts of a code -/
def cL : Code → Code
  | .seq a _ => a
  | c => c
def cR : Code → Code
  | .seq _ b => b
  | c => c
def cB : Code → Code
  | .block _ c => c
  | c => c
def cO : Code → Code
  | .loop c => c
  | c => c
def cRn : Nat → Code → Code
  | 0, c => c
  | n + 1, c => cRn n (cR c)
def bodyOf (f : Func) : Code := f.body.getD .skip
end Go.Proofs.YtekfmjddlemboaaGreatDoor

/-! The bytes that a law's argument holds. -/
set_option linter.unusedVariables false
set_option linter.unusedSimpArgs false
namespace Go.Proofs.YtekfmjddlemboaaGreatDoor
open Go.ChangeShapes Go.WideShapes Go.ChangeAt Go.RowKit

theorem cell_in {w : World} {a : Addr} {v : Value} (h : w.cell? a = some v) : a.block < w.heap.size := by
  refine Classical.byContradiction fun hn => ?_
  have : w.heap[a.block]? = none := Array.getElem?_eq_none (by omega)
  simp [World.cell?, this] at h
theorem form_bytes {H : Type} {P : Program} {enc : TypeId × Value → H} {r : Reach} {W : World} {b0 : Nat} {t e : TypeId} {v : Value} {d : DataW H} {ps : List MemPlace} {base : Nat} {spare : Nat → Bool} {held : Bool} (ht : P.underlying t = some (.slice e)) (he : P.underlying e = some (.int .u8)) (hc : P.cellsOf e = 1)
    (hval : Value.okWide P W r b0 t v) (hd : DataW.Trod enc P W base spare held t v d ps) : ∃ (ao : Option Addr) (n cap : Nat), v = .slice ao n cap ∧ BytesAt W W.heap.size ao n := by
  obtain ⟨a0, n0, c0, rfl⟩ := okWide_slice ht hval
  refine ⟨a0, n0, c0, rfl, ?_⟩
  obtain ⟨fuel, hf⟩ := hd
  rcases open_ints ht he hc hf with ⟨hcs, _⟩ | ⟨a, len, cap, zs, hcs, _, hl, hm, hz, _, hcell, hwz⟩
  · obtain ⟨rfl, rfl, rfl⟩ : a0 = none ∧ n0 = 0 ∧ c0 = 0 := by simpa [Value.cells] using hcs
    exact ⟨Nat.zero_le _, fun h => by omega⟩
  · obtain ⟨rfl, rfl, rfl⟩ : a0 = some a ∧ n0 = len ∧ c0 = cap := by simpa [Value.cells] using hcs
    have hlen : n0 ≤ zs.length := by rw [hz]; split <;> omega
    refine ⟨by omega, fun h => ⟨a, rfl, ?_, fun i hi => ?_⟩⟩
    · have := cell_in (hcell 0 (by omega))
      rwa [show (a.add 0).block = a.block from by unfold Addr.add; split <;> rfl] at this
    · refine ⟨zs.getD i 0, hcell i (by omega), ?_⟩
      have hw := hwz (zs.getD i 0) (by
        rw [List.getD_eq_getElem?_getD, List.getElem?_eq_getElem (by omega)]
        exact List.getElem_mem _)
      generalize zs.getD i 0 = z at hw ⊢
      simp [Lit.wf, IntKind.min, IntKind.max, IntKind.signed, IntKind.bits] at hw
      omega
end Go.Proofs.YtekfmjddlemboaaGreatDoor

/-! Numbers and their texts of eight hexadecimal digits; plain, no program in sight. -/
set_option linter.unusedVariables false
set_option linter.unusedSimpArgs false
namespace Go.Proofs.YtekfmjddlemboaaGreatDoor

/-- The byte of a digit. -/
def hexDig (n : Nat) : UInt8 := UInt8.ofNat (if n < 10 then 48 + n else 87 + n)
/-- The lowest k digits of u. -/
def hexL : Nat → Nat → List UInt8
  | 0, _ => []
  | k + 1, u => hexL k (u / 16) ++ [hexDig (u % 16)]
/-- The digits of u without leading zeros, at most k. -/
def hexS : Nat → Nat → List UInt8
  | 0, _ => []
  | k + 1, u => if u < 16 then [hexDig u] else hexS k (u / 16) ++ [hexDig (u % 16)]
/-- The digit of a byte. -/
def digOf (c : Nat) : Option Nat := if 48 ≤ c ∧ c ≤ 57 then some (c - 48) else if 97 ≤ c ∧ c ≤ 102 then some (c - 87) else none

theorem hexL_length : ∀ k u, (hexL k u).length = k
  | 0, _ => rfl
  | k + 1, u => by simp [hexL, hexL_length k]
theorem hexL_zero : ∀ k, hexL k 0 = List.replicate k 48
  | 0 => rfl
  | k + 1 => by
    show hexL k 0 ++ [hexDig 0] = _
    rw [hexL_zero k, List.replicate_succ']
    rfl
theorem hexS_length_le : ∀ k u, (hexS k u).length ≤ k
  | 0, _ => Nat.le_refl _
  | k + 1, u => by
    unfold hexS
    split
    · simp
    · have := hexS_length_le k (u / 16); simp; omega
theorem hexS_pad : ∀ k u, 0 < k → u < 16 ^ k → List.replicate (k - (hexS k u).length) 48 ++ hexS k u = hexL k u
  | 0, _, h, _ => absurd h (by omega)
  | k + 1, u, _, h => by
    unfold hexS hexL
    split
    · rename_i hu
      have e0 : u / 16 = 0 := by omega
      have e1 : u % 16 = u := by omega
      rw [e0, e1, hexL_zero]
      simp
    · rename_i hu
      have hk : 0 < k := by
        cases k with
        | zero => simp at h; omega
        | succ k => omega
      have hd : u / 16 < 16 ^ k := by rw [Nat.pow_succ] at h; omega
      have ih := hexS_pad k (u / 16) hk hd
      have hl := hexS_length_le k (u / 16)
      rw [← ih, List.length_append, List.length_singleton, Nat.add_sub_add_right, List.append_assoc]
/-- The value of digits, the first ones the highest, behind a value already read; none if a byte is no digit. -/
def hexV : Nat → List UInt8 → Option Nat
  | a, [] => some a
  | a, c :: l => match digOf c.toNat with
    | some d => hexV (a * 16 + d) l
    | none => none

theorem digOf_hexDig : ∀ n, n < 16 → digOf (hexDig n).toNat = some n := by decide
theorem hexDig_digOf : ∀ c : Nat, c < 256 → ∀ d, digOf c = some d → d < 16 ∧ hexDig d = UInt8.ofNat c := by
  intro c hc d hd
  unfold digOf at hd
  split at hd
  · injection hd with hd
    subst hd
    refine ⟨by omega, ?_⟩
    unfold hexDig
    rw [if_pos (by omega)]
    congr 1
    omega
  · split at hd
    · injection hd with hd
      subst hd
      refine ⟨by omega, ?_⟩
      unfold hexDig
      rw [if_neg (by omega)]
      congr 1
      omega
    · exact absurd hd (by simp)
theorem hexV_cons (a : Nat) (c : UInt8) (l : List UInt8) : hexV a (c :: l) = (digOf c.toNat).bind fun d => hexV (a * 16 + d) l := by
  show (match digOf c.toNat with | some d => hexV (a * 16 + d) l | none => none) = _
  cases digOf c.toNat <;> rfl
theorem hexV_append : ∀ (l : List UInt8) (a : Nat) (m : List UInt8), hexV a (l ++ m) = (hexV a l).bind fun b => hexV b m
  | [], _, _ => rfl
  | c :: l, a, m => by
    rw [List.cons_append, hexV_cons, hexV_cons]
    cases digOf c.toNat with
    | none => rfl
    | some d => exact hexV_append l _ m
theorem hexV_hexL : ∀ k u a, u < 16 ^ k → hexV a (hexL k u) = some (a * 16 ^ k + u)
  | 0, u, a, h => by simp at h; simp [hexL, hexV, h]
  | k + 1, u, a, h => by
    have hd : u / 16 < 16 ^ k := by rw [Nat.pow_succ] at h; omega
    rw [show hexL (k + 1) u = hexL k (u / 16) ++ [hexDig (u % 16)] from rfl, hexV_append, hexV_hexL k _ a hd]
    show (match digOf (hexDig (u % 16)).toNat with | some d => hexV ((a * 16 ^ k + u / 16) * 16 + d) [] | none => none) = _
    rw [digOf_hexDig _ (by omega)]
    show some ((a * 16 ^ k + u / 16) * 16 + u % 16) = _
    congr 1
    rw [Nat.pow_succ, Nat.add_mul, Nat.mul_assoc]
    omega
theorem hexL_hexV : ∀ (l : List UInt8) (v : Nat), hexV 0 l = some v → v < 16 ^ l.length ∧ l = hexL l.length v := by
  intro l
  -- from the last byte on
  suffices h : ∀ (m : List UInt8) v, hexV 0 m.reverse = some v → v < 16 ^ m.length ∧ m.reverse = hexL m.length v by
    intro v hv
    have := h l.reverse v (by simpa using hv)
    simpa using this
  intro m
  induction m with
  | nil => intro v hv; simp [hexV] at hv; subst hv; simp [hexL]
  | cons c m ih =>
    intro v hv
    rw [List.reverse_cons, hexV_append] at hv
    cases h1 : hexV 0 m.reverse with
    | none => rw [h1] at hv; simp at hv
    | some b =>
      rw [h1] at hv
      obtain ⟨hb, eb⟩ := ih b h1
      simp only [Option.bind] at hv
      cases h2 : digOf c.toNat with
      | none => simp [hexV, h2] at hv
      | some d =>
        simp [hexV, h2] at hv
        obtain ⟨hd, ed⟩ := hexDig_digOf c.toNat c.toNat_lt d h2
        subst hv
        have e0 : (b * 16 + d) / 16 = b := by omega
        have e1 : (b * 16 + d) % 16 = d := by omega
        refine ⟨by rw [List.length_cons, Nat.pow_succ]; omega, ?_⟩
        rw [List.reverse_cons, List.length_cons, show hexL (m.length + 1) (b * 16 + d) = hexL m.length ((b * 16 + d) / 16) ++ [hexDig ((b * 16 + d) % 16)] from rfl, e0, e1, ← eb, ed]
        congr 1
        simp

end Go.Proofs.YtekfmjddlemboaaGreatDoor

/-! internal/strconv.ParseUint(s, 16, 32), over any program that lays it. -/
set_option linter.unusedVariables false
set_option linter.unusedSimpArgs false
namespace Go.Proofs.YtekfmjddlemboaaGreatDoor
open Go.Shelf Go.RowKit
variable {P : Program} {ρ : Ren}

/-- The digit of a byte, capitals too. -/
def digU (c : Nat) : Option Nat := if 48 ≤ c ∧ c ≤ 57 then some (c - 48) else if 97 ≤ c ∧ c ≤ 102 then some (c - 87) else if 65 ≤ c ∧ c ≤ 70 then some (c - 55) else none
/-- The value of digits, of 32 bits at most. -/
def hexU : Nat → List UInt8 → Option Nat
  | a, [] => some a
  | a, c :: l => match digU c.toNat with
    | some d => if a * 16 + d ≤ 4294967295 then hexU (a * 16 + d) l else none
    | none => none
theorem low_same : ∀ c : Nat, c < 256 → 97 ≤ c → c ≤ 122 → bits .or .u8 (c : Int) 32 = (c : Int) := by decide +kernel
theorem low_cap : ∀ c : Nat, c < 256 → 65 ≤ c → c ≤ 90 → bits .or .u8 (c : Int) 32 = (c : Int) + 32 := by decide +kernel
theorem low_no : ∀ c : Nat, c < 256 → ¬ (97 ≤ c ∧ c ≤ 122) → ¬ (65 ≤ c ∧ c ≤ 90) → ¬ (97 ≤ bits .or .u8 (c : Int) 32 ∧ bits .or .u8 (c : Int) 32 ≤ 122) := by decide +kernel

/-- What the outcome is: the number, or some error. -/
def uintEnd (T : TypeId) (o : Option Nat) (v : Value) : Prop :=
  match o with
  | some n => v = .tuple #[.int .u64 n, .nilIface]
  | none => ∃ (M e : Int), (e = 1 ∨ e = 2) ∧ v = .tuple #[.int .u64 M, .iface T (.int .i64 e)]

set_option maxHeartbeats 32000000 in
set_option maxRecDepth 100000 in
theorem parseUint16 (L : Lays.n287 P ρ) (t : ByteArray) (hne : t.size ≠ 0) (hmax : t.size ≤ 9223372036854775806) (w : World) :
    Calls P (ρ.f 287) #[.string t, .int .i64 16, .int .i64 32] w fun e w' => (∃ v, e = .returned v ∧ uintEnd (ρ.t 167) (hexU 0 t.data.toList) v) ∧ w' = Lib.bytesWorld w (ρ.t 5) t := by
  have mixed := L.mixed
  have t9 := L.t9; have a9 := L.a9; have z9 := L.z9; have v9 := L.v9
  have t3 := L.t3; have a3 := L.a3; have z3 := L.z3; have v3 := L.v3
  have t53 := L.t53; have a53 := L.a53; have z53 := L.z53; have v53 := L.v53
  have t75 := L.t75; have a75 := L.a75; have z75 := L.z75; have v75 := L.v75
  have t4 := L.t4; have a4 := L.a4; have z4 := L.z4; have v4 := L.v4
  have t167 := L.t167; have a167 := L.a167; have z167 := L.z167; have v167 := L.v167
  have t5 := L.t5; have a5 := L.a5; have z5 := L.z5; have v5 := L.v5
  have t46 := L.t46; have a46 := L.a46; have z46 := L.z46; have v46 := L.v46
  have t37 := L.t37; have a37 := L.a37; have z37 := L.z37; have v37 := L.v37
  have t0 := L.t0; have a0 := L.a0; have z0 := L.z0; have v0 := L.v0
  have e321 : ∀ args w, (callFunc (ρ.f 321) args).run P w = .ok (.enter (ρ.f 321) args) w := enters_of L.f321 (by kernel_rfl) rfl
  have hemp : t.toList.isEmpty = false := by
    rw [← decide_eq_emptyBytes]
    exact decide_eq_false (fun h => hne (by rw [h]; rfl))
  have hcv := Lib.run_convert_string_bytes (P := P) w (ρ.t 9) (ρ.t 37) (ρ.t 5) t (u := .string) L.t9 L.t37 L.t5
  have hB : ∀ j, j < t.size → (Lib.bytesWorld w (ρ.t 5) t).cell? ⟨w.heap.size, j, none⟩ = some (.int .u8 (t.data.toList.getD j 0).toNat) := fun j hj => Lib.bytesWorld_cell w (ρ.t 5) t j hj
  obtain ⟨W1, hW1⟩ : ∃ W1, W1 = Lib.bytesWorld w (ρ.t 5) t := ⟨_, rfl⟩
  rw [← hW1] at hcv hB ⊢
  clear hW1
  obtain ⟨bs, hL⟩ : ∃ bs, bs = t.data.toList := ⟨_, rfl⟩
  have hLn : bs.length = t.size := by rw [hL, Lib.size_eq]
  rw [← hL] at hB ⊢
  clear hL
  have hmv : IntKind.u64.wrap (IntKind.u64.wrap 4294967296 - 1) = 4294967295 := by
    rw [IntKind.wrap_u64, IntKind.wrap_u64]
    decide
  go_enter L.f287, Body.n287_ntmps ρ
  go_wp2
  go_loop [12, 13, 101] (fun vu vn vi => ∃ (k acc : Nat) (a : Int), vu = .bool false ∧ vn = .int .u64 a ∧ vi = .int .i64 k ∧ k ≤ t.size ∧ Hid (a = (acc : Int) ∧ acc ≤ 4294967295 ∧ hexU 0 bs = hexU acc (bs.drop k)))
    (fun _ _ vi => t.size - (intOf vi).toNat)
  case atStart => exact ⟨0, 0, 0, rfl, rfl, rfl, by omega, rfl, by omega, rfl⟩
  case round =>
    obtain ⟨k, acc, a, rfl, rfl, rfl, hk, hh⟩ := hrel
    obtain ⟨ha, hacc, hdec⟩ := hh.out
    clear hh
    have a0 : 0 ≤ a := by omega
    have a1 : a ≤ 4294967295 := by omega
    by_cases hkn : k < t.size
    · have hc := hB k hkn
      have hdrop : bs.drop k = bs[k]'(by omega) :: bs.drop (k + 1) := List.drop_eq_getElem_cons (by omega)
      have hget : bs.getD k 0 = bs[k]'(by omega) := by simp [List.getD, List.getElem?_eq_getElem (show k < bs.length by omega)]
      rw [hdrop] at hdec
      rw [hget] at hc
      generalize bs[k]'(by omega) = c at hc hdec
      have hc256 : c.toNat < 256 := c.toNat_lt
      clear hB hdrop hget
      cases hd : digU c.toNat with
      | some d =>
        by_cases hov : acc * 16 + d ≤ 4294967295
        · have hF : hexU acc (c :: bs.drop (k + 1)) = hexU (acc * 16 + d) (bs.drop (k + 1)) := by simp [hexU, hd, hov]
          have HN : Hid (a * 16 + (d : Int) = ((acc * 16 + d : Nat) : Int) ∧ acc * 16 + d ≤ 4294967295 ∧ hexU 0 bs = hexU (acc * 16 + d) (bs.drop (k + 1))) := Lib.hid ⟨by omega, by omega, hdec.trans hF⟩
          have iov : a * 16 + (d : Int) ≤ 4294967295 := by omega
          by_cases h1 : 48 ≤ c.toNat ∧ c.toNat ≤ 57
          · have hdv : d = c.toNat - 48 := by rw [digU, if_pos h1] at hd; injection hd with hd; exact hd.symm
            obtain ⟨h1a, h1b⟩ := h1
            obtain rfl := hdv
            clear hacc hF hov hdec ha hd
            go_wp2
            refine ⟨⟨k + 1, _, _, rfl, ?_, ?_, by omega, HN⟩, by simp [intOf]; omega⟩
            · congr 1; omega
            · first | rfl | (congr 1; omega)
          · by_cases h2 : 97 ≤ c.toNat ∧ c.toNat ≤ 102
            · have hdv : d = c.toNat - 87 := by rw [digU, if_neg h1, if_pos h2] at hd; injection hd with hd; exact hd.symm
              have hlow := low_same c.toNat hc256 (by omega) (by omega)
              obtain ⟨h2a, h2b⟩ := h2
              clear h1
              obtain rfl := hdv
              clear hacc hF hov hdec ha hd
              go_wp2_with (go_at_fn (ρ.f 321); refine (Any.internal_strconv_lower { L with } _ _).mono ?_; rintro e w' ⟨rfl, rfl⟩; rw [hlow])
              refine ⟨⟨k + 1, _, _, rfl, ?_, ?_, by omega, HN⟩, by simp [intOf]; omega⟩
              · congr 1; omega
              · first | rfl | (congr 1; omega)
            · have h3 : 65 ≤ c.toNat ∧ c.toNat ≤ 70 := by
                unfold digU at hd
                rw [if_neg h1, if_neg h2] at hd
                exact Classical.byContradiction fun h => by rw [if_neg h] at hd; exact absurd hd (by simp)
              have hdv : d = c.toNat - 55 := by rw [digU, if_neg h1, if_neg h2, if_pos h3] at hd; injection hd with hd; exact hd.symm
              have hlow := low_cap c.toNat hc256 (by omega) (by omega)
              obtain ⟨h3a, h3b⟩ := h3
              clear h1 h2
              obtain rfl := hdv
              clear hacc hF hov hdec ha hd
              go_wp2_with (go_at_fn (ρ.f 321); refine (Any.internal_strconv_lower { L with } _ _).mono ?_; rintro e w' ⟨rfl, rfl⟩; rw [hlow])
              refine ⟨⟨k + 1, _, _, rfl, ?_, ?_, by omega, HN⟩, by simp [intOf]; omega⟩
              · congr 1; omega
              · first | rfl | (congr 1; omega)
        · -- OVER THE SIZE
          have hF : hexU acc (c :: bs.drop (k + 1)) = none := by simp [hexU, hd, hov]
          rw [hF] at hdec
          have HD := Lib.hid hdec
          have iov : 4294967295 < a * 16 + (d : Int) := by omega
          by_cases h1 : 48 ≤ c.toNat ∧ c.toNat ≤ 57
          · have hdv : d = c.toNat - 48 := by rw [digU, if_pos h1] at hd; injection hd with hd; exact hd.symm
            obtain ⟨h1a, h1b⟩ := h1
            obtain rfl := hdv
            clear hacc hF hov hdec ha hd
            go_wp2
            go_ret2
            exact ⟨⟨_, rfl, by rw [HD.out]; exact ⟨_, 1, Or.inl rfl, rfl⟩⟩, rfl⟩
          · by_cases h2 : 97 ≤ c.toNat ∧ c.toNat ≤ 102
            · have hdv : d = c.toNat - 87 := by rw [digU, if_neg h1, if_pos h2] at hd; injection hd with hd; exact hd.symm
              have hlow := low_same c.toNat hc256 (by omega) (by omega)
              obtain ⟨h2a, h2b⟩ := h2
              clear h1
              obtain rfl := hdv
              clear hacc hF hov hdec ha hd
              go_wp2_with (go_at_fn (ρ.f 321); refine (Any.internal_strconv_lower { L with } _ _).mono ?_; rintro e w' ⟨rfl, rfl⟩; rw [hlow])
              go_ret2
              exact ⟨⟨_, rfl, by rw [HD.out]; exact ⟨_, 1, Or.inl rfl, rfl⟩⟩, rfl⟩
            · have h3 : 65 ≤ c.toNat ∧ c.toNat ≤ 70 := by
                unfold digU at hd
                rw [if_neg h1, if_neg h2] at hd
                exact Classical.byContradiction fun h => by rw [if_neg h] at hd; exact absurd hd (by simp)
              have hdv : d = c.toNat - 55 := by rw [digU, if_neg h1, if_neg h2, if_pos h3] at hd; injection hd with hd; exact hd.symm
              have hlow := low_cap c.toNat hc256 (by omega) (by omega)
              obtain ⟨h3a, h3b⟩ := h3
              clear h1 h2
              obtain rfl := hdv
              clear hacc hF hov hdec ha hd
              go_wp2_with (go_at_fn (ρ.f 321); refine (Any.internal_strconv_lower { L with } _ _).mono ?_; rintro e w' ⟨rfl, rfl⟩; rw [hlow])
              go_ret2
              exact ⟨⟨_, rfl, by rw [HD.out]; exact ⟨_, 1, Or.inl rfl, rfl⟩⟩, rfl⟩
      | none =>
        -- NO DIGIT
        have hF : hexU acc (c :: bs.drop (k + 1)) = none := by simp [hexU, hd]
        rw [hF] at hdec
        have HD := Lib.hid hdec
        have n1 : ¬ (48 ≤ c.toNat ∧ c.toNat ≤ 57) := fun h => by simp [digU, h] at hd
        have n2 : ¬ (97 ≤ c.toNat ∧ c.toNat ≤ 102) := fun h => by simp [digU, n1, h] at hd
        have n3 : ¬ (65 ≤ c.toNat ∧ c.toNat ≤ 70) := fun h => by simp [digU, n1, n2, h] at hd
        clear hacc hF ha hd hdec
        obtain ⟨m, hm⟩ : ∃ m, m = bits .or .u8 (c.toNat : Int) 32 := ⟨_, rfl⟩
        have m0 : 0 ≤ m := by rw [hm]; exact bits_lo_u8 .or (c.toNat : Int) 32
        have m1 : m ≤ 255 := by rw [hm]; exact bits_hi_u8 .or (c.toNat : Int) 32
        have h95 : bits .or .u8 95 32 = 127 := by decide +kernel
        have m2 : ¬ (97 ≤ m ∧ m ≤ 102) := by
          by_cases q1 : 97 ≤ c.toNat ∧ c.toNat ≤ 122
          · rw [hm, low_same c.toNat hc256 q1.1 q1.2]; omega
          · by_cases q2 : 65 ≤ c.toNat ∧ c.toNat ≤ 90
            · rw [hm, low_cap c.toNat hc256 q2.1 q2.2]; omega
            · have := low_no c.toNat hc256 q1 q2
              rw [← hm] at this
              omega
        by_cases q : 97 ≤ m ∧ m ≤ 122
        · obtain ⟨q0, q1⟩ := q
          have q2 : 103 ≤ m := by omega
          clear m2
          go_wp2_with (go_at_fn (ρ.f 321); refine (Any.internal_strconv_lower { L with } _ _).mono ?_; rintro e w' ⟨rfl, rfl⟩; first | rw [← hm] | rw [h95])
          all_goals go_ret2
          all_goals exact ⟨⟨_, rfl, by rw [HD.out]; exact ⟨_, 2, Or.inr rfl, rfl⟩⟩, rfl⟩
        · clear m2
          go_wp2_with (go_at_fn (ρ.f 321); refine (Any.internal_strconv_lower { L with } _ _).mono ?_; rintro e w' ⟨rfl, rfl⟩; first | rw [← hm] | rw [h95])
          all_goals go_ret2
          all_goals exact ⟨⟨_, rfl, by rw [HD.out]; exact ⟨_, 2, Or.inr rfl, rfl⟩⟩, rfl⟩
    · -- THE BYTES ARE AT AN END
      have hkk : k = t.size := by omega
      subst hkk
      have hF : hexU acc (bs.drop t.size) = some acc := by rw [List.drop_eq_nil_of_le (by omega)]; rfl
      rw [hF] at hdec
      have HD := Lib.hid hdec
      subst ha
      clear hacc hF a0 a1 hdec
      go_wp2
      go_ret2
      exact ⟨⟨_, rfl, by rw [HD.out]; rfl⟩, rfl⟩
end Go.Proofs.YtekfmjddlemboaaGreatDoor

/-! internal/strconv.formatBits at base 16, for numbers of 32 bits. -/
set_option linter.unusedVariables false
set_option linter.unusedSimpArgs false
namespace Go.Proofs.YtekfmjddlemboaaGreatDoor
open Go.RowKit Go.Lib

def deBruijn64 : List Int := [0, 1, 56, 2, 57, 49, 28, 3, 61, 58, 42, 50, 38, 29, 17, 4, 62, 47, 59, 36, 45, 43, 51, 22, 53, 39, 33, 30, 24, 18, 12, 5, 63, 55, 48, 27, 60, 41, 37, 16, 46, 35, 44, 21, 52, 32, 23, 11, 54, 26, 40, 15, 34, 20, 31, 10, 25, 14, 19, 9, 13, 8, 7, 6]

theorem digits36_at : ∀ i, i < 16 → digits36.data.toList.getD i 0 = hexDig i := by decide +kernel
theorem idx_digits {P : Program} (t : TypeId) (ht : P.underlying t = some .string) (k : IntKind) (z : Int) (i : Nat) (hz : z = (i : Int)) (hi : i < 16) (w : World) :
    (Instr.index t (.string digits36) (.int k z)).run P w = .ok (.int .u8 ((hexDig i).toNat : Int)) w := by
  subst hz
  rw [run_index_string w t digits36 k _ ht, dif_pos ⟨by omega, by rw [digits36_size]; omega⟩]
  have e : ((i : Int)).toNat = i := by omega
  simp only [e]
  rw [Lib.getD_at digits36 i (by rw [digits36_size]; omega), digits36_at i hi]
theorem and15 (v : Nat) (hv : v < 18446744073709551616) : bits .and .u64 (v : Int) 15 = ((v % 16 : Nat) : Int) := by
  have h := bits_and_u64_nat v 15 hv (by omega)
  rw [Nat.and_two_pow_sub_one_eq_mod v 4] at h
  exact h
set_option maxHeartbeats 4000000 in
set_option maxRecDepth 100000 in
theorem isPow16 (w : World) : Calls Tryz.prog 133 #[.int .i64 16] w fun e w' => e = .returned (.bool true) ∧ w = w' := by
  have h1 : bits .and .i64 16 15 = 0 := by decide
  go_enter Tryz.func133, Tryz.ntmps133
  go_wp2
  go_ret
  exact ⟨rfl, rfl⟩

set_option maxHeartbeats 4000000 in
set_option maxRecDepth 100000 in
theorem tz16 (w : World) (hc : w.cell? ⟨8, 15, none⟩ = some (.int .u8 4)) : Calls Tryz.prog 134 #[.int .u64 16] w fun e w' => e = .returned (.int .i64 4) ∧ w = w' := by
  have h1 : bits .and .u64 16 (IntKind.u64.wrap (-16)) = 16 := by decide
  have h2 : IntKind.u64.wrap (16 * 285870213051353865) / 288230376151711744 = 15 := by decide
  go_enter Tryz.func134, Tryz.ntmps134
  go_wp2
  go_ret
  exact ⟨rfl, rfl⟩

/-- What the row of bytes behind the walk's own world says. -/
structure RowB (n : Nat) (w wr : World) (B : Nat) (i : Nat) (D : List UInt8) : Prop where
  cells : ∃ G : Nat → Int, (∀ t, t < n → wr.cell? ⟨B, t, none⟩ = some (.int .u8 (G t))) ∧ ∀ j (h : j < D.length), G (i + j) = ((D[j]).toNat : Int)
  free : ∀ t, t < n → wr.frozen? ⟨B, t, none⟩ = false
  below : Below w.heap.size w wr

theorem RowB.step {n : Nat} {w wr : World} {B i : Nat} {D : List UInt8} (h : RowB n w wr B (i + 1) D) (hB : w.heap.size ≤ B) (hi : i < n) (x : UInt8) : RowB n w (wr.setCell ⟨B, i, none⟩ (.int .u8 (x.toNat : Int))) B i (x :: D) := by
  obtain ⟨⟨G, h1, h2⟩, h3, h4⟩ := h
  refine ⟨⟨fun t => if t = i then (x.toNat : Int) else G t, fun t ht => ?_, fun j hj => ?_⟩, fun t ht => ?_, h4.setCell hB _⟩
  · by_cases e : t = i
    · subst e
      rw [World.cell?_setCell_same _ _ _ (h1 t ht)]
      simp
    · rw [World.cell?_setCell_other _ _ _ _ (by simp [e]), h1 t ht]
      simp [e]
  · cases j with
    | zero => simp
    | succ j =>
      have := h2 j (by simpa using hj)
      simp only [List.getElem_cons_succ]
      rw [← this]
      simp
      congr 1
      omega
  · rw [World.frozen?_setCell]
    exact h3 t ht

theorem zero65 : ∀ t, t < 65 → Tryz.zeroCells158[t]? = some (.int .u8 0) := by
  intro t ht
  have e : Tryz.zeroCells158 = Array.replicate 65 (Value.int .u8 0) := rfl
  rw [e]
  simp [ht]
theorem slice65 (B k : Nat) (hk : k < 65) (W : World) : (Instr.sliceAt 158 (.pointer (some ⟨B, 0, none⟩)) (some (.int .i64 (k : Int))) none none).run Tryz.prog W = .ok (.slice (some ⟨B, k, none⟩) (65 - k) (65 - k)) W := by
  have hal : Tryz.prog.arrayLen 158 = 65 := by kernel_rfl
  rw [run_sliceAt_array_l W 158 ⟨B, 0, none⟩ (by kernel_rfl) .i64 (k : Int) (by omega) (by rw [hal]; omega), hal]
  have h1 : (sizeOf (Tryz.prog.elem 158)).run Tryz.prog W = .ok 1 W := by kernel_rfl
  rw [h1]
  simp [slicedAt, Addr.add, Result.andThen]
  rw [if_neg (by omega)]
  split <;> simp_all
theorem wp_nm {P : Program} {c : Code} {fr : Act} {w : World} {Q : Exit → Act → World → Prop} {S : World → Prop} (h : S w) (k : ∀ W, S W → c.wp P Q fr W) : c.wp P Q fr w := k w h

set_option maxHeartbeats 8000000 in
set_option maxRecDepth 100000 in
theorem formatBits16 (u : Nat) (hu : u < 4294967296) (w : World) (hc : w.cell? ⟨8, 15, none⟩ = some (.int .u8 4)) :
    Calls Tryz.prog 116 #[.slice none 0 0, .int .u64 u, .int .i64 16, .bool false, .bool false] w fun e w' => e = .returned (.tuple #[.slice none 0 0, .string ⟨(hexS 8 u).toArray⟩]) ∧ Below w.heap.size w w' := by
  have hc1 : ∀ o, (w.alloc o).cell? ⟨8, 15, none⟩ = some (.int .u8 4) := fun o => by
    rw [World.cell?_alloc_old _ _ _ (Nat.ne_of_lt (World.block_lt_of_cell? _ _ hc))]
    exact hc
  have AHC := Lib.hid hc
  clear hc
  go_enter Tryz.func116, Tryz.ntmps116
  go_name_bytes PM hPM
  clear hPM
  go_name_bytes DG hDG
  have eDG : DG = Lib.digits36 := by rw [← hDG]; decide +kernel
  subst eDG
  clear hDG
  go_wp2_with (first
    | (go_at_call 133; refine (isPow16 _).mono ?_; rintro e w' ⟨rfl, rfl⟩)
    | (go_at_call 134; refine (tz16 _ (hc1 _)).mono ?_; rintro e w' ⟨rfl, rfl⟩))
  have hW0 : RowB 65 w (w.alloc (.cells Tryz.zeroCells158 158)) w.heap.size 65 [] :=
    ⟨⟨fun _ => 0, fun t ht => by rw [World.cell?_alloc_new]; exact zero65 t ht, fun j hj => absurd hj (by simp)⟩, fun t ht => World.frozen?_alloc_new _ _ _ _, Below.alloc (Below.refl _ w) (Nat.le_refl _) _⟩
  refine wp_nm (S := fun W => RowB 65 w W w.heap.size 65 []) hW0 ?_
  intro W HW
  have hSZ : w.heap.size ≤ W.heap.size := HW.below.size
  have hHW := Lib.hid HW
  clear HW hc1
  go_loopw [1, 13] (fun vu vi wr => ∃ (v i : Nat) (D : List UInt8), vu = .int .u64 v ∧ vi = .int .i64 i ∧ Hid (RowB 65 w wr w.heap.size i D ∧ i + D.length = 65 ∧ D.length < 8 ∧ v < 16 ^ (8 - D.length) ∧ hexS (8 - D.length) v ++ D = hexS 8 u)) (fun vu _ _ => (RowKit.intOf vu).toNat)
  case atStart => exact ⟨u, 65, [], rfl, rfl, hHW.out, by simp, by simp, by simpa using hu, by simp⟩
  case round =>
    obtain ⟨v, i, D, rfl, rfl, hh⟩ := hrel
    obtain ⟨hR, hiD, hD8, hv, hS⟩ := hh.out
    clear hh
    obtain ⟨G, hc, hg⟩ := hR.cells
    have hf := hR.free
    have HR := Lib.hid hR
    have hb1 : w.heap.size ≤ wr.heap.size := hR.below.size
    have HG := Lib.hid hg
    clear hR hg
    obtain ⟨k, rfl⟩ : ∃ k, i = k + 1 := ⟨i - 1, by omega⟩
    have hv64 : v < 18446744073709551616 := by
      have := Nat.pow_le_pow_right (show 0 < 16 by omega) (show 8 - D.length ≤ 8 by omega)
      omega
    by_cases h16 : 16 ≤ v
    · have hL : D.length ≤ 6 := by
        apply Classical.byContradiction
        intro hn
        have : D.length = 7 := by omega
        rw [this] at hv
        omega
      have hand : bits .and .u64 (v : Int) 15 = (v : Int) % 16 := by rw [and15 v hv64]; omega
      have hix : ∀ w, (Instr.index 9 (.string Lib.digits36) (.int .u64 ((v : Int) % 16))).run Tryz.prog w = .ok (.int .u8 ((hexDig (v % 16)).toNat : Int)) w := fun w => idx_digits 9 Tryz.underlying9 .u64 _ (v % 16) (by omega) (by omega) w
      have HN : Hid (k + (hexDig (v % 16) :: D).length = 65 ∧ (hexDig (v % 16) :: D).length < 8 ∧ v / 16 < 16 ^ (8 - (hexDig (v % 16) :: D).length) ∧ hexS (8 - (hexDig (v % 16) :: D).length) (v / 16) ++ (hexDig (v % 16) :: D) = hexS 8 u) := by
        refine Lib.hid ⟨by simp; omega, by simp; omega, ?_, ?_⟩
        · have e : 8 - D.length = (8 - (D.length + 1)) + 1 := by omega
          rw [e, Nat.pow_succ] at hv
          simp only [List.length_cons]
          omega
        · have e : 8 - D.length = (8 - (D.length + 1)) + 1 := by omega
          rw [e] at hS
          simp only [List.length_cons]
          rw [← hS, show hexS (8 - (D.length + 1) + 1) v = if v < 16 then [hexDig v] else hexS (8 - (D.length + 1)) (v / 16) ++ [hexDig (v % 16)] from rfl, if_neg (by omega), List.append_assoc]
          rfl
      have hk : k < 65 := by omega
      clear hv hS hD8 hL hiD
      go_wp2
      go_roundw
      case rel => exact ⟨v / 16, k, hexDig (v % 16) :: D, by first | rfl | go_num | (congr 1; omega), by first | rfl | go_num | (congr 1; omega), Lib.hid ⟨HR.out.step (Nat.le_refl _) hk _, HN.out⟩⟩
      case measure => simp [RowKit.intOf]; omega
    · have hix : ∀ w, (Instr.index 9 (.string Lib.digits36) (.int .u64 (v : Int))).run Tryz.prog w = .ok (.int .u8 ((hexDig v).toNat : Int)) w := fun w => idx_digits 9 Tryz.underlying9 .u64 _ v rfl (by omega) w
      have HS : Hid (hexDig v :: D = hexS 8 u) := by
        have e : 8 - D.length = (8 - (D.length + 1)) + 1 := by omega
        rw [e, show hexS (8 - (D.length + 1) + 1) v = if v < 16 then [hexDig v] else hexS (8 - (D.length + 1)) (v / 16) ++ [hexDig (v % 16)] from rfl, if_pos (by omega)] at hS
        exact Lib.hid hS
      have hk : k < 65 := by omega
      have HI := Lib.hid hiD
      clear hv hS hD8 hiD
      have hsl := fun W => slice65 w.heap.size k hk W
      have hR2 := HR.out.step (Nat.le_refl _) hk (hexDig v)
      have hcv : (convert 22 9 (.slice (some ⟨w.heap.size, k, none⟩) (65 - k) (65 - k))).run Tryz.prog (wr.setCell ⟨w.heap.size, k, none⟩ (.int .u8 ((hexDig v).toNat : Int))) = .ok (.string ⟨(hexS 8 u).toArray⟩) (wr.setCell ⟨w.heap.size, k, none⟩ (.int .u8 ((hexDig v).toNat : Int))) := by
        obtain ⟨G2, g1, g2⟩ := hR2.cells
        have hl : (hexDig v :: D).length = 65 - k := by have := HI.out; simp; omega
        have h := run_convert_bytes_back (P := Tryz.prog) (wr.setCell ⟨w.heap.size, k, none⟩ (.int .u8 ((hexDig v).toNat : Int))) 22 9 5 ⟨w.heap.size, k, none⟩ (65 - k) (hexDig v :: D) Tryz.underlying22 Tryz.underlying5 Tryz.underlying9 (fun j hj => by
          rw [← g2 j hj]
          have e : (⟨w.heap.size, k, none⟩ : Addr).add j = ⟨w.heap.size, k + j, none⟩ := by unfold Addr.add; split <;> simp_all
          rw [e]
          exact g1 (k + j) (by omega))
        rw [hl, HS.out] at h
        exact h
      have HR2 := Lib.hid hR2.below
      clear hR2
      go_wp2
      go_ret2
      exact ⟨rfl, HR2.out⟩
end Go.Proofs.YtekfmjddlemboaaGreatDoor

/-! The shelf's contracts at this translation, in plain words: written by the kit's lay-plain. -/
namespace Go.Proofs
open Go.Shelf
def Tryz.lays171_ren : Go.Shelf.Ren := ⟨fun | 171 => 40 | 243 => 74 | 246 => 91 | 283 => 113 | 284 => 114 | 285 => 115 | 286 => 116 | 129 => 131 | 317 => 130 | 318 => 132 | 319 => 133 | 320 => 134 | 337 => 140 | 338 => 141 | n => n, fun | 3 => 3 | 9 => 9 | 2 => 2 | 4 => 4 | 171 => 138 | 0 => 0 | 53 => 92 | 37 => 22 | 5 => 5 | 173 => 141 | 212 => 157 | 51 => 107 | 20 => 20 | 213 => 158 | 46 => 128 | 232 => 175 | 233 => 176 | n => n, fun | 17 => 4 | 18 => 7 | 19 => 8 | n => n⟩
theorem Tryz.lays171 : Go.Proofs.Lays.n171 Tryz.prog Tryz.lays171_ren := {
  mixed := by kernel_rfl
  f129 := Tryz.func131.trans (congrArg some (by kernel_rfl))
  f171 := Tryz.func40.trans (congrArg some (by kernel_rfl))
  f243 := Tryz.func74.trans (congrArg some (by kernel_rfl))
  f246 := Tryz.func91.trans (congrArg some (by kernel_rfl))
  f283 := Tryz.func113.trans (congrArg some (by kernel_rfl))
  f284 := Tryz.func114.trans (congrArg some (by kernel_rfl))
  f285 := Tryz.func115.trans (congrArg some (by kernel_rfl))
  f286 := Tryz.func116.trans (congrArg some (by kernel_rfl))
  f317 := Tryz.func130.trans (congrArg some (by kernel_rfl))
  f318 := Tryz.func132.trans (congrArg some (by kernel_rfl))
  f319 := Tryz.func133.trans (congrArg some (by kernel_rfl))
  f320 := Tryz.func134.trans (congrArg some (by kernel_rfl))
  f337 := Tryz.func140.trans (congrArg some (by kernel_rfl))
  f338 := Tryz.func141.trans (congrArg some (by kernel_rfl))
  t0 := Tryz.underlying0
  a0 := Tryz.isAgg0
  z0 := Tryz.sizeOf0
  v0 := Tryz.zeroValue0
  t2 := Tryz.underlying2
  a2 := Tryz.isAgg2
  z2 := Tryz.sizeOf2
  v2 := Tryz.zeroValue2
  t3 := Tryz.underlying3
  a3 := Tryz.isAgg3
  z3 := Tryz.sizeOf3
  v3 := Tryz.zeroValue3
  t4 := Tryz.underlying4
  a4 := Tryz.isAgg4
  z4 := Tryz.sizeOf4
  v4 := Tryz.zeroValue4
  t5 := Tryz.underlying5
  a5 := Tryz.isAgg5
  z5 := Tryz.sizeOf5
  v5 := Tryz.zeroValue5
  t9 := Tryz.underlying9
  a9 := Tryz.isAgg9
  z9 := Tryz.sizeOf9
  v9 := Tryz.zeroValue9
  t20 := Tryz.underlying20
  a20 := Tryz.isAgg20
  z20 := Tryz.sizeOf20
  v20 := Tryz.zeroValue20
  t37 := Tryz.underlying22
  a37 := Tryz.isAgg22
  z37 := Tryz.sizeOf22
  v37 := Tryz.zeroValue22
  t46 := Tryz.underlying128
  a46 := Tryz.isAgg128
  z46 := Tryz.sizeOf128
  v46 := Tryz.zeroValue128
  t51 := Tryz.underlying107
  a51 := Tryz.isAgg107
  z51 := Tryz.sizeOf107
  v51 := Tryz.zeroValue107
  t53 := Tryz.underlying92
  a53 := Tryz.isAgg92
  z53 := Tryz.sizeOf92
  v53 := Tryz.zeroValue92
  t171 := Tryz.underlying138
  a171 := Tryz.isAgg138
  z171 := Tryz.sizeOf138
  v171 := Tryz.zeroValue138
  t173 := Tryz.underlying141
  a173 := Tryz.isAgg141
  z173 := Tryz.sizeOf141
  v173 := Tryz.zeroValue141
  t212 := Tryz.underlying157
  a212 := Tryz.isAgg157
  z212 := Tryz.sizeOf157
  v212 := Tryz.zeroValue157
  t213 := Tryz.underlying158
  a213 := Tryz.isAgg158
  z213 := Tryz.sizeOf158
  t232 := Tryz.underlying175
  a232 := Tryz.isAgg175
  z232 := Tryz.sizeOf175
  v232 := Tryz.zeroValue175
  t233 := Tryz.underlying176
  a233 := Tryz.isAgg176
  z233 := Tryz.sizeOf176
  v233 := Tryz.zeroValue176
  g17 := by kernel_rfl
  g18 := by kernel_rfl
  g19 := by kernel_rfl }
open Go.RowKit Go.Sort Go.Lib in
theorem Tryz.strconv_Itoa_small (i : Nat) (hi : i < 100) (w : World) :
    Calls Tryz.prog 40 #[.int .i64 i] w fun e w' => e = .returned (.string ⟨(Lib.decDigits i).toArray⟩) ∧ w' = w := Any.strconv_Itoa_small Tryz.lays171 i hi w
def Tryz.laysM173_ren : Go.Shelf.Ren := ⟨fun | 173 => 72 | 246 => 91 | 283 => 113 | 284 => 114 | 285 => 115 | 286 => 116 | 129 => 131 | 317 => 130 | 318 => 132 | 319 => 133 | 320 => 134 | 337 => 140 | 338 => 141 | n => n, fun | 2 => 2 | 3 => 3 | 9 => 9 | 4 => 4 | 171 => 138 | 0 => 0 | 53 => 92 | 37 => 22 | 5 => 5 | 173 => 141 | 212 => 157 | 51 => 107 | 20 => 20 | 213 => 158 | 46 => 128 | 232 => 175 | 233 => 176 | n => n, fun | 17 => 4 | 18 => 7 | 19 => 8 | n => n⟩
theorem Tryz.laysM173 : Go.Proofs.LaysM.n173 Tryz.prog Tryz.laysM173_ren := {
  mixed := by kernel_rfl
  f129 := Tryz.func131.trans (congrArg some (by kernel_rfl))
  f173 := Tryz.func72.trans (congrArg some (by kernel_rfl))
  f246 := Tryz.func91.trans (congrArg some (by kernel_rfl))
  f283 := Tryz.func113.trans (congrArg some (by kernel_rfl))
  f284 := Tryz.func114.trans (congrArg some (by kernel_rfl))
  f285 := Tryz.func115.trans (congrArg some (by kernel_rfl))
  f286 := Tryz.func116.trans (congrArg some (by kernel_rfl))
  f317 := Tryz.func130.trans (congrArg some (by kernel_rfl))
  f318 := Tryz.func132.trans (congrArg some (by kernel_rfl))
  f319 := Tryz.func133.trans (congrArg some (by kernel_rfl))
  f320 := Tryz.func134.trans (congrArg some (by kernel_rfl))
  f337 := Tryz.func140.trans (congrArg some (by kernel_rfl))
  f338 := Tryz.func141.trans (congrArg some (by kernel_rfl))
  t0 := Tryz.underlying0
  a0 := Tryz.isAgg0
  z0 := Tryz.sizeOf0
  v0 := Tryz.zeroValue0
  t2 := Tryz.underlying2
  a2 := Tryz.isAgg2
  z2 := Tryz.sizeOf2
  v2 := Tryz.zeroValue2
  t3 := Tryz.underlying3
  a3 := Tryz.isAgg3
  z3 := Tryz.sizeOf3
  v3 := Tryz.zeroValue3
  t4 := Tryz.underlying4
  a4 := Tryz.isAgg4
  z4 := Tryz.sizeOf4
  v4 := Tryz.zeroValue4
  t5 := Tryz.underlying5
  a5 := Tryz.isAgg5
  z5 := Tryz.sizeOf5
  v5 := Tryz.zeroValue5
  t9 := Tryz.underlying9
  a9 := Tryz.isAgg9
  z9 := Tryz.sizeOf9
  v9 := Tryz.zeroValue9
  t20 := Tryz.underlying20
  a20 := Tryz.isAgg20
  z20 := Tryz.sizeOf20
  v20 := Tryz.zeroValue20
  t37 := Tryz.underlying22
  a37 := Tryz.isAgg22
  z37 := Tryz.sizeOf22
  v37 := Tryz.zeroValue22
  t46 := Tryz.underlying128
  a46 := Tryz.isAgg128
  z46 := Tryz.sizeOf128
  v46 := Tryz.zeroValue128
  t51 := Tryz.underlying107
  a51 := Tryz.isAgg107
  z51 := Tryz.sizeOf107
  v51 := Tryz.zeroValue107
  t53 := Tryz.underlying92
  a53 := Tryz.isAgg92
  z53 := Tryz.sizeOf92
  v53 := Tryz.zeroValue92
  t171 := Tryz.underlying138
  a171 := Tryz.isAgg138
  z171 := Tryz.sizeOf138
  v171 := Tryz.zeroValue138
  t173 := Tryz.underlying141
  a173 := Tryz.isAgg141
  z173 := Tryz.sizeOf141
  v173 := Tryz.zeroValue141
  t212 := Tryz.underlying157
  a212 := Tryz.isAgg157
  z212 := Tryz.sizeOf157
  v212 := Tryz.zeroValue157
  t213 := Tryz.underlying158
  a213 := Tryz.isAgg158
  z213 := Tryz.sizeOf158
  t232 := Tryz.underlying175
  a232 := Tryz.isAgg175
  z232 := Tryz.sizeOf175
  v232 := Tryz.zeroValue175
  t233 := Tryz.underlying176
  a233 := Tryz.isAgg176
  z233 := Tryz.sizeOf176
  v233 := Tryz.zeroValue176
  g17 := by kernel_rfl
  g18 := by kernel_rfl
  g19 := by kernel_rfl
  i0 := by kernel_rfl
  i2 := by kernel_rfl
  i3 := by kernel_rfl
  i4 := by kernel_rfl
  i5 := by kernel_rfl
  i9 := by kernel_rfl
  i20 := by kernel_rfl
  i37 := by kernel_rfl
  i46 := by kernel_rfl
  i51 := by kernel_rfl
  i53 := by kernel_rfl
  i171 := by kernel_rfl
  i173 := by kernel_rfl
  i212 := by kernel_rfl
  i232 := by kernel_rfl
  i233 := by kernel_rfl
  m17 := by kernel_rfl
  m18 := by kernel_rfl
  m19 := by kernel_rfl }
open Go.RowKit Go.Sort Go.Lib in
theorem Tryz.strconv_FormatInt_10 (n : Int) (h0 : -9223372036854775808 ≤ n) (h1 : n ≤ 9223372036854775807) (w : World) (htab : Lib.TabIs Tryz.prog w "internal/strconv.uint64pow10" .u64 Lib.pow10Tab) :
    Calls Tryz.prog 72 #[.int .i64 n, .int .i64 10] w fun e w' => e = .returned (.string ⟨(Lib.itoa n).toArray⟩) ∧ ∃ k os, w' = grow (w.drewN k) os := Any.strconv_FormatInt_10 Tryz.laysM173 n h0 h1 w htab
def Tryz.lays321_ren : Go.Shelf.Ren := ⟨fun | 321 => 126 | n => n, fun | 5 => 5 | n => n, fun | n => n⟩
theorem Tryz.lays321 : Go.Proofs.Lays.n321 Tryz.prog Tryz.lays321_ren := {
  mixed := by kernel_rfl
  f321 := Tryz.func126.trans (congrArg some (by kernel_rfl))
  t5 := Tryz.underlying5
  a5 := Tryz.isAgg5
  z5 := Tryz.sizeOf5
  v5 := Tryz.zeroValue5 }
open Go.RowKit in
theorem Tryz.internal_strconv_lower (c : Int) (w : World) :
    Calls Tryz.prog 126 #[.int .u8 c] w fun e w' => e = .returned (.int .u8 (bits .or .u8 c 32)) ∧ w' = w := Any.internal_strconv_lower Tryz.lays321 c w
def Tryz.laysC245_ren : Go.Shelf.Ren := ⟨fun | 245 => 90 | 279 => 109 | 280 => 110 | 281 => 111 | 282 => 112 | 316 => 128 | 171 => 40 | 205 => 129 | 243 => 74 | 246 => 91 | 283 => 113 | 284 => 114 | 285 => 115 | 286 => 116 | 129 => 131 | 317 => 130 | 318 => 132 | 319 => 133 | 320 => 134 | 337 => 140 | 338 => 141 | n => n, fun | 9 => 9 | 3 => 3 | 75 => 97 | 167 => 134 | 4 => 4 | 168 => 135 | 210 => 154 | 37 => 22 | 0 => 0 | 127 => 147 | 145 => 173 | 143 => 171 | 2 => 2 | 171 => 138 | 53 => 92 | 5 => 5 | 173 => 141 | 212 => 157 | 51 => 107 | 20 => 20 | 213 => 158 | 46 => 128 | 232 => 175 | 233 => 176 | 80 => 125 | n => n, fun | 15 => 2 | 16 => 3 | 17 => 4 | 18 => 7 | 19 => 8 | n => n⟩
theorem Tryz.laysC245 : Go.Proofs.LaysC.n245 Tryz.prog Tryz.laysC245_ren := {
  mixed := by kernel_rfl
  f129 := Tryz.func131.trans (congrArg some (by kernel_rfl))
  f171 := Tryz.func40.trans (congrArg some (by kernel_rfl))
  f205 := Tryz.func129.trans (congrArg some (by kernel_rfl))
  f243 := Tryz.func74.trans (congrArg some (by kernel_rfl))
  f245 := Tryz.func90.trans (congrArg some (by kernel_rfl))
  f246 := Tryz.func91.trans (congrArg some (by kernel_rfl))
  f279 := Tryz.func109.trans (congrArg some (by kernel_rfl))
  f280 := Tryz.func110.trans (congrArg some (by kernel_rfl))
  f281 := Tryz.func111.trans (congrArg some (by kernel_rfl))
  f282 := Tryz.func112.trans (congrArg some (by kernel_rfl))
  f283 := Tryz.func113.trans (congrArg some (by kernel_rfl))
  f284 := Tryz.func114.trans (congrArg some (by kernel_rfl))
  f285 := Tryz.func115.trans (congrArg some (by kernel_rfl))
  f286 := Tryz.func116.trans (congrArg some (by kernel_rfl))
  f316 := Tryz.func128.trans (congrArg some (by kernel_rfl))
  f317 := Tryz.func130.trans (congrArg some (by kernel_rfl))
  f318 := Tryz.func132.trans (congrArg some (by kernel_rfl))
  f319 := Tryz.func133.trans (congrArg some (by kernel_rfl))
  f320 := Tryz.func134.trans (congrArg some (by kernel_rfl))
  f337 := Tryz.func140.trans (congrArg some (by kernel_rfl))
  f338 := Tryz.func141.trans (congrArg some (by kernel_rfl))
  t0 := Tryz.underlying0
  a0 := Tryz.isAgg0
  z0 := Tryz.sizeOf0
  v0 := Tryz.zeroValue0
  t2 := Tryz.underlying2
  a2 := Tryz.isAgg2
  z2 := Tryz.sizeOf2
  v2 := Tryz.zeroValue2
  t3 := Tryz.underlying3
  a3 := Tryz.isAgg3
  z3 := Tryz.sizeOf3
  v3 := Tryz.zeroValue3
  t4 := Tryz.underlying4
  a4 := Tryz.isAgg4
  z4 := Tryz.sizeOf4
  v4 := Tryz.zeroValue4
  t5 := Tryz.underlying5
  a5 := Tryz.isAgg5
  z5 := Tryz.sizeOf5
  v5 := Tryz.zeroValue5
  t9 := Tryz.underlying9
  a9 := Tryz.isAgg9
  z9 := Tryz.sizeOf9
  v9 := Tryz.zeroValue9
  t20 := Tryz.underlying20
  a20 := Tryz.isAgg20
  z20 := Tryz.sizeOf20
  v20 := Tryz.zeroValue20
  t37 := Tryz.underlying22
  a37 := Tryz.isAgg22
  z37 := Tryz.sizeOf22
  v37 := Tryz.zeroValue22
  t46 := Tryz.underlying128
  a46 := Tryz.isAgg128
  z46 := Tryz.sizeOf128
  v46 := Tryz.zeroValue128
  t51 := Tryz.underlying107
  a51 := Tryz.isAgg107
  z51 := Tryz.sizeOf107
  v51 := Tryz.zeroValue107
  t53 := Tryz.underlying92
  a53 := Tryz.isAgg92
  z53 := Tryz.sizeOf92
  v53 := Tryz.zeroValue92
  t75 := Tryz.underlying97
  a75 := Tryz.isAgg97
  z75 := Tryz.sizeOf97
  v75 := Tryz.zeroValue97
  t127 := Tryz.underlying147
  a127 := Tryz.isAgg147
  z127 := Tryz.sizeOf147
  v127 := Tryz.zeroValue147
  t143 := Tryz.underlying171
  a143 := Tryz.isAgg171
  z143 := Tryz.sizeOf171
  v143 := Tryz.zeroValue171
  t145 := Tryz.underlying173
  a145 := Tryz.isAgg173
  z145 := Tryz.sizeOf173
  v145 := Tryz.zeroValue173
  t167 := Tryz.underlying134
  a167 := Tryz.isAgg134
  z167 := Tryz.sizeOf134
  v167 := Tryz.zeroValue134
  t168 := Tryz.underlying135
  a168 := Tryz.isAgg135
  z168 := Tryz.sizeOf135
  v168 := Tryz.zeroValue135
  t171 := Tryz.underlying138
  a171 := Tryz.isAgg138
  z171 := Tryz.sizeOf138
  v171 := Tryz.zeroValue138
  t173 := Tryz.underlying141
  a173 := Tryz.isAgg141
  z173 := Tryz.sizeOf141
  v173 := Tryz.zeroValue141
  t210 := Tryz.underlying154
  a210 := Tryz.isAgg154
  z210 := Tryz.sizeOf154
  v210 := Tryz.zeroValue154
  t212 := Tryz.underlying157
  a212 := Tryz.isAgg157
  z212 := Tryz.sizeOf157
  v212 := Tryz.zeroValue157
  t213 := Tryz.underlying158
  a213 := Tryz.isAgg158
  z213 := Tryz.sizeOf158
  t232 := Tryz.underlying175
  a232 := Tryz.isAgg175
  z232 := Tryz.sizeOf175
  v232 := Tryz.zeroValue175
  t233 := Tryz.underlying176
  a233 := Tryz.isAgg176
  z233 := Tryz.sizeOf176
  v233 := Tryz.zeroValue176
  g15 := by kernel_rfl
  g16 := by kernel_rfl
  g17 := by kernel_rfl
  g18 := by kernel_rfl
  g19 := by kernel_rfl
  t80 := Tryz.underlying125
  a80 := Tryz.isAgg125
  z80 := Tryz.sizeOf125
  v80 := Tryz.zeroValue125
  i0 := by kernel_rfl
  i2 := by kernel_rfl
  i3 := by kernel_rfl
  i4 := by kernel_rfl
  i5 := by kernel_rfl
  i9 := by kernel_rfl
  i20 := by kernel_rfl
  i37 := by kernel_rfl
  i46 := by kernel_rfl
  i51 := by kernel_rfl
  i53 := by kernel_rfl
  i75 := by kernel_rfl
  i80 := by kernel_rfl
  i127 := by kernel_rfl
  i143 := by kernel_rfl
  i145 := by kernel_rfl
  i167 := by kernel_rfl
  i168 := by kernel_rfl
  i171 := by kernel_rfl
  i173 := by kernel_rfl
  i210 := by kernel_rfl
  i212 := by kernel_rfl
  i232 := by kernel_rfl
  i233 := by kernel_rfl
  m15 := by kernel_rfl
  m16 := by kernel_rfl
  m17 := by kernel_rfl
  m18 := by kernel_rfl
  m19 := by kernel_rfl
  c0 := by kernel_rfl
  c2 := by kernel_rfl
  c3 := by kernel_rfl
  c4 := by kernel_rfl
  c5 := by kernel_rfl
  c9 := by kernel_rfl
  c20 := by kernel_rfl
  c37 := by kernel_rfl
  c46 := by kernel_rfl
  c51 := by kernel_rfl
  c53 := by kernel_rfl
  c75 := by kernel_rfl
  c80 := by kernel_rfl
  c127 := by kernel_rfl
  c143 := by kernel_rfl
  c145 := by kernel_rfl
  c167 := by kernel_rfl
  c168 := by kernel_rfl
  c171 := by kernel_rfl
  c173 := by kernel_rfl
  c210 := by kernel_rfl
  c212 := by kernel_rfl
  c213 := by kernel_rfl
  c232 := by kernel_rfl
  c233 := by kernel_rfl }
open Go.RowKit in
theorem Tryz.strconv_toError_range (fn s : ByteArray) (base bits : Int) (ev : Value) (w : World) (hlim : s.size ≤ 281474976710656) (hv : w.cell? ⟨3, 0, none⟩ = some ev) (hev : ev = .nilIface ∨ ∃ te pe, ev = .iface te pe) :
    Calls Tryz.prog 90 #[.string fn, .string s, .int .i64 base, .int .i64 bits, .iface 134 (.int .i64 1)] w fun e w' => ∃ N, e = .returned (.iface 135 (.pointer (some ⟨N, 0, none⟩))) ∧ w.heap.size ≤ N ∧ w'.heap[N]? = some (.cells #[.string fn, .string s, ev] 154 (0, 0)) ∧ Below w.heap.size w w' := Any.strconv_toError_range Tryz.laysC245 fn s base bits ev w hlim hv hev
def Tryz.lays287_ren : Go.Shelf.Ren := ⟨fun | 287 => 108 | 321 => 126 | 322 => 127 | n => n, fun | 9 => 9 | 3 => 3 | 53 => 92 | 75 => 97 | 4 => 4 | 167 => 134 | 5 => 5 | 46 => 128 | 37 => 22 | 0 => 0 | 21 => 21 | 80 => 125 | n => n, fun | n => n⟩
theorem Tryz.lays287 : Go.Proofs.Lays.n287 Tryz.prog Tryz.lays287_ren := {
  mixed := by kernel_rfl
  f287 := Tryz.func108.trans (congrArg some (by kernel_rfl))
  f321 := Tryz.func126.trans (congrArg some (by kernel_rfl))
  f322 := Tryz.func127.trans (congrArg some (by kernel_rfl))
  t0 := Tryz.underlying0
  a0 := Tryz.isAgg0
  z0 := Tryz.sizeOf0
  v0 := Tryz.zeroValue0
  t3 := Tryz.underlying3
  a3 := Tryz.isAgg3
  z3 := Tryz.sizeOf3
  v3 := Tryz.zeroValue3
  t4 := Tryz.underlying4
  a4 := Tryz.isAgg4
  z4 := Tryz.sizeOf4
  v4 := Tryz.zeroValue4
  t5 := Tryz.underlying5
  a5 := Tryz.isAgg5
  z5 := Tryz.sizeOf5
  v5 := Tryz.zeroValue5
  t9 := Tryz.underlying9
  a9 := Tryz.isAgg9
  z9 := Tryz.sizeOf9
  v9 := Tryz.zeroValue9
  t21 := Tryz.underlying21
  a21 := Tryz.isAgg21
  z21 := Tryz.sizeOf21
  v21 := Tryz.zeroValue21
  t37 := Tryz.underlying22
  a37 := Tryz.isAgg22
  z37 := Tryz.sizeOf22
  v37 := Tryz.zeroValue22
  t46 := Tryz.underlying128
  a46 := Tryz.isAgg128
  z46 := Tryz.sizeOf128
  v46 := Tryz.zeroValue128
  t53 := Tryz.underlying92
  a53 := Tryz.isAgg92
  z53 := Tryz.sizeOf92
  v53 := Tryz.zeroValue92
  t75 := Tryz.underlying97
  a75 := Tryz.isAgg97
  z75 := Tryz.sizeOf97
  v75 := Tryz.zeroValue97
  t167 := Tryz.underlying134
  a167 := Tryz.isAgg134
  z167 := Tryz.sizeOf134
  v167 := Tryz.zeroValue134 }
open Go.RowKit in
theorem Tryz.internal_strconv_ParseUint_empty (base bits : Int) (w : World) :
    Calls Tryz.prog 108 #[.string ⟨#[]⟩, .int .i64 base, .int .i64 bits] w fun e w' => e = .returned (.tuple #[.int .u64 0, .iface 134 (.int .i64 2)]) ∧ w' = w := Any.internal_strconv_ParseUint_empty Tryz.lays287 base bits w
def Tryz.lays145_ren : Go.Shelf.Ren := ⟨fun | 145 => 36 | 220 => 70 | 219 => 88 | 217 => 104 | 225 => 105 | 224 => 106 | 267 => 107 | 266 => 124 | 314 => 125 | n => n, fun | 9 => 9 | 4 => 4 | 59 => 59 | 3 => 3 | 5 => 5 | 46 => 128 | 146 => 148 | 51 => 107 | n => n, fun | 1 => 1 | n => n⟩
theorem Tryz.lays145 : Go.Proofs.Lays.n145 Tryz.prog Tryz.lays145_ren := {
  mixed := by kernel_rfl
  f145 := Tryz.func36.trans (congrArg some (by kernel_rfl))
  f217 := Tryz.func104.trans (congrArg some (by kernel_rfl))
  f219 := Tryz.func88.trans (congrArg some (by kernel_rfl))
  f220 := Tryz.func70.trans (congrArg some (by kernel_rfl))
  f224 := Tryz.func106.trans (congrArg some (by kernel_rfl))
  f225 := Tryz.func105.trans (congrArg some (by kernel_rfl))
  f266 := Tryz.func124.trans (congrArg some (by kernel_rfl))
  f267 := Tryz.func107.trans (congrArg some (by kernel_rfl))
  f314 := Tryz.func125.trans (congrArg some (by kernel_rfl))
  t3 := Tryz.underlying3
  a3 := Tryz.isAgg3
  z3 := Tryz.sizeOf3
  v3 := Tryz.zeroValue3
  t4 := Tryz.underlying4
  a4 := Tryz.isAgg4
  z4 := Tryz.sizeOf4
  v4 := Tryz.zeroValue4
  t5 := Tryz.underlying5
  a5 := Tryz.isAgg5
  z5 := Tryz.sizeOf5
  v5 := Tryz.zeroValue5
  t9 := Tryz.underlying9
  a9 := Tryz.isAgg9
  z9 := Tryz.sizeOf9
  v9 := Tryz.zeroValue9
  t46 := Tryz.underlying128
  a46 := Tryz.isAgg128
  z46 := Tryz.sizeOf128
  v46 := Tryz.zeroValue128
  t51 := Tryz.underlying107
  a51 := Tryz.isAgg107
  z51 := Tryz.sizeOf107
  v51 := Tryz.zeroValue107
  t59 := Tryz.underlying59
  a59 := Tryz.isAgg59
  z59 := Tryz.sizeOf59
  v59 := Tryz.zeroValue59
  t146 := Tryz.underlying148
  a146 := Tryz.isAgg148
  z146 := Tryz.sizeOf148
  v146 := Tryz.zeroValue148
  g1 := by kernel_rfl }
open Go.RowKit Go.Lib in
theorem Tryz.strings_Cut (s sep : ByteArray) (m : Int) (w : World) (hs : s.size < 4294967281) (hm : w.cell? ⟨1, 0, none⟩ = some (.int .i64 m)) :
    Calls Tryz.prog 36 #[.string s, .string sep] w fun e w' => e = .returned (.tuple #[.string ⟨(Lib.cut s.data.toList sep.data.toList).1.toArray⟩, .string ⟨(Lib.cut s.data.toList sep.data.toList).2.1.toArray⟩, .bool (Lib.cut s.data.toList sep.data.toList).2.2]) ∧ ∃ n, w' = w.drewN n := Any.strings_Cut Tryz.lays145 s sep m w hs hm
def Tryz.lays105_ren : Go.Shelf.Ren := ⟨fun | 105 => 95 | 212 => 118 | 99 => 119 | 165 => 96 | 166 => 97 | 170 => 120 | 169 => 98 | 263 => 135 | 264 => 136 | 206 => 137 | 240 => 121 | 241 => 122 | 276 => 138 | 277 => 139 | n => n, fun | 9 => 9 | 3 => 3 | 4 => 4 | 20 => 20 | 0 => 0 | 46 => 128 | 109 => 143 | 5 => 5 | 72 => 121 | 76 => 123 | 51 => 107 | 146 => 148 | 53 => 92 | 148 => 162 | 70 => 119 | 37 => 22 | 75 => 97 | 127 => 147 | 164 => 164 | 80 => 125 | n => n, fun | n => n⟩
theorem Tryz.lays105 : Go.Proofs.Lays.n105 Tryz.prog Tryz.lays105_ren := {
  mixed := by kernel_rfl
  f99 := Tryz.func119.trans (congrArg some (by kernel_rfl))
  f105 := Tryz.func95.trans (congrArg some (by kernel_rfl))
  f165 := Tryz.func96.trans (congrArg some (by kernel_rfl))
  f166 := Tryz.func97.trans (congrArg some (by kernel_rfl))
  f169 := Tryz.func98.trans (congrArg some (by kernel_rfl))
  f170 := Tryz.func120.trans (congrArg some (by kernel_rfl))
  f206 := Tryz.func137.trans (congrArg some (by kernel_rfl))
  f212 := Tryz.func118.trans (congrArg some (by kernel_rfl))
  f240 := Tryz.func121.trans (congrArg some (by kernel_rfl))
  f241 := Tryz.func122.trans (congrArg some (by kernel_rfl))
  f263 := Tryz.func135.trans (congrArg some (by kernel_rfl))
  f264 := Tryz.func136.trans (congrArg some (by kernel_rfl))
  f276 := Tryz.func138.trans (congrArg some (by kernel_rfl))
  f277 := Tryz.func139.trans (congrArg some (by kernel_rfl))
  t0 := Tryz.underlying0
  a0 := Tryz.isAgg0
  z0 := Tryz.sizeOf0
  v0 := Tryz.zeroValue0
  t3 := Tryz.underlying3
  a3 := Tryz.isAgg3
  z3 := Tryz.sizeOf3
  v3 := Tryz.zeroValue3
  t4 := Tryz.underlying4
  a4 := Tryz.isAgg4
  z4 := Tryz.sizeOf4
  v4 := Tryz.zeroValue4
  t5 := Tryz.underlying5
  a5 := Tryz.isAgg5
  z5 := Tryz.sizeOf5
  v5 := Tryz.zeroValue5
  t9 := Tryz.underlying9
  a9 := Tryz.isAgg9
  z9 := Tryz.sizeOf9
  v9 := Tryz.zeroValue9
  t20 := Tryz.underlying20
  a20 := Tryz.isAgg20
  z20 := Tryz.sizeOf20
  v20 := Tryz.zeroValue20
  t37 := Tryz.underlying22
  a37 := Tryz.isAgg22
  z37 := Tryz.sizeOf22
  v37 := Tryz.zeroValue22
  t46 := Tryz.underlying128
  a46 := Tryz.isAgg128
  z46 := Tryz.sizeOf128
  v46 := Tryz.zeroValue128
  t51 := Tryz.underlying107
  a51 := Tryz.isAgg107
  z51 := Tryz.sizeOf107
  v51 := Tryz.zeroValue107
  t53 := Tryz.underlying92
  a53 := Tryz.isAgg92
  z53 := Tryz.sizeOf92
  v53 := Tryz.zeroValue92
  t70 := Tryz.underlying119
  a70 := Tryz.isAgg119
  z70 := Tryz.sizeOf119
  v70 := Tryz.zeroValue119
  t72 := Tryz.underlying121
  a72 := Tryz.isAgg121
  z72 := Tryz.sizeOf121
  v72 := Tryz.zeroValue121
  t75 := Tryz.underlying97
  a75 := Tryz.isAgg97
  z75 := Tryz.sizeOf97
  v75 := Tryz.zeroValue97
  t76 := Tryz.underlying123
  a76 := Tryz.isAgg123
  z76 := Tryz.sizeOf123
  v76 := Tryz.zeroValue123
  t109 := Tryz.underlying143
  a109 := Tryz.isAgg143
  z109 := Tryz.sizeOf143
  v109 := Tryz.zeroValue143
  t127 := Tryz.underlying147
  a127 := Tryz.isAgg147
  z127 := Tryz.sizeOf147
  v127 := Tryz.zeroValue147
  t146 := Tryz.underlying148
  a146 := Tryz.isAgg148
  z146 := Tryz.sizeOf148
  v146 := Tryz.zeroValue148
  t148 := Tryz.underlying162
  a148 := Tryz.isAgg162
  z148 := Tryz.sizeOf162
  v148 := Tryz.zeroValue162
  t164 := Tryz.underlying164
  a164 := Tryz.isAgg164
  z164 := Tryz.sizeOf164
  v164 := Tryz.zeroValue164 }
theorem Tryz.Builder_Extra_105 : Builder.Extra Tryz.prog Tryz.lays105_ren := {
  sizeBuilder := by kernel_rfl
  liesBuilder := by kernel_rfl
  t5 := Tryz.underlying5
  a5 := Tryz.isAgg5
  z5 := Tryz.sizeOf5
  v5 := Tryz.zeroValue5
  infoByte := by kernel_rfl
  cellsByte := by kernel_rfl
  sizeByte := by kernel_rfl
  neB5 := by decide }
open Go.RowKit Go.Lib in
theorem Tryz.strings_Repeat (s : ByteArray) (c : Nat) (w : World) (hc : c ≤ 9223372036854775807) (hlen : s.size * c ≤ 140737488355328) :
    Calls Tryz.prog 95 #[.string s, .int .i64 c] w fun e w' => e = .returned (.string ⟨(Lib.repeatL s.data.toList c).toArray⟩) ∧ Below w.heap.size w w' := Any.strings_Repeat Tryz.lays105 Tryz.Builder_Extra_105 s c w hc hlen
end Go.Proofs
