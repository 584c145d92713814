/- The text of a list of numbers, as the program makes it; decimals of small numbers; which lists have no -0. -/
import Derived.Test.YtckcngmbbnilnaaDoorTextP
import Derived.OwnWalk
set_option linter.unusedVariables false
set_option linter.unusedSimpArgs false
namespace Go.Proofs.YtckcngmbbnilnaaDoor
open Go.RowKit Go.Lib

theorem Tryd.info_str : (Tryd.prog.info? 9).map (fun i => (i.zero, i.size, i.bytes)) = some (some (.string ByteArray.empty), 1, 16) := by kernel_rfl
section
variable {w W : World} {base n g : Nat} {e t : TypeId} {v : Value} {xs : List Value}
theorem ownS_carry (h : w.ownsRow base e 1 v n xs) (hk : ∀ i, base ≤ i → i < w.heap.size → W.heap[i]? = w.heap[i]?) : W.ownsRow base e 1 v n xs := by
  refine ⟨h.1, ?_⟩
  rcases h.2 with h2 | ⟨g, cap, cur, hv, hb, hh, h3⟩
  · exact Or.inl h2
  · refine Or.inr ⟨g, cap, cur, hv, hb, ?_, h3⟩
    have hl := (h.lt g (by rw [hv]; rfl)).2
    rw [hk g hb hl]; exact hh
theorem ownS_shape (h : w.ownsRow base e 1 v n xs) (hn : 0 < n) : ∃ g c, v = .slice (some ⟨g, 0, none⟩) n c ∧ base ≤ g ∧ g < w.heap.size ∧ n ≤ c := by
  have hl := h.lt
  obtain ⟨_, h2⟩ := h
  rcases h2 with ⟨_, h0⟩ | ⟨g, cap, cur, hv, hg, hh, hc, _⟩
  · omega
  · exact ⟨g, cap, hv, hg, (hl g (by rw [hv]; rfl)).2, hc⟩
theorem ownS_below {w0 wr w1 : World} {B : Nat} {o : Obj} (hown : wr.ownsRow base e 1 v n xs) (hBb : B ≤ base) (hB : B ≤ wr.heap.size) (hb : Below B w0 wr) (hg : (wr.alloc o).grownBy w1 v.ownBlock) : Below B w0 w1 := by
  have h1 : Below B w0 (wr.alloc o) := hb.alloc hB o
  refine h1.grown hg (by simp; omega) ?_
  intro k hk
  have := (hown.lt k hk).1
  omega
end

/-- Are all of n numbers +0? -/
def allZ (G : Nat → Nat) : Nat → Bool
  | 0 => true
  | k + 1 => allZ G k && (G k == 0)
theorem allZ_no {G : Nat → Nat} {k n : Nat} (hk : k < n) (h : G k ≠ 0) : allZ G n = false := by
  induction n with
  | zero => omega
  | succ m ih =>
    unfold allZ
    by_cases e : k = m
    · subst e; simp [h]
    · rw [ih (by omega)]; rfl
theorem allZ_step {G : Nat → Nat} {k : Nat} (h : allZ G k = true) (h0 : G k = 0) : allZ G (k + 1) = true := by simp [allZ, h, h0]

set_option maxHeartbeats 1000000 in
set_option maxRecDepth 100000 in
theorem noMinus_any (B off n cap : Nat) (G : Nat → Nat) (w : World) (hn : n ≤ 64) (hz : ∀ k, k < n → G k = 0 ∨ G k = 2147483648)
    (hcells : ∀ k, k < n → w.cell? ⟨B, off + k, none⟩ = some (.float .f32 (G k))) (a : Option Addr) (ha : 0 < n → a = some ⟨B, off, none⟩) :
    Calls Tryd.prog 35 #[.slice a n cap] w fun e w' => e = .returned (.bool (allZ G n)) ∧ w = w' := by
  have hcv := fun x w h => run_wide (P := Tryd.prog) 22 45 x w (by kernel_rfl) (by kernel_rfl) h
  have hcv0 := fun w => hcv 0 w (by decide +kernel)
  have hcv1 := fun w => hcv 2147483648 w (by decide +kernel)
  have n0 : Flt.neg Ieee.double (Flt.widen 0) = false := by decide +kernel
  have n1 : Flt.neg Ieee.double (Flt.widen 2147483648) = true := by decide +kernel
  have z0 : FloatKind.f32.format.order 0 0 = some .eq := by decide +kernel
  have z1 : FloatKind.f32.format.order 2147483648 0 = some .eq := by decide +kernel
  have l0 := widen_lt 0
  have l1 := widen_lt 2147483648
  generalize Flt.widen 0 = W0 at hcv0 n0 l0
  generalize Flt.widen 2147483648 = W1 at hcv1 n1 l1
  clear hcv
  go_enter Tryd.func35, Tryd.ntmps35
  go_wp2
  go_loop [7] (fun i => ∃ k : Nat, k ≤ n ∧ i = .int .i64 k ∧ Hid (allZ G k = true)) (fun i => 65 - (RowKit.intOf i).toNat)
  case atStart => exact ⟨0, by omega, rfl, rfl⟩
  case round =>
    obtain ⟨k, hk, rfl, hA⟩ := hrel
    by_cases hlt : k < n
    · obtain rfl := ha (by omega)
      have hc := hcells k hlt
      have i1 : (k : Int) < n := by omega
      rcases hz k hlt with h0 | h0
      · rw [h0] at hc
        have HN : Hid (allZ G (k + 1) = true) := Lib.hid (allZ_step hA.out h0)
        have Hz := Lib.hid hz
        have Hcells := Lib.hid hcells
        clear hz hcells h0 hA ha
        go_wp2_with (go_at_call 69; with_reducible refine (signbit_any W0 _ l0).mono ?_; rintro e w1 ⟨rfl, rfl⟩; rw [n0])
        refine ⟨⟨k + 1, by omega, by first | rfl | go_num, HN⟩, by simp [RowKit.intOf]; omega⟩
      · rw [h0] at hc
        have HN : Hid (allZ G n = false) := Lib.hid (allZ_no hlt (by rw [h0]; decide))
        have Hz := Lib.hid hz
        have Hcells := Lib.hid hcells
        clear hz hcells h0 hA ha
        go_wp2_with (go_at_call 69; with_reducible refine (signbit_any W1 _ l1).mono ?_; rintro e w1 ⟨rfl, rfl⟩; rw [n1])
        go_ret
        exact ⟨by rw [HN.out]; rfl, rfl⟩
    · have hkn : k = n := by omega
      subst hkn
      clear ha hz hcells
      go_wp2
      go_ret
      exact ⟨by rw [hA.out]; rfl, rfl⟩

set_option maxHeartbeats 1000000 in
set_option maxRecDepth 100000 in
theorem numbersText_any (B off n cap : Nat) (G : Nat → Nat) (w : World) (hn : n ≤ 64) (hn0 : 0 < n) (hG : ∀ k, k < n → G k < 2 ^ 32)
    (hcells : ∀ k, k < n → w.cell? ⟨B, off + k, none⟩ = some (.float .f32 (G k))) (hdb : w.cell? ⟨6, 15, none⟩ = some (.int .u8 4)) :
    Calls Tryd.prog 37 #[.slice (some ⟨B, off, none⟩) n cap] w fun e w' => e = .returned (.string ⟨(joinT G n).toArray⟩) ∧ Below w.heap.size w w' := by
  obtain ⟨i0, ih, iz0, iz1, iz2⟩ := info_parts Tryd.info_str
  have hB : B < w.heap.size := World.block_lt_of_cell? _ _ (hcells 0 hn0)
  have hDB : 6 < w.heap.size := World.block_lt_of_cell? _ _ hdb
  have HC := Lib.hid hcells
  have HG := Lib.hid hG
  have HD := Lib.hid hdb
  clear hcells hG hdb
  go_enter Tryd.func37, Tryd.ntmps37
  go_wp2
  have k0 : (w.alloc (.cells #[] 9)).ownsRow w.heap.size 9 1 (.slice (some ⟨w.heap.size, 0, none⟩) 0 0) 0 (textsV G 0) :=
    ⟨rfl, Or.inr ⟨w.heap.size, 0, #[], rfl, Nat.le_refl _, heap_alloc_new w _, by omega, by simp [maxLen], rfl, rfl⟩⟩
  have b0 : Below w.heap.size w (w.alloc (.cells #[] 9)) := Below.alloc (Below.refl _ w) (Nat.le_refl _) _
  go_loopw [3, 9] (fun v i wr => ∃ k : Nat, k ≤ n ∧ i = .int .i64 k ∧ wr.ownsRow w.heap.size 9 1 v k (textsV G k) ∧ Below w.heap.size w wr) (fun _ i _ => 65 - (RowKit.intOf i).toNat)
  case atStart => exact ⟨0, by omega, rfl, k0, b0⟩
  case round =>
    clear k0 b0
    obtain ⟨k, hk, rfl, hown, hb⟩ := hrel
    have hsz := hb.size
    by_cases hlt : k < n
    · have hc : wr.cell? ⟨B, off + k, none⟩ = some (.float .f32 (G k)) := (hb.cell (p := ⟨B, off + k, none⟩) hB).trans (HC.out k hlt)
      have hd : wr.cell? ⟨6, 15, none⟩ = some (.int .u8 4) := (hb.cell (p := ⟨6, 15, none⟩) hDB).trans HD.out
      have hN := implNumberText (G k) (HG.out k hlt) wr hd
      have hsnoc := textsV_snoc G k
      obtain ⟨S, hS⟩ : ∃ S : ByteArray, S = ⟨(numText (G k)).toArray⟩ := ⟨_, rfl⟩
      rw [← hS] at hN hsnoc
      generalize G k = x at hc hN
      have i1 : (k : Int) < n := by omega
      have HO := Lib.hid hown
      have HB := Lib.hid hb
      have HS := Lib.hid hsnoc
      clear hown hb hd hS hsnoc
      go_wp2_with (go_at_call 10; with_reducible refine hN.mono ?_; rintro e w1 ⟨rfl, hb1⟩; refine Hid.out ?_)
      refine Lib.hid ?_
      have hown1 : w1.ownsRow w.heap.size 9 1 _ k (textsV G k) := ownS_carry HO.out (fun i _ h2 => hb1.block i h2)
      have hb2 : Below w.heap.size w w1 := HB.out.trans (hb1.mono hsz)
      have hsz1 : w.heap.size ≤ w1.heap.size := hb2.size
      have HB2 := Lib.hid hb2
      clear hN hc hb1 HB HO hb2
      go_wp2_with (at_builtin; refine wpList_append_own _ rfl _ _ 79 rfl w.heap.size 9 i0 (.string ByteArray.empty) 1 16 Tryd.underlying79 ih iz0 iz1 iz2 rfl (by decide) _ _ _ rfl (hown1.alloc _) ⟨w1.heap.size, 0, none⟩ 1 1 [.string S] rfl rfl ?c1 ?c2 ?c3 ?c4 ?c5 ?_)
      case c1 =>
        intro j u hj
        match j, hj with
        | 0, hj => simp at hj; subst hj; simp [Addr.add]
      case c2 => intro u hu; simp at hu; subst hu; rfl
      case c3 => unfold maxLen; omega
      case c4 => omega
      case c5 => simp; omega
      intro v' w3 hown' hgrow _
      have n5 := ownS_below hown1 (Nat.le_refl _) hsz1 HB2.out hgrow
      rw [HS.out] at hown'
      have N5 := Lib.hid n5
      have NO := Lib.hid hown'
      clear n5 hown' hown1 hgrow
      go_wp2
      go_roundw
      case rel => exact ⟨k + 1, by omega, by go_num, NO.out, N5.out⟩
      case measure => simp [RowKit.intOf]; omega
    · have hkn : k = n := by omega
      subst hkn
      obtain ⟨g1, c1, hv, _, hg1, hc1⟩ := ownS_shape hown hn0
      subst hv
      have hJ : Calls Tryd.prog 71 #[.slice (some ⟨g1, 0, none⟩) k c1, .string ⟨#[32]⟩] wr fun e w' => e = .returned (.string ⟨(joinT G k).toArray⟩) ∧ Below wr.heap.size wr w' := by
        have hlen : ((List.range k).map fun j => (⟨(numText (G j)).toArray⟩ : ByteArray)).length = k := by simp
        have hjo : Lib.join (((List.range k).map fun j => (⟨(numText (G j)).toArray⟩ : ByteArray)).map (·.data.toList)) (⟨#[32]⟩ : ByteArray).data.toList = joinT G k := by
          unfold joinT
          congr 1
          rw [List.map_map]
          apply List.map_congr_left
          intro j _
          rfl
        have h := Tryd.strings_Join g1 0 c1 ((List.range k).map fun j => (⟨(numText (G j)).toArray⟩ : ByteArray)) ⟨#[32]⟩ wr (fun j x hx => by
            have hj : j < k := by
              have := (List.getElem?_eq_some_iff.1 hx).1
              simpa using this
            rw [Nat.zero_add, hown.cellAt j (by omega), textsV_at hj]
            rw [List.getElem?_map, List.getElem?_range hj] at hx
            simpa using hx) hg1 (by rw [hlen]; omega) (by rw [hlen]; exact hc1) (by rw [hjo]; have := joinT_length G k hn0; omega)
        rw [hjo, hlen] at h
        exact h
      have HB := Lib.hid hb
      clear hown hb
      go_wp2_with (go_at_call 71; with_reducible refine calls_args (b := #[.slice (some ⟨g1, 0, none⟩) k c1, .string ⟨#[32]⟩]) (by kernel_rfl) ?_; with_reducible refine hJ.mono ?_; rintro e w4 ⟨rfl, hb4⟩)
      go_ret
      exact ⟨rfl, HB.out.trans (hb4.mono hsz)⟩
end Go.Proofs.YtckcngmbbnilnaaDoor
