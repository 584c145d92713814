/- The text of a number: the program's and the reference's. -/
import Derived.Test.YtckcngmbbnilnaaDoorHexF
import Derived.Test.YtckcngmbbnilnaaDoorShelf
import Derived.Test.YtckcngmbbnilnaaDoorFNum
import Derived.ShutString
import Derived.Laws.MakeOwn
set_option linter.unusedVariables false
set_option linter.unusedSimpArgs false
namespace Go.Proofs.YtckcngmbbnilnaaDoor
open Go.RowKit Go.Lib

/-- The bits of a number, one pattern for each NaN. -/
def canonB (a : Nat) : Nat := if Flt.NaN Ieee.single a then 2143289344 else a
/-- The text of a number. -/
def numText (a : Nat) : List UInt8 := hexL 8 (canonB a)
theorem numText_length (a : Nat) : (numText a).length = 8 := hexL_length 8 _
theorem calls_args {P : Program} {f : FuncId} {a b : Array Value} {w : World} {Q : Ending → World → Prop} (h : a = b) (c : Calls P f b w Q) : Calls P f a w Q := h ▸ c
theorem repeatL_zero48 : ∀ c, Lib.repeatL [48] c = List.replicate c (48 : UInt8)
  | 0 => rfl
  | c + 1 => by
    have := repeatL_zero48 c
    simp [Lib.repeatL, List.replicate_succ] at this ⊢
    exact this
theorem str_app (l m : List UInt8) : (⟨l.toArray⟩ : ByteArray) ++ ⟨m.toArray⟩ = ⟨(l ++ m).toArray⟩ := by
  apply ByteArray.ext
  simp

set_option maxHeartbeats 4000000 in
set_option maxRecDepth 100000 in
theorem fmtUintIn (u : Nat) (hu : u < 4294967296) (w : World) (hc : w.cell? ⟨6, 15, none⟩ = some (.int .u8 4)) (S : ByteArray) (hS : S = ⟨(hexS 8 u).toArray⟩) :
    Calls Tryd.prog 58 #[.int .u64 u, .int .i64 16] w fun e w' => e = .returned (.string S) ∧ Below w.heap.size w w' := by
  have hF := formatBits16 u hu w hc
  rw [← hS] at hF
  clear hS
  go_enter Tryd.func58, Tryd.ntmps58
  go_wp2_with (go_at_call 84; refine hF.mono ?_; rintro e w1 ⟨rfl, hb1⟩)
  go_ret
  exact ⟨rfl, hb1⟩
set_option maxHeartbeats 4000000 in
set_option maxRecDepth 100000 in
theorem fmtUint (u : Nat) (hu : u < 4294967296) (w : World) (hc : w.cell? ⟨6, 15, none⟩ = some (.int .u8 4)) (S : ByteArray) (hS : S = ⟨(hexS 8 u).toArray⟩) :
    Calls Tryd.prog 27 #[.int .u64 u, .int .i64 16] w fun e w' => e = .returned (.string S) ∧ Below w.heap.size w w' := by
  have hF := fmtUintIn u hu w hc S hS
  clear hS
  go_enter Tryd.func27, Tryd.ntmps27
  go_wp2_with (go_at_call 58; refine hF.mono ?_; rintro e w1 ⟨rfl, hb1⟩)
  go_ret
  exact ⟨rfl, hb1⟩

set_option maxHeartbeats 400000 in
set_option maxRecDepth 100000 in
theorem implNumberText (a : Nat) (ha : a < 2 ^ 32) (w : World) (hc : w.cell? ⟨6, 15, none⟩ = some (.int .u8 4)) :
    Calls Tryd.prog 10 #[.float .f32 a] w fun e w' => e = .returned (.string ⟨(numText a).toArray⟩) ∧ Below w.heap.size w w' := by
  have hbits : ∀ x w, (callFunc 28 #[.float .f32 x]).run Tryd.prog w = .ok (.value (.int .u32 x)) w := fun x w => by kernel_rfl
  by_cases na : Flt.NaN Ieee.single a
  · have h1 : FloatKind.f32.format.order a a = none := order_nan .f32 (Or.inl na)
    have hT : (⟨#[55, 102, 99, 48, 48, 48, 48, 48]⟩ : ByteArray) = ⟨(numText a).toArray⟩ := by
      unfold numText canonB
      rw [if_pos na]
      decide +kernel
    rw [← hT]
    clear na hT
    go_enter Tryd.func10, Tryd.ntmps10
    go_wp2
    go_ret
    exact ⟨rfl, Below.refl _ _⟩
  · have h1 : FloatKind.f32.format.order a a = some .eq := order_self .f32 na
    have ha' : a < 4294967296 := by simpa using ha
    have hlen := hexS_length_le 8 a
    obtain ⟨n, hn⟩ : ∃ n, n = (hexS 8 a).length := ⟨_, rfl⟩
    obtain ⟨S, hS⟩ : ∃ S : ByteArray, S = ⟨(hexS 8 a).toArray⟩ := ⟨_, rfl⟩
    have hF := fmtUint a ha' w hc S hS
    have hsz : S.size = n := by rw [hS, hn]; rfl
    have hn8 : n ≤ 8 := by omega
    obtain ⟨c, hcn⟩ : ∃ c : Nat, c + n = 8 := ⟨8 - n, by omega⟩
    have hT : (⟨(Lib.repeatL [48] c).toArray⟩ : ByteArray) ++ S = ⟨(numText a).toArray⟩ := by
      have h := hexS_pad 8 a (by omega) ha'
      unfold numText canonB
      rw [if_neg na, hS, str_app, repeatL_zero48, ← h, ← hn, show 8 - n = c by omega]
    rw [← hT]
    obtain ⟨R, hR⟩ : ∃ R : ByteArray, R = ⟨(Lib.repeatL [48] c).toArray⟩ := ⟨_, rfl⟩
    have hRz : R.size = c := by rw [hR, size_of_list, repeatL_zero48]; simp
    rw [← hR]
    have hrep : ∀ w, Calls Tryd.prog 29 #[.string ⟨#[48]⟩, .int .i64 (8 - (n : Int))] w fun e w' => e = .returned (.string R) ∧ Below w.heap.size w w' := fun w => by
      have h := Tryd.strings_Repeat ⟨#[48]⟩ c w (by omega) (by have : (⟨#[48]⟩ : ByteArray).size = 1 := rfl; rw [this]; omega)
      rw [show (8 - (n : Int)) = (c : Int) by omega, hR]
      exact h
    have hm : ∀ n, IntKind.u64.wrap (IntKind.u32.wrap n) = IntKind.u32.wrap n := fun n => by
      rw [IntKind.wrap_u64]; simp [IntKind.wrap, IntKind.signed, IntKind.bits]; omega
    have hA := Lib.hid na
    clear na hT hS hlen hn hR
    go_enter Tryd.func10, Tryd.ntmps10
    go_wp2_with (first
      | (go_at_call 27; with_reducible refine hF.mono ?_; rintro e w1 ⟨rfl, hb1⟩)
      | (go_at_call 29; with_reducible refine calls_args (b := #[.string ⟨#[48]⟩, .int .i64 (8 - (n : Int))]) (by kernel_rfl) ?_; with_reducible refine (hrep _).mono ?_; rintro e w2 ⟨rfl, hb2⟩))
    go_ret
    exact ⟨rfl, hb1.trans (hb2.mono hb1.size)⟩

theorem specBits (a : Nat) (ha : a < 2 ^ 32) (w : World) : Calls Tryd.prog 31 #[.float .f32 a] w fun e w' => e = .returned (.int .u32 (canonB a)) ∧ w = w' := by
  have hbits : ∀ x w, (callFunc 28 #[.float .f32 x]).run Tryd.prog w = .ok (.value (.int .u32 x)) w := fun x w => by kernel_rfl
  by_cases na : Flt.NaN Ieee.single a
  · have h1 : FloatKind.f32.format.order a a = none := order_nan .f32 (Or.inl na)
    rw [show canonB a = 2143289344 from if_pos na]
    clear na
    go_enter Tryd.func31, Tryd.ntmps31
    go_wp2
    go_ret
    exact ⟨rfl, rfl⟩
  · have h1 : FloatKind.f32.format.order a a = some .eq := order_self .f32 na
    rw [show canonB a = a from if_neg na]
    clear na
    go_enter Tryd.func31, Tryd.ntmps31
    go_wp2
    go_ret
    exact ⟨rfl, rfl⟩

def digits16 : ByteArray := ⟨#[48, 49, 50, 51, 52, 53, 54, 55, 56, 57, 97, 98, 99, 100, 101, 102]⟩
theorem digits16_at : ∀ i, i < 16 → digits16.data.toList.getD i 0 = hexDig i := by decide +kernel
theorem idx_digits16 {P : Program} (t : TypeId) (ht : P.underlying t = some .string) (k : IntKind) (z : Int) (i : Nat) (hz : z = (i : Int)) (hi : i < 16) (w : World) :
    (Instr.index t (.string digits16) (.int k z)).run P w = .ok (.int .u8 ((hexDig i).toNat : Int)) w := by
  subst hz
  have hsz : digits16.size = 16 := rfl
  rw [run_index_string w t digits16 k _ ht, dif_pos ⟨by omega, by rw [hsz]; omega⟩]
  have e : ((i : Int)).toNat = i := by omega
  simp only [e]
  rw [Lib.getD_at digits16 i (by rw [hsz]; omega), digits16_at i hi]

set_option maxHeartbeats 400000 in
set_option maxRecDepth 100000 in
theorem specHex (a : Nat) (ha : a < 2 ^ 32) (w : World) :
    Calls Tryd.prog 26 #[.float .f32 a] w fun e w' => e = .returned (.string ⟨(numText a).toArray⟩) ∧ Below w.heap.size w w' := by
  obtain ⟨b, hb⟩ : ∃ b, b = canonB a := ⟨_, rfl⟩
  have hN : numText a = hexL 8 b := by rw [hb]; rfl
  rw [hN]
  have hbl : b < 16 ^ 8 := by
    rw [hb]
    unfold canonB
    split
    · omega
    · simpa using ha
  have hB := specBits a ha w
  rw [← hb] at hB
  clear hb hN
  go_enter Tryd.func26, Tryd.ntmps26
  have hmk : (Instr.makeSlice 92 (.int .i64 8) (.int .i64 8)).run Tryd.prog w = .ok (.slice (some ⟨w.heap.size, 0, none⟩) 8 8) (w.alloc (.cells (Array.replicate 8 (.int .u8 0)) 5)) := by kernel_rfl
  go_name_bytes_deep 18 DG hDG
  have eDG : DG = digits16 := by rw [← hDG]; rfl
  subst eDG
  clear hDG
  go_wp2_with (go_at_call 31; with_reducible refine hB.mono ?_; rintro e w1 ⟨rfl, rfl⟩)
  have hW0 : RowB 8 w (w.alloc (.cells (Array.replicate 8 (.int .u8 0)) 5)) w.heap.size 8 [] :=
    ⟨⟨fun _ => 0, fun t ht => by rw [World.cell?_alloc_new]; simp [ht], fun j hj => absurd hj (by simp)⟩, fun t ht => World.frozen?_alloc_new _ _ _ _, Below.alloc (Below.refl _ w) (Nat.le_refl _) _⟩
  refine wp_nm (S := fun W => RowB 8 w W w.heap.size 8 []) hW0 ?_
  intro W HW
  have hSZ : w.heap.size ≤ W.heap.size := HW.below.size
  have hHW := Lib.hid HW
  clear HW hmk
  go_loopw [3, 5] (fun vu vi wr => ∃ (v i : Nat) (D : List UInt8), vu = .int .u32 v ∧ vi = .int .i64 ((i : Int) - 1) ∧ Hid (RowB 8 w wr w.heap.size i D ∧ i + D.length = 8 ∧ v < 16 ^ i ∧ hexL i v ++ D = hexL 8 b)) (fun _ vi _ => (RowKit.intOf vi + 1).toNat)
  case atStart => exact ⟨b, 8, [], rfl, rfl, hHW.out, by simp, hbl, by simp⟩
  case round =>
    obtain ⟨v, i, D, rfl, rfl, hh⟩ := hrel
    obtain ⟨hR, hiD, hv, hS⟩ := hh.out
    clear hh
    obtain ⟨G, hc, hg⟩ := hR.cells
    have hf := hR.free
    have HR := Lib.hid hR
    have hb1 : w.heap.size ≤ wr.heap.size := hR.below.size
    have HG := Lib.hid hg
    clear hR hg
    cases i with
    | succ k =>
      have hv32 : v < 4294967296 := by
        have := Nat.pow_le_pow_right (show 0 < 16 by omega) (show k + 1 ≤ 8 by omega)
        omega
      have hix : ∀ w, (Instr.index 9 (.string digits16) (.int .u32 ((v : Int) % 16))).run Tryd.prog w = .ok (.int .u8 ((hexDig (v % 16)).toNat : Int)) w := fun w => idx_digits16 9 Tryd.underlying9 .u32 _ (v % 16) (by omega) (by omega) w
      have HN : Hid (k + (hexDig (v % 16) :: D).length = 8 ∧ v / 16 < 16 ^ k ∧ hexL k (v / 16) ++ (hexDig (v % 16) :: D) = hexL 8 b) := by
        refine Lib.hid ⟨by simp; omega, ?_, ?_⟩
        · rw [Nat.pow_succ] at hv
          omega
        · rw [← hS, show hexL (k + 1) v = hexL k (v / 16) ++ [hexDig (v % 16)] from rfl, List.append_assoc]
          rfl
      have hk : k < 8 := by omega
      clear hv hS hiD
      go_wp2
      go_roundw
      case rel => exact ⟨v / 16, k, hexDig (v % 16) :: D, by first | rfl | go_num | (congr 1; omega), by first | rfl | go_num | (congr 1; omega), Lib.hid ⟨HR.out.step (Nat.le_refl _) hk _, HN.out⟩⟩
      case measure => simp [RowKit.intOf]
    | zero =>
      have hcv : (convert 92 9 (.slice (some ⟨w.heap.size, 0, none⟩) 8 8)).run Tryd.prog wr = .ok (.string ⟨(hexL 8 b).toArray⟩) wr := by
        have hl : D.length = 8 := by omega
        have h := run_convert_bytes_back (P := Tryd.prog) wr 92 9 5 ⟨w.heap.size, 0, none⟩ 8 D Tryd.underlying92 Tryd.underlying5 Tryd.underlying9 (fun j hj => by
          rw [← HG.out j hj]
          have e : (⟨w.heap.size, 0, none⟩ : Addr).add j = ⟨w.heap.size, 0 + j, none⟩ := by unfold Addr.add; split <;> simp_all
          rw [e]
          exact hc (0 + j) (by omega))
        have hS' : D = hexL 8 b := hS
        rw [hl, hS'] at h
        exact h
      have HR2 := Lib.hid HR.out.below
      clear HR hc hf HG hS hv hiD
      go_wp2
      go_ret
      exact ⟨rfl, HR2.out⟩
theorem specNumberText (a : Nat) (ha : a < 2 ^ 32) (w : World) :
    Calls Tryd.prog 9 #[.float .f32 a] w fun e w' => e = .returned (.string ⟨(numText a).toArray⟩) ∧ Below w.heap.size w w' := by
  have h := specHex a ha w
  go_enter Tryd.func9, Tryd.ntmps9
  go_wp2_with (go_at_call 26; with_reducible refine h.mono ?_; rintro e w1 ⟨rfl, hb1⟩)
  go_ret
  exact ⟨rfl, hb1⟩

set_option maxHeartbeats 400000 in
set_option maxRecDepth 100000 in
theorem exactNumberText_any (a : Nat) (ha : a < 2 ^ 32) (w : World) (hc : w.cell? ⟨6, 15, none⟩ = some (.int .u8 4)) :
    Calls Tryd.prog 3 #[.float .f32 a] w fun e w' => e = .returned (.bool true) ∧ Below w.heap.size w w' := by
  obtain ⟨S, hS⟩ : ∃ S : ByteArray, S = ⟨(numText a).toArray⟩ := ⟨_, rfl⟩
  have h1 := specNumberText a ha w
  have h2 := fun w h => implNumberText a ha w h
  have hlt : 6 < w.heap.size := World.block_lt_of_cell? _ _ hc
  rw [← hS] at h1
  simp only [← hS] at h2
  clear hS
  go_enter Tryd.func3, Tryd.ntmps3
  go_wp2_with (first
    | (go_at_call 9; with_reducible refine h1.mono ?_; rintro e w1 ⟨rfl, hb1⟩)
    | (go_at_call 10; with_reducible refine (h2 _ ((hb1.cell (p := ⟨6, 15, none⟩) hlt).trans hc)).mono ?_; rintro e w2 ⟨rfl, hb2⟩))
  go_ret
  exact ⟨rfl, hb1.trans (hb2.mono hb1.size)⟩
end Go.Proofs.YtckcngmbbnilnaaDoor
