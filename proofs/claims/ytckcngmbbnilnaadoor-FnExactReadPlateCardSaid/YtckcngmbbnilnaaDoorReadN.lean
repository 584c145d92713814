/- The number of a text: the program's and the reference's. -/
import Derived.Test.YtckcngmbbnilnaaDoorReadP
import Derived.Test.YtckcngmbbnilnaaDoorShelf2
set_option linter.unusedVariables false
set_option linter.unusedSimpArgs false
namespace Go.Proofs.YtckcngmbbnilnaaDoor
open Go.RowKit Go.Lib

theorem strNe {a b : ByteArray} (h : ¬ a = b) : (a.toList == b.toList) = false := by
  rw [ByteArray.toList_eq, ByteArray.toList_eq]
  simp only [beq_eq_false_iff_ne, ne_eq]
  exact fun e => h (ByteArray.ext (Array.toList_inj.1 e))
/-- What of Go's library is read. -/
structure Libs (w : World) : Prop where
  db : w.cell? ⟨6, 15, none⟩ = some (.int .u8 4)
  es : ∃ tp p, w.cell? ⟨2, 0, none⟩ = some (.iface tp p)
  er : ∃ tp p, w.cell? ⟨3, 0, none⟩ = some (.iface tp p)
theorem Libs.on {w w' : World} {B : Nat} (h : Libs w) (hb : Below B w w') (hB : w.heap.size ≤ B) : Libs w' := by
  obtain ⟨tp, p, e1⟩ := h.es
  obtain ⟨tq, q, e2⟩ := h.er
  exact ⟨(hb.cell (Nat.lt_of_lt_of_le (World.block_lt_of_cell? _ _ h.db) hB)).trans h.db,
    ⟨tp, p, (hb.cell (Nat.lt_of_lt_of_le (World.block_lt_of_cell? _ _ e1) hB)).trans e1⟩,
    ⟨tq, q, (hb.cell (Nat.lt_of_lt_of_le (World.block_lt_of_cell? _ _ e2) hB)).trans e2⟩⟩

theorem parseUintIn (t : ByteArray) (hmax : t.size ≤ 1048576) (w : World) :
    Calls Tryd.prog 75 #[.string t, .int .i64 16, .int .i64 32] w fun e w' => (∃ v, e = .returned v ∧ uintEnd 128 (hexUE t.data.toList) v) ∧ Below w.heap.size w w' := by
  by_cases h0 : t.size = 0
  · have ht : t = ⟨#[]⟩ := by
      apply ByteArray.ext
      exact Array.eq_empty_of_size_eq_zero h0
    subst ht
    refine (Tryd.internal_strconv_ParseUint_empty 16 32 w).mono fun e w' ⟨he, hw⟩ => ⟨⟨_, he, ?_⟩, by rw [hw]; exact Below.refl _ _⟩
    exact ⟨0, 2, Or.inr rfl, rfl⟩
  · have hne : t.data.toList ≠ [] := fun h => h0 (by rw [Lib.size_eq, h]; rfl)
    refine (parseUint16 (P := Tryd.prog) { Tryd.lays287 with } t h0 (by omega) w).mono fun e w' ⟨he, hw⟩ => ⟨?_, by rw [hw]; exact Lib.bytesWorld_below _ _ _⟩
    unfold hexUE
    rw [if_neg hne]
    exact he

set_option maxHeartbeats 1000000 in
set_option maxRecDepth 100000 in
theorem parseUintPub (t : ByteArray) (hmax : t.size ≤ 1048576) (w : World) (hL : Libs w) :
    Calls Tryd.prog 44 #[.string t, .int .i64 16, .int .i64 32] w fun e w' => (∃ v, e = .returned v ∧ match hexUE t.data.toList with | some n => v = .tuple #[.int .u64 n, .nilIface] | none => ∃ M T p, v = .tuple #[.int .u64 M, .iface T p]) ∧ Below w.heap.size w w' := by
  have hI := parseUintIn t hmax w
  cases hx : hexUE t.data.toList with
  | some n =>
    rw [hx] at hI
    have hI' : Calls Tryd.prog 75 #[.string t, .int .i64 16, .int .i64 32] w fun e w' => e = .returned (.tuple #[.int .u64 n, .nilIface]) ∧ Below w.heap.size w w' := hI.mono fun e w' ⟨⟨v, h1, h2⟩, h3⟩ => ⟨by rw [h1]; exact congrArg _ h2, h3⟩
    clear hI hx
    go_enter Tryd.func44, Tryd.ntmps44
    go_wp2_with (go_at_call 75; with_reducible refine hI'.mono ?_; rintro e w1 ⟨rfl, hb1⟩)
    go_ret2
    exact ⟨⟨_, rfl, rfl⟩, hb1⟩
  | none =>
    rw [hx] at hI
    have hI' : Calls Tryd.prog 75 #[.string t, .int .i64 16, .int .i64 32] w fun e w' => (∃ M, e = .returned (.tuple #[.int .u64 M, .iface 128 (.int .i64 1)]) ∨ e = .returned (.tuple #[.int .u64 M, .iface 128 (.int .i64 2)])) ∧ Below w.heap.size w w' := hI.mono fun e w' ⟨⟨v, h1, M, c, hc, h2⟩, h3⟩ => ⟨⟨M, by
      rcases hc with rfl | rfl
      · exact Or.inl (by rw [h1, h2])
      · exact Or.inr (by rw [h1, h2])⟩, h3⟩
    clear hI hx
    go_enter Tryd.func44, Tryd.ntmps44
    go_wp2_with fail
    go_at_call 75
    with_reducible refine hI'.mono ?_
    rintro e w1 ⟨⟨M, rfl | rfl⟩, hb1⟩
    · obtain ⟨tp, p, hev⟩ := (hL.on hb1 (Nat.le_refl _)).er
      have hT := Tryd.strconv_toError_range ⟨#[80, 97, 114, 115, 101, 85, 105, 110, 116]⟩ t 16 32 (.iface tp p) w1 (by omega) hev (Or.inr ⟨tp, p, rfl⟩)
      go_wp2_with fail
      go_at_call 76
      with_reducible refine calls_args (b := #[.string ⟨#[80, 97, 114, 115, 101, 85, 105, 110, 116]⟩, .string t, .int .i64 16, .int .i64 32, .iface 128 (.int .i64 1)]) (by kernel_rfl) ?_
      with_reducible refine hT.mono ?_
      rintro e w2 ⟨N, rfl, _, _, hb2⟩
      go_wp2
      go_ret2
      exact ⟨⟨_, rfl, _, _, _, rfl⟩, hb1.trans (hb2.mono hb1.size)⟩
    · obtain ⟨tp, p, hev⟩ := (hL.on hb1 (Nat.le_refl _)).es
      have hT := Tryd.strconv_toError_syntax ⟨#[80, 97, 114, 115, 101, 85, 105, 110, 116]⟩ t 16 32 (.iface tp p) w1 (by omega) hev (Or.inr ⟨tp, p, rfl⟩)
      go_wp2_with fail
      go_at_call 76
      with_reducible refine calls_args (b := #[.string ⟨#[80, 97, 114, 115, 101, 85, 105, 110, 116]⟩, .string t, .int .i64 16, .int .i64 32, .iface 128 (.int .i64 2)]) (by kernel_rfl) ?_
      with_reducible refine hT.mono ?_
      rintro e w2 ⟨N, rfl, _, _, hb2⟩
      go_wp2
      go_ret2
      exact ⟨⟨_, rfl, _, _, _, rfl⟩, hb1.trans (hb2.mono hb1.size)⟩

/-- What ReadNumber hands back. -/
def readRes (o : Option Nat) : Value := match o with | some v => .tuple #[.float .f32 v, .int .i64 0] | none => .tuple #[.float .f32 0, .int .i64 5]

set_option maxHeartbeats 1000000 in
set_option maxRecDepth 100000 in
theorem implReadNumber (t : ByteArray) (hmax : t.size ≤ 1048576) (w : World) (hL : Libs w) :
    Calls Tryd.prog 18 #[.string t] w fun e w' => e = .returned (readRes (readOf t.data.toList)) ∧ Below w.heap.size w w' := by
  have hfrom : ∀ x w, (callFunc 45 #[.int .u32 x]).run Tryd.prog w = .ok (.value (.float .f32 x.toNat)) w := fun x w => by kernel_rfl
  have hI := parseUintPub t hmax w hL
  cases hx : hexUE t.data.toList with
  | none =>
    have hG : readOf t.data.toList = none := by rw [readOf_by, hx]
    rw [hG]
    rw [hx] at hI
    clear hG
    clear hx
    go_enter Tryd.func18, Tryd.ntmps18
    go_wp2_with (go_at_call 44; with_reducible refine hI.mono ?_; rintro e w1 ⟨⟨v, rfl, M, T, p, rfl⟩, hb1⟩)
    go_ret2
    exact ⟨rfl, hb1⟩
  | some n =>
    rw [hx] at hI
    have hI' : Calls Tryd.prog 44 #[.string t, .int .i64 16, .int .i64 32] w fun e w' => e = .returned (.tuple #[.int .u64 n, .nilIface]) ∧ Below w.heap.size w w' := hI.mono fun e w' ⟨⟨v, h1, h2⟩, h3⟩ => ⟨by rw [h1]; exact congrArg _ h2, h3⟩
    have hn := hexUE_lt hx
    have hn2 : n < 4294967296 := by simpa using hn
    have hN := fun w1 h => implNumberText n hn w1 h
    clear hI
    obtain ⟨S, hS⟩ : ∃ S : ByteArray, S = ⟨(numText n).toArray⟩ := ⟨_, rfl⟩
    simp only [← hS] at hN
    have hSl : S.data.toList = numText n := by rw [hS]
    by_cases hq : numText n = t.data.toList
    · have hst : S = t := by
        apply ByteArray.ext
        apply Array.toList_inj.1
        rw [hSl, hq]
      have hG : readOf t.data.toList = some n := by rw [readOf_by, hx]; exact if_pos hq
      rw [hG]
      subst hst
      have HL := Lib.hid hL
      clear hS hSl hq hn hG hL hx
      go_enter Tryd.func18, Tryd.ntmps18
      go_wp2_with (first
        | (go_at_call 44; with_reducible refine hI'.mono ?_; rintro e w1 ⟨rfl, hb1⟩)
        | (go_at_call 10; with_reducible refine (hN _ (HL.out.on hb1 (Nat.le_refl _)).db).mono ?_; rintro e w2 ⟨rfl, hb2⟩))
      go_ret2
      exact ⟨rfl, hb1.trans (hb2.mono hb1.size)⟩
    · have hst : ¬ S = t := fun e => hq (by rw [← hSl, e])
      have hG : readOf t.data.toList = none := by rw [readOf_by, hx]; exact if_neg hq
      rw [hG]
      have HL := Lib.hid hL
      clear hS hSl hq hn hG hL hx
      go_enter Tryd.func18, Tryd.ntmps18
      go_wp2_with (first
        | (go_at_call 44; with_reducible refine hI'.mono ?_; rintro e w1 ⟨rfl, hb1⟩)
        | (go_at_call 10; with_reducible refine (hN _ (HL.out.on hb1 (Nat.le_refl _)).db).mono ?_; rintro e w2 ⟨rfl, hb2⟩))
      · go_ret2
        exact ⟨rfl, hb1.trans (hb2.mono hb1.size)⟩
      · rename_i hbad
        exact absurd (strNe hst) (by rw [Bool.not_eq_false'] at hbad; rw [hbad]; simp)
end Go.Proofs.YtckcngmbbnilnaaDoor
