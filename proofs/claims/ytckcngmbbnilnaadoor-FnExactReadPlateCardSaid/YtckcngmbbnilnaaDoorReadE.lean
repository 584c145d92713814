/- Numbers of a few digits: the program's reader. -/
import Derived.Test.YtckcngmbbnilnaaDoorReadD
set_option linter.unusedVariables false
set_option linter.unusedSimpArgs false
namespace Go.Proofs.YtckcngmbbnilnaaDoor
open Go.RowKit Go.Lib

theorem below_growS (w : World) (k : Nat) (os : Array Obj) : Below w.heap.size w (Go.Sort.grow (w.drewN k) os) := by
  refine ⟨rfl, rfl, rfl, ?_, fun i hi => ?_⟩
  · show w.heap.size ≤ (w.heap ++ os).size
    simp
  · show (w.heap ++ os)[i]? = _
    rw [Array.getElem?_append_left hi]
/-- strconv.FormatInt at base 10. -/
theorem fmtInt (v : Int) (h0 : -9223372036854775808 ≤ v) (h1 : v ≤ 9223372036854775807) (w : World) (htab : Lib.TabIs Tryd.prog w "internal/strconv.uint64pow10" .u64 Lib.pow10Tab) :
    Calls Tryd.prog 80 #[.int .i64 v, .int .i64 10] w fun e w' => e = .returned (.string ⟨(Lib.itoa v).toArray⟩) ∧ Below w.heap.size w w' :=
  (Tryd.strconv_FormatInt_10 v h0 h1 w htab).mono fun e w' ⟨h, k, os, hw⟩ => ⟨h, by rw [hw]; exact below_growS w k os⟩

/-- strconv.ParseInt at base 10 and 8 bits. -/
theorem parseInt8 (t : ByteArray) (hmax : t.size ≤ 1048576) (w : World) (hL : Libs w) :
    Calls Tryd.prog 79 #[.string t, .int .i64 10, .int .i64 8] w fun e w' => (∃ v, e = .returned v ∧ ((∃ n : Int, Lib.parseIntB 8 t.data.toList = .ok n ∧ v = .tuple #[.int .i64 n, .nilIface]) ∨ ((∀ n : Int, Lib.parseIntB 8 t.data.toList ≠ .ok n) ∧ ∃ (x : Int) (T : TypeId) (p : Value), v = .tuple #[.int .i64 x, .iface T p]))) ∧ Below w.heap.size w w' := by
  rcases h : Lib.parseIntB 8 t.data.toList with n | _ | _
  · refine (Tryd.strconv_ParseInt_10_at8_ok t (by omega) n h w).mono fun e w' ⟨he, hw⟩ => ⟨⟨_, he, Or.inl ⟨n, rfl, rfl⟩⟩, ?_⟩
    rcases hw with rfl | ⟨t', rfl⟩
    · exact Below.refl _ _
    · exact Lib.bytesWorld_below _ _ _
  · obtain ⟨tp, p, hev⟩ := hL.es
    refine (Any.strconv_ParseInt_10_at8_syntax Tryd.laysC174 t (by omega) h (.iface tp p) w hev (Or.inr ⟨tp, p, rfl⟩)).mono fun e w' ⟨N, he, _, _, hb⟩ => ⟨⟨_, he, Or.inr ⟨fun n hn => by simp at hn, _, _, _, rfl⟩⟩, hb⟩
  · obtain ⟨tp, p, hev⟩ := hL.er
    refine (Tryd.strconv_ParseInt_10_at8_range t (by omega) h (.iface tp p) w hev (Or.inr ⟨tp, p, rfl⟩)).mono fun e w' ⟨N, he, _, _, hb⟩ => ⟨⟨_, he, Or.inr ⟨fun n hn => by simp at hn, _, _, _, rfl⟩⟩, hb⟩

/-- What digit hands back. -/
def DigEnd (l : List UInt8) (v : Value) : Prop := ∃ (n : Int) (ok : Bool), v = .tuple #[.int .i64 n, .bool ok] ∧ (ok = true → l = Lib.itoa n) ∧ ∀ m, m < 13 → l = Lib.decDigits m → ok = true ∧ n = m

set_option maxHeartbeats 1000000 in
set_option maxRecDepth 100000 in
theorem implDigit (t : ByteArray) (hmax : t.size ≤ 1048576) (w : World) (hL : Libs w) (htab : Lib.TabIs Tryd.prog w "internal/strconv.uint64pow10" .u64 Lib.pow10Tab) :
    Calls Tryd.prog 52 #[.string t] w fun e w' => (∃ v, e = .returned v ∧ DigEnd t.data.toList v) ∧ Below w.heap.size w w' := by
  have hP := parseInt8 t hmax w hL
  by_cases hx : ∃ n : Int, Lib.parseIntB 8 t.data.toList = .ok n
  · obtain ⟨n, hn⟩ := hx
    have hP' : Calls Tryd.prog 79 #[.string t, .int .i64 10, .int .i64 8] w fun e w' => e = .returned (.tuple #[.int .i64 n, .nilIface]) ∧ Below w.heap.size w w' := hP.mono fun e w' ⟨⟨v, h1, h2⟩, h3⟩ => ⟨by
      rcases h2 with ⟨m, hm, rfl⟩ | ⟨h4, _⟩
      · rw [hn] at hm
        injection hm with hm
        rw [h1, hm]
      · exact absurd hn (h4 n), h3⟩
    have hbd := Lib.parseIntB_bounds hn
    have b1 : -9223372036854775808 ≤ n := by have := hbd.1; simp at this; omega
    have b2 : n ≤ 9223372036854775807 := by have := hbd.2; simp at this; omega
    obtain ⟨S, hS⟩ : ∃ S : ByteArray, S = ⟨(Lib.itoa n).toArray⟩ := ⟨_, rfl⟩
    have hF : ∀ w1, Below w.heap.size w w1 → Calls Tryd.prog 80 #[.int .i64 n, .int .i64 10] w1 fun e w' => e = .returned (.string S) ∧ Below w1.heap.size w1 w' := fun w1 hb => by
      rw [hS]
      exact fmtInt n b1 b2 w1 (Go.Joins.tab_stays (g := 1) (by kernel_rfl) htab hb (Nat.le_refl _))
    by_cases hq : S = t
    · have HR : Hid (DigEnd t.data.toList (.tuple #[.int .i64 n, .bool true])) := Lib.hid ⟨n, true, rfl, fun _ => by rw [← hq, hS], fun m hm hl => ⟨rfl, by
        have h1 := parse_dec m hm
        rw [← hl, hn] at h1
        injection h1⟩⟩
      subst hq
      clear hP hn hbd b1 b2 hS htab hL
      go_enter Tryd.func52, Tryd.ntmps52
      go_wp2_with (first
        | (go_at_call 79; with_reducible refine hP'.mono ?_; rintro e w1 ⟨rfl, hb1⟩)
        | (go_at_call 80; with_reducible refine (hF _ hb1).mono ?_; rintro e w2 ⟨rfl, hb2⟩))
      go_ret2
      exact ⟨⟨_, rfl, by simpa using HR.out⟩, hb1.trans (hb2.mono hb1.size)⟩
    · have HR : Hid (DigEnd t.data.toList (.tuple #[.int .i64 n, .bool false])) := Lib.hid ⟨n, false, rfl, fun h => by simp at h, fun m hm hl => by
        exfalso
        have h1 := parse_dec m hm
        rw [← hl, hn] at h1
        injection h1 with h1
        subst h1
        apply hq
        rw [hS]
        apply ByteArray.ext
        apply Array.toList_inj.1
        rw [hl]
        simp [Lib.itoa]⟩
      have hq' := strNe hq
      have HQ := Lib.hid hq'
      clear hP hn hbd b1 b2 hS htab hL hq'
      go_enter Tryd.func52, Tryd.ntmps52
      go_wp2_with (first
        | (go_at_call 79; with_reducible refine hP'.mono ?_; rintro e w1 ⟨rfl, hb1⟩)
        | (go_at_call 80; with_reducible refine (hF _ hb1).mono ?_; rintro e w2 ⟨rfl, hb2⟩))
      go_ret2
      exact ⟨⟨_, rfl, by
        have h := HR.out
        rw [← HQ.out] at h
        exact h⟩, hb1.trans (hb2.mono hb1.size)⟩
  · have hP' : Calls Tryd.prog 79 #[.string t, .int .i64 10, .int .i64 8] w fun e w' => (∃ (x : Int) (T : TypeId) (p : Value), e = .returned (.tuple #[.int .i64 x, .iface T p])) ∧ Below w.heap.size w w' := hP.mono fun e w' ⟨⟨v, h1, h2⟩, h3⟩ => ⟨by
      rcases h2 with ⟨m, hm, rfl⟩ | ⟨h4, x, T, p, rfl⟩
      · exact absurd ⟨m, hm⟩ hx
      · exact ⟨x, T, p, h1⟩, h3⟩
    have HR : ∀ x : Int, DigEnd t.data.toList (.tuple #[.int .i64 x, .bool false]) := fun x => ⟨x, false, rfl, fun h => by simp at h, fun m hm hl => by
      exfalso
      exact hx ⟨m, by rw [hl]; exact parse_dec m hm⟩⟩
    have HRR := Lib.hid HR
    clear hP hx htab hL HR
    go_enter Tryd.func52, Tryd.ntmps52
    go_wp2_with (go_at_call 79; with_reducible refine hP'.mono ?_; rintro e w1 ⟨⟨x, T, p, rfl⟩, hb1⟩)
    go_ret2
    exact ⟨⟨_, rfl, HRR.out x⟩, hb1⟩
end Go.Proofs.YtckcngmbbnilnaaDoor
