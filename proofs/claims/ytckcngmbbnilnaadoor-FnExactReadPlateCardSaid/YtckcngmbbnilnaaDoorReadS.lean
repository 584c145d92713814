/- The number of a text, as the reference reads it, and the law on ReadNumber. -/
import Derived.Test.YtckcngmbbnilnaaDoorReadN
set_option linter.unusedVariables false
set_option linter.unusedSimpArgs false
namespace Go.Proofs.YtckcngmbbnilnaaDoor
open Go.RowKit Go.Lib

theorem idx_str {P : Program} (t : TypeId) (ht : P.underlying t = some .string) (s : ByteArray) (k : IntKind) (i : Nat) (hi : i < s.size) (w : World) :
    (Instr.index t (.string s) (.int k (i : Int))).run P w = .ok (.int .u8 ((s.data.toList.getD i 0).toNat : Int)) w := by
  rw [run_index_string w t s k _ ht, dif_pos ⟨by omega, by omega⟩]
  have e : ((i : Int)).toNat = i := by omega
  simp only [e]
  rw [Lib.getD_at s i hi]

/-- What l01Read hands back. -/
def readEnd (o : Option Nat) (v : Value) : Prop := match o with | some n => v = .tuple #[.float .f32 n, .bool true] | none => ∃ x, v = .tuple #[.float .f32 x, .bool false]

set_option maxHeartbeats 1000000 in
set_option maxRecDepth 100000 in
theorem specRead (t : ByteArray) (w : World) :
    Calls Tryd.prog 43 #[.string t] w fun e w' => (∃ v, e = .returned v ∧ readEnd (readOf t.data.toList) v) ∧ w = w' := by
  have hfrom : ∀ x w, (callFunc 45 #[.int .u32 x]).run Tryd.prog w = .ok (.value (.float .f32 x.toNat)) w := fun x w => by kernel_rfl
  by_cases h8 : t.size = 8
  · have hl8 : t.data.toList.length = 8 := by rw [← Lib.size_eq]; exact h8
    have hidx : ∀ k : Nat, k < 8 → ∀ w, (Instr.index 9 (.string t) (.int .i64 (k : Int))).run Tryd.prog w = .ok (.int .u8 ((t.data.toList.getD k 0).toNat : Int)) w := fun k hk w => idx_str 9 Tryd.underlying9 t .i64 k (by omega) w
    obtain ⟨bs, hbs⟩ : ∃ bs, bs = t.data.toList := ⟨_, rfl⟩
    rw [← hbs] at hidx hl8 ⊢
    clear hbs
    go_enter Tryd.func43, Tryd.ntmps43
    go_wp2
    go_loop [4, 5] (fun vb vi => ∃ (k acc : Nat), vb = .int .u32 acc ∧ vi = .int .i64 k ∧ k ≤ 8 ∧ Hid (acc < 16 ^ k ∧ hexV 0 bs = hexV acc (bs.drop k))) (fun _ vi => 8 - (RowKit.intOf vi).toNat)
    case atStart => exact ⟨0, 0, rfl, rfl, by omega, by simp, by simp⟩
    case round =>
      obtain ⟨k, acc, rfl, rfl, hk, hh⟩ := hrel
      obtain ⟨hacc, hdec⟩ := hh.out
      clear hh
      by_cases hkn : k < 8
      · have hX := hidx k hkn
        have hdrop : bs.drop k = bs[k]'(by omega) :: bs.drop (k + 1) := List.drop_eq_getElem_cons (by omega)
        have hget : bs.getD k 0 = bs[k]'(by omega) := by simp [List.getD, List.getElem?_eq_getElem (show k < bs.length by omega)]
        rw [hdrop, hexV_cons] at hdec
        rw [hget] at hX
        generalize bs[k]'(by omega) = c at hX hdec
        have hc256 : c.toNat < 256 := c.toNat_lt
        have hacc7 : acc < 268435456 := by
          have := Nat.pow_le_pow_right (show 0 < 16 by omega) (show k ≤ 7 by omega)
          omega
        clear hidx hdrop hget
        cases hd : digOf c.toNat with
        | some d =>
          rw [hd] at hdec
          have hdec' : hexV 0 bs = hexV (acc * 16 + d) (bs.drop (k + 1)) := hdec
          have hd16 := (hexDig_digOf c.toNat hc256 d hd).1
          have HN : Hid (acc * 16 + d < 16 ^ (k + 1) ∧ hexV 0 bs = hexV (acc * 16 + d) (bs.drop (k + 1))) := Lib.hid ⟨by rw [Nat.pow_succ]; omega, hdec'⟩
          by_cases h1 : 48 ≤ c.toNat ∧ c.toNat ≤ 57
          · have hdv : d = c.toNat - 48 := by rw [digOf, if_pos h1] at hd; injection hd with hd; exact hd.symm
            obtain ⟨h1a, h1b⟩ := h1
            obtain rfl := hdv
            clear hacc hdec hdec' hd
            go_wp2
            refine ⟨⟨k + 1, _, ?_, rfl, by omega, HN⟩, by simp [RowKit.intOf]; omega⟩
            congr 1; omega
          · have h2 : 97 ≤ c.toNat ∧ c.toNat ≤ 102 := by
              unfold digOf at hd
              rw [if_neg h1] at hd
              exact Classical.byContradiction fun h => by rw [if_neg h] at hd; exact absurd hd (by simp)
            have hdv : d = c.toNat - 87 := by rw [digOf, if_neg h1, if_pos h2] at hd; injection hd with hd; exact hd.symm
            obtain ⟨h2a, h2b⟩ := h2
            obtain rfl := hdv
            clear hacc hdec hdec' hd h1
            go_wp2
            refine ⟨⟨k + 1, _, ?_, rfl, by omega, HN⟩, by simp [RowKit.intOf]; omega⟩
            congr 1; omega
        | none =>
          rw [hd] at hdec
          have n1 : ¬ (48 ≤ c.toNat ∧ c.toNat ≤ 57) := fun h => by simp [digOf, h] at hd
          have n2 : ¬ (97 ≤ c.toNat ∧ c.toNat ≤ 102) := fun h => by simp [digOf, n1, h] at hd
          have HD : Hid (readOf bs = none) := Lib.hid (by unfold readOf; rw [if_pos hl8, hdec]; rfl)
          clear hacc hdec hd
          go_wp2
          all_goals go_ret2
          all_goals exact ⟨⟨_, rfl, by rw [HD.out]; exact ⟨_, rfl⟩⟩, rfl⟩
      · have hkk : k = 8 := by omega
        subst hkk
        rw [List.drop_eq_nil_of_le (by omega)] at hdec
        have hdec' : hexV 0 bs = some acc := hdec
        have hB := fun w => specBits acc (by simpa using hacc) w
        by_cases hq : canonB acc = acc
        · have HD : Hid (readOf bs = some acc) := Lib.hid (by unfold readOf; rw [if_pos hl8, hdec']; exact if_pos hq)
          rw [hq] at hB
          clear hacc hdec hdec' hidx hq
          go_wp2_with (go_at_call 31; with_reducible refine (hB _).mono ?_; rintro e w1 ⟨rfl, rfl⟩)
          go_ret2
          exact ⟨⟨_, rfl, by rw [HD.out]; rfl⟩, rfl⟩
        · have HD : Hid (readOf bs = none) := Lib.hid (by unfold readOf; rw [if_pos hl8, hdec']; exact if_neg hq)
          have hq' : (((canonB acc : Nat) : Int) == (acc : Int)) = false := by simp; omega
          clear hacc hdec hdec' hidx hq
          generalize canonB acc = cb at hB hq'
          go_wp2_with (go_at_call 31; with_reducible refine (hB _).mono ?_; rintro e w1 ⟨rfl, rfl⟩)
          go_ret2
          exact ⟨⟨_, rfl, by rw [HD.out]; exact ⟨_, rfl⟩⟩, rfl⟩
  · have HD : Hid (readOf t.data.toList = none) := Lib.hid (readOf_len (by rw [← Lib.size_eq]; exact h8))
    have h8' : ¬ ((t.size : Nat) : Int) = 8 := by omega
    clear h8
    go_enter Tryd.func43, Tryd.ntmps43
    go_wp2
    go_ret2
    exact ⟨⟨_, rfl, by rw [HD.out]; exact ⟨_, rfl⟩⟩, rfl⟩

set_option maxHeartbeats 1000000 in
set_option maxRecDepth 100000 in
theorem specReadNumber (t : ByteArray) (w : World) :
    Calls Tryd.prog 17 #[.string t] w fun e w' => e = .returned (readRes (readOf t.data.toList)) ∧ w = w' := by
  have hR := specRead t w
  cases hx : readOf t.data.toList with
  | some n =>
    rw [hx] at hR
    have hR' : Calls Tryd.prog 43 #[.string t] w fun e w' => e = .returned (.tuple #[.float .f32 n, .bool true]) ∧ w = w' := hR.mono fun e w' ⟨⟨v, h1, h2⟩, h3⟩ => ⟨by rw [h1]; exact congrArg _ h2, h3⟩
    clear hx hR
    go_enter Tryd.func17, Tryd.ntmps17
    go_wp2_with (go_at_call 43; with_reducible refine hR'.mono ?_; rintro e w1 ⟨rfl, rfl⟩)
    go_ret2
    exact ⟨rfl, rfl⟩
  | none =>
    rw [hx] at hR
    have hR' : Calls Tryd.prog 43 #[.string t] w fun e w' => (∃ x, e = .returned (.tuple #[.float .f32 x, .bool false])) ∧ w = w' := hR.mono fun e w' ⟨⟨v, h1, x, h2⟩, h3⟩ => ⟨⟨x, by rw [h1]; exact congrArg _ h2⟩, h3⟩
    clear hx hR
    go_enter Tryd.func17, Tryd.ntmps17
    go_wp2_with (go_at_call 43; with_reducible refine hR'.mono ?_; rintro e w1 ⟨⟨x, rfl⟩, rfl⟩)
    go_ret2
    exact ⟨rfl, rfl⟩

theorem run_cv (x : Nat) (w : World) : (convert 22 45 (.float .f32 x)).run Tryd.prog w = .ok (.float .f64 (wideAt x w)) (wideW x w) := by
  simp [convert, run_underlying Tryd.underlying22, run_underlying Tryd.underlying45, run_f2f]

set_option maxHeartbeats 1000000 in
set_option maxRecDepth 100000 in
theorem exactReadNumber_any (t : ByteArray) (w : World) (hL : Libs w) :
    Calls Tryd.prog 6 #[.string t] w fun e w' => e = .returned (.bool true) ∧ Below w.heap.size w w' := by
  by_cases hmax : t.size ≤ 1048576
  · have h1 := fun w => specReadNumber t w
    have h2 := fun w h => implReadNumber t hmax w h
    obtain ⟨x, c, hres⟩ : ∃ (x : Nat) (c : Int), readRes (readOf t.data.toList) = .tuple #[.float .f32 x, .int .i64 c] := by
      cases readOf t.data.toList with
      | none => exact ⟨0, 5, rfl⟩
      | some v => exact ⟨v, 0, rfl⟩
    rw [hres] at h2
    simp only [hres] at h1
    have hcv := fun w => run_cv x w
    clear hres
    go_enter Tryd.func6, Tryd.ntmps6
    go_wp2_with (first
      | (go_at_call 17; with_reducible refine (h1 _).mono ?_; rintro e w1 ⟨rfl, rfl⟩)
      | (go_at_call 18; with_reducible refine (h2 _ hL).mono ?_; rintro e w2 ⟨rfl, hb2⟩)
      | (go_at_call 19; with_reducible refine (sameFloat_wide _ _ _ _).mono ?_; rintro e w' ⟨rfl, rfl⟩))
    go_ret
    exact ⟨rfl, below_wideW _ (below_wideW _ hb2)⟩
  · go_enter Tryd.func6, Tryd.ntmps6
    go_wp2
    go_ret
    exact ⟨rfl, Below.refl _ _⟩
end Go.Proofs.YtckcngmbbnilnaaDoor
