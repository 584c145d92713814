/- Numbers of a few digits: the reference's and the program's readers. -/
import Derived.Test.YtckcngmbbnilnaaDoorReadM
import Derived.Lib.ParseIntBTie
import Derived.Lib.SmallJoins
set_option linter.unusedVariables false
set_option linter.unusedSimpArgs false
namespace Go.Proofs.YtckcngmbbnilnaaDoor
open Go.RowKit Go.Lib

/-- The value of digits behind a value already read. -/
def valD : Nat → List UInt8 → Option Nat
  | a, [] => some a
  | a, c :: l => if 48 ≤ c.toNat ∧ c.toNat ≤ 57 then valD (a * 10 + (c.toNat - 48)) l else none
/-- The number of one to nine digits with a text. -/
def numOf (l : List UInt8) : Option Nat := if l.length < 1 ∨ 9 < l.length ∨ (l.getD 0 0 = 48 ∧ 1 < l.length) then none else valD 0 l
theorem valD_ge : ∀ (l : List UInt8) (a v : Nat), valD a l = some v → a * 10 ^ l.length ≤ v
  | [], a, v, h => by simp [valD] at h; simp [h]
  | c :: l, a, v, h => by
    unfold valD at h
    split at h
    · have := valD_ge l _ v h
      have h2 : a * 10 ^ (c :: l).length = a * 10 * 10 ^ l.length := by
        rw [List.length_cons, Nat.pow_succ, Nat.mul_assoc, Nat.mul_comm 10]
      rw [h2]
      exact Nat.le_trans (Nat.mul_le_mul_right _ (by omega)) this
    · exact absurd h (by simp)
theorem numOf_dec : ∀ n, n < 13 → numOf (Lib.decDigits n) = some n := by
  intro n hn
  by_cases h : n < 10
  · rw [dec_small h]
    have : ∀ n, n < 10 → numOf [UInt8.ofNat (48 + n)] = some n := by decide
    exact this n h
  · rw [dec_two (by omega) (by omega)]
    have : ∀ n, n < 13 → 10 ≤ n → numOf [UInt8.ofNat (48 + n / 10), UInt8.ofNat (48 + n % 10)] = some n := by decide
    exact this n hn (by omega)
theorem byte_of {c : UInt8} {k : Nat} (h : c.toNat = k) : c = UInt8.ofNat k := by rw [← h]; simp
theorem numOf_small {l : List UInt8} {n : Nat} (h : numOf l = some n) (hn : n < 13) : l = Lib.decDigits n := by
  unfold numOf at h
  split at h
  · exact absurd h (by simp)
  · rename_i hc
    simp only [not_or, not_and] at hc
    obtain ⟨h1, h2, h3⟩ := hc
    match l, h1, h2, h3, h with
    | [], h1, _, _, _ => exact absurd h1 (by simp)
    | [c], _, _, _, h =>
      unfold valD at h
      split at h
      · rename_i hd
        simp [valD] at h
        rw [dec_small (by omega)]
        congr 1
        exact byte_of (by omega)
      · exact absurd h (by simp)
    | [c, d], _, _, h3, h =>
      have hc48 : c.toNat ≠ 48 := fun e => h3 (by simpa using byte_of e) (by simp)
      unfold valD at h
      split at h
      · rename_i hd
        unfold valD at h
        split at h
        · rename_i he
          simp [valD] at h
          rw [dec_two (by omega) (by omega)]
          congr 1
          · exact byte_of (by omega)
          · congr 1
            exact byte_of (by omega)
        · exact absurd h (by simp)
      · exact absurd h (by simp)
    | c :: d :: e :: r, _, _, h3, h =>
      have hc48 : c.toNat ≠ 48 := fun e => h3 (by simpa using byte_of e) (by simp)
      unfold valD at h
      split at h
      · rename_i hd
        have hge := valD_ge _ _ _ h
        have : 1 * 10 ^ (d :: e :: r).length ≤ (0 * 10 + (c.toNat - 48)) * 10 ^ (d :: e :: r).length := Nat.mul_le_mul_right _ (by omega)
        have h100 : 10 ^ 2 ≤ 10 ^ (d :: e :: r).length := Nat.pow_le_pow_right (by omega) (by simp)
        omega
      · exact absurd h (by simp)
theorem parse_dec : ∀ n, n < 13 → Lib.parseIntB 8 (Lib.decDigits n) = .ok (n : Int) := by
  intro n hn
  by_cases h : n < 10
  · rw [dec_small h]
    have : ∀ n, n < 10 → Lib.parseIntB 8 [UInt8.ofNat (48 + n)] = .ok (n : Int) := by decide
    exact this n h
  · rw [dec_two (by omega) (by omega)]
    have : ∀ n, n < 13 → 10 ≤ n → Lib.parseIntB 8 [UInt8.ofNat (48 + n / 10), UInt8.ofNat (48 + n % 10)] = .ok (n : Int) := by decide
    exact this n hn (by omega)

/-- What l01Number hands back. -/
def numEnd (o : Option Nat) : Value := match o with | some n => .tuple #[.int .i64 n, .bool true] | none => .tuple #[.int .i64 0, .bool false]

set_option maxHeartbeats 1000000 in
set_option maxRecDepth 100000 in
theorem specNumber (t : ByteArray) (w : World) :
    Calls Tryd.prog 47 #[.string t] w fun e w' => e = .returned (numEnd (numOf t.data.toList)) ∧ w = w' := by
  have hlen : t.data.toList.length = t.size := by rw [Lib.size_eq]
  have hidx : ∀ k : Nat, k < t.size → ∀ w, (Instr.index 9 (.string t) (.int .i64 (k : Int))).run Tryd.prog w = .ok (.int .u8 ((t.data.toList.getD k 0).toNat : Int)) w := fun k hk w => idx_str 9 Tryd.underlying9 t .i64 k hk w
  obtain ⟨L, hL⟩ : ∃ L, L = t.data.toList := ⟨_, rfl⟩
  rw [← hL] at hlen hidx ⊢
  clear hL
  by_cases h0 : t.size < 1
  · have HN : Hid (numOf L = none) := Lib.hid (by unfold numOf; exact if_pos (Or.inl (by omega)))
    have h0' : (t.size : Int) < 1 := by omega
    clear hlen hidx h0
    go_enter Tryd.func47, Tryd.ntmps47
    go_wp2
    go_ret2
    exact ⟨by rw [HN.out]; rfl, rfl⟩
  · by_cases h9 : 9 < t.size
    · have HN : Hid (numOf L = none) := Lib.hid (by unfold numOf; exact if_pos (Or.inr (Or.inl (by omega))))
      have h9' : (9 : Int) < t.size := by omega
      clear hlen hidx
      go_enter Tryd.func47, Tryd.ntmps47
      go_wp2
      go_ret2
      exact ⟨by rw [HN.out]; rfl, rfl⟩
    · have hX0 : ∀ w, (Instr.index 9 (.string t) (.int .i64 0)).run Tryd.prog w = .ok (.int .u8 ((L.getD 0 0).toNat : Int)) w := fun w => hidx 0 (by omega) w
      have s0 : (1 : Int) ≤ t.size := by omega
      have s9 : (t.size : Int) ≤ 9 := by omega
      by_cases hz : L.getD 0 0 = 48 ∧ 1 < t.size
      · have HN : Hid (numOf L = none) := Lib.hid (by unfold numOf; exact if_pos (Or.inr (Or.inr ⟨hz.1, by omega⟩)))
        have hz1 : (1 : Int) < t.size := by omega
        rw [hz.1, show ((48 : UInt8).toNat : Int) = 48 from rfl] at hX0
        clear hlen hidx hz
        go_enter Tryd.func47, Tryd.ntmps47
        go_wp2
        go_ret2
        exact ⟨by rw [HN.out]; rfl, rfl⟩
      · have HN : Hid (numOf L = valD 0 L) := Lib.hid (by
          unfold numOf
          refine if_neg ?_
          simp only [not_or]
          exact ⟨by omega, by omega, fun h => hz ⟨h.1, by omega⟩⟩)
        have hA : ¬ ((L.getD 0 0).toNat : Int) = 48 ∨ ¬ (1 : Int) < t.size := by
          by_cases e : L.getD 0 0 = 48
          · right
            have : ¬ 1 < t.size := fun h => hz ⟨e, h⟩
            omega
          · left
            intro h
            exact e (byte_of (by omega : (L.getD 0 0).toNat = 48))
        have HIX := Lib.hid hidx
        have HLEN := Lib.hid hlen
        clear hz hidx hlen h0 h9
        rcases hA with hA | hA
        · have hA' : ((L.getD 0 0).toNat : Int) ≠ 48 := hA
          generalize (L.getD 0 0).toNat = z at hX0 hA hA'
          go_enter Tryd.func47, Tryd.ntmps47
          go_wp2
          go_loop [4, 5] (fun va vi => ∃ (k acc : Nat), va = .int .i64 acc ∧ vi = .int .i64 k ∧ k ≤ t.size ∧ Hid (acc < 10 ^ k ∧ valD 0 L = valD acc (L.drop k))) (fun _ vi => t.size - (RowKit.intOf vi).toNat)
          case atStart => exact ⟨0, 0, rfl, rfl, by omega, by simp, by simp⟩
          case round =>
            obtain ⟨k, acc, rfl, rfl, hk, hh⟩ := hrel
            obtain ⟨hacc, hdec⟩ := hh.out
            clear hh
            by_cases hkn : k < t.size
            · have hX := HIX.out k hkn
              have hkl : k < L.length := by have := HLEN.out; omega
              have hdrop : L.drop k = L[k] :: L.drop (k + 1) := List.drop_eq_getElem_cons hkl
              have hget : L.getD k 0 = L[k] := by simp [List.getD, List.getElem?_eq_getElem hkl]
              rw [hdrop] at hdec
              rw [hget] at hX
              generalize L[k] = c at hX hdec
              have hc256 : c.toNat < 256 := c.toNat_lt
              have hacc8 : acc < 1000000000 := by
                have := Nat.pow_le_pow_right (show 0 < 10 by omega) (show k ≤ 9 by omega)
                omega
              have i1 : (k : Int) < t.size := by omega
              by_cases hd : 48 ≤ c.toNat ∧ c.toNat ≤ 57
              · have HN2 : Hid (acc * 10 + (c.toNat - 48) < 10 ^ (k + 1) ∧ valD 0 L = valD (acc * 10 + (c.toNat - 48)) (L.drop (k + 1))) := Lib.hid ⟨by rw [Nat.pow_succ]; omega, by
                  rw [hdec]
                  exact if_pos hd⟩
                obtain ⟨d0, d1⟩ := hd
                clear hacc hdec hdrop hget
                go_wp2
                go_round
                case rel => exact ⟨k + 1, acc * 10 + (c.toNat - 48), by congr 1; omega, by first | rfl | go_num, by omega, HN2⟩
                case measure => simp [RowKit.intOf]; omega
              · have HR : Hid (numOf L = none) := Lib.hid (by
                  rw [HN.out, hdec]
                  exact if_neg hd)
                by_cases hd0 : 48 ≤ c.toNat
                · have hd1 : (57 : Int) < c.toNat := by omega
                  clear hacc hdec hdrop hget hd
                  go_wp2
                  go_ret2
                  exact ⟨by rw [HR.out]; rfl, rfl⟩
                · have hd1 : (c.toNat : Int) < 48 := by omega
                  clear hacc hdec hdrop hget hd
                  go_wp2
                  go_ret2
                  exact ⟨by rw [HR.out]; rfl, rfl⟩
            · obtain rfl : k = t.size := by omega
              rw [List.drop_eq_nil_of_le (by have := HLEN.out; omega)] at hdec
              have HR : Hid (numOf L = some acc) := Lib.hid (by rw [HN.out, hdec]; rfl)
              clear hacc hdec
              go_wp2
              go_ret2
              exact ⟨by rw [HR.out]; rfl, rfl⟩
        · generalize (L.getD 0 0).toNat = z at hX0
          by_cases hz48 : (z : Int) = 48
          · rw [hz48] at hX0
            go_enter Tryd.func47, Tryd.ntmps47
            go_wp2
            go_loop [4, 5] (fun va vi => ∃ (k acc : Nat), va = .int .i64 acc ∧ vi = .int .i64 k ∧ k ≤ t.size ∧ Hid (acc < 10 ^ k ∧ valD 0 L = valD acc (L.drop k))) (fun _ vi => t.size - (RowKit.intOf vi).toNat)
            case atStart => exact ⟨0, 0, rfl, rfl, by omega, by simp, by simp⟩
            case round =>
              obtain ⟨k, acc, rfl, rfl, hk, hh⟩ := hrel
              obtain ⟨hacc, hdec⟩ := hh.out
              clear hh
              by_cases hkn : k < t.size
              · have hX := HIX.out k hkn
                have hkl : k < L.length := by have := HLEN.out; omega
                have hdrop : L.drop k = L[k] :: L.drop (k + 1) := List.drop_eq_getElem_cons hkl
                have hget : L.getD k 0 = L[k] := by simp [List.getD, List.getElem?_eq_getElem hkl]
                rw [hdrop] at hdec
                rw [hget] at hX
                generalize L[k] = c at hX hdec
                have hc256 : c.toNat < 256 := c.toNat_lt
                have hacc8 : acc < 1000000000 := by
                  have := Nat.pow_le_pow_right (show 0 < 10 by omega) (show k ≤ 9 by omega)
                  omega
                have i1 : (k : Int) < t.size := by omega
                by_cases hd : 48 ≤ c.toNat ∧ c.toNat ≤ 57
                · have HN2 : Hid (acc * 10 + (c.toNat - 48) < 10 ^ (k + 1) ∧ valD 0 L = valD (acc * 10 + (c.toNat - 48)) (L.drop (k + 1))) := Lib.hid ⟨by rw [Nat.pow_succ]; omega, by
                    rw [hdec]
                    exact if_pos hd⟩
                  obtain ⟨d0, d1⟩ := hd
                  clear hacc hdec hdrop hget
                  go_wp2
                  go_round
                  case rel => exact ⟨k + 1, acc * 10 + (c.toNat - 48), by congr 1; omega, by first | rfl | go_num, by omega, HN2⟩
                  case measure => simp [RowKit.intOf]; omega
                · have HR : Hid (numOf L = none) := Lib.hid (by
                    rw [HN.out, hdec]
                    exact if_neg hd)
                  by_cases hd0 : 48 ≤ c.toNat
                  · have hd1 : (57 : Int) < c.toNat := by omega
                    clear hacc hdec hdrop hget hd
                    go_wp2
                    go_ret2
                    exact ⟨by rw [HR.out]; rfl, rfl⟩
                  · have hd1 : (c.toNat : Int) < 48 := by omega
                    clear hacc hdec hdrop hget hd
                    go_wp2
                    go_ret2
                    exact ⟨by rw [HR.out]; rfl, rfl⟩
              · obtain rfl : k = t.size := by omega
                rw [List.drop_eq_nil_of_le (by have := HLEN.out; omega)] at hdec
                have HR : Hid (numOf L = some acc) := Lib.hid (by rw [HN.out, hdec]; rfl)
                clear hacc hdec
                go_wp2
                go_ret2
                exact ⟨by rw [HR.out]; rfl, rfl⟩
          · go_enter Tryd.func47, Tryd.ntmps47
            go_wp2
            go_loop [4, 5] (fun va vi => ∃ (k acc : Nat), va = .int .i64 acc ∧ vi = .int .i64 k ∧ k ≤ t.size ∧ Hid (acc < 10 ^ k ∧ valD 0 L = valD acc (L.drop k))) (fun _ vi => t.size - (RowKit.intOf vi).toNat)
            case atStart => exact ⟨0, 0, rfl, rfl, by omega, by simp, by simp⟩
            case round =>
              obtain ⟨k, acc, rfl, rfl, hk, hh⟩ := hrel
              obtain ⟨hacc, hdec⟩ := hh.out
              clear hh
              by_cases hkn : k < t.size
              · have hX := HIX.out k hkn
                have hkl : k < L.length := by have := HLEN.out; omega
                have hdrop : L.drop k = L[k] :: L.drop (k + 1) := List.drop_eq_getElem_cons hkl
                have hget : L.getD k 0 = L[k] := by simp [List.getD, List.getElem?_eq_getElem hkl]
                rw [hdrop] at hdec
                rw [hget] at hX
                generalize L[k] = c at hX hdec
                have hc256 : c.toNat < 256 := c.toNat_lt
                have hacc8 : acc < 1000000000 := by
                  have := Nat.pow_le_pow_right (show 0 < 10 by omega) (show k ≤ 9 by omega)
                  omega
                have i1 : (k : Int) < t.size := by omega
                by_cases hd : 48 ≤ c.toNat ∧ c.toNat ≤ 57
                · have HN2 : Hid (acc * 10 + (c.toNat - 48) < 10 ^ (k + 1) ∧ valD 0 L = valD (acc * 10 + (c.toNat - 48)) (L.drop (k + 1))) := Lib.hid ⟨by rw [Nat.pow_succ]; omega, by
                    rw [hdec]
                    exact if_pos hd⟩
                  obtain ⟨d0, d1⟩ := hd
                  clear hacc hdec hdrop hget
                  go_wp2
                  go_round
                  case rel => exact ⟨k + 1, acc * 10 + (c.toNat - 48), by congr 1; omega, by first | rfl | go_num, by omega, HN2⟩
                  case measure => simp [RowKit.intOf]; omega
                · have HR : Hid (numOf L = none) := Lib.hid (by
                    rw [HN.out, hdec]
                    exact if_neg hd)
                  by_cases hd0 : 48 ≤ c.toNat
                  · have hd1 : (57 : Int) < c.toNat := by omega
                    clear hacc hdec hdrop hget hd
                    go_wp2
                    go_ret2
                    exact ⟨by rw [HR.out]; rfl, rfl⟩
                  · have hd1 : (c.toNat : Int) < 48 := by omega
                    clear hacc hdec hdrop hget hd
                    go_wp2
                    go_ret2
                    exact ⟨by rw [HR.out]; rfl, rfl⟩
              · obtain rfl : k = t.size := by omega
                rw [List.drop_eq_nil_of_le (by have := HLEN.out; omega)] at hdec
                have HR : Hid (numOf L = some acc) := Lib.hid (by rw [HN.out, hdec]; rfl)
                clear hacc hdec
                go_wp2
                go_ret2
                exact ⟨by rw [HR.out]; rfl, rfl⟩
end Go.Proofs.YtckcngmbbnilnaaDoor
