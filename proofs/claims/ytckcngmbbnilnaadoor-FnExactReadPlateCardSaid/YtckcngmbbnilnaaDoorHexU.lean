/- internal/strconv.ParseUint(s, 16, 32), over any program that lays it. -/
import Derived.Test.YtckcngmbbnilnaaDoorHexP
import Derived.Shelf.LaysM
import Derived.Shelf.Strconv.Lower
import Derived.Shelf.Strconv.ParseUintEmpty
import Derived.Lib.Strings
import Derived.Lib.Walk
import Derived.Lib.ConvBytes
import Derived.Lib.ParseIntBMem
import Derived.Lib.Hide
import Derived.Laws.Strings3
import Derived.Laws.Closers25
import Derived.Laws.Closers25b
import Derived.WalkKit
import Derived.BigCall
import Derived.BigGuard
set_option linter.unusedVariables false
set_option linter.unusedSimpArgs false
namespace Go.Proofs.YtckcngmbbnilnaaDoor
open Go.Shelf Go.RowKit
variable {P : Program} {ρ : Ren}

/-- The digit of a byte, capitals too. -/
def digU (c : Nat) : Option Nat := if 48 ≤ c ∧ c ≤ 57 then some (c - 48) else if 97 ≤ c ∧ c ≤ 102 then some (c - 87) else if 65 ≤ c ∧ c ≤ 70 then some (c - 55) else none
/-- The value of digits, of 32 bits at most. -/
def hexU : Nat → List UInt8 → Option Nat
  | a, [] => some a
  | a, c :: l => match digU c.toNat with
    | some d => if a * 16 + d ≤ 4294967295 then hexU (a * 16 + d) l else none
    | none => none
theorem low_same : ∀ c : Nat, c < 256 → 97 ≤ c → c ≤ 122 → bits .or .u8 (c : Int) 32 = (c : Int) := by decide +kernel
theorem low_cap : ∀ c : Nat, c < 256 → 65 ≤ c → c ≤ 90 → bits .or .u8 (c : Int) 32 = (c : Int) + 32 := by decide +kernel
theorem low_no : ∀ c : Nat, c < 256 → ¬ (97 ≤ c ∧ c ≤ 122) → ¬ (65 ≤ c ∧ c ≤ 90) → ¬ (97 ≤ bits .or .u8 (c : Int) 32 ∧ bits .or .u8 (c : Int) 32 ≤ 122) := by decide +kernel

/-- What the outcome is: the number, or some error. -/
def uintEnd (T : TypeId) (o : Option Nat) (v : Value) : Prop :=
  match o with
  | some n => v = .tuple #[.int .u64 n, .nilIface]
  | none => ∃ (M e : Int), (e = 1 ∨ e = 2) ∧ v = .tuple #[.int .u64 M, .iface T (.int .i64 e)]

set_option maxHeartbeats 32000000 in
set_option maxRecDepth 100000 in
theorem parseUint16 (L : Lays.n287 P ρ) (t : ByteArray) (hne : t.size ≠ 0) (hmax : t.size ≤ 9223372036854775806) (w : World) :
    Calls P (ρ.f 287) #[.string t, .int .i64 16, .int .i64 32] w fun e w' => (∃ v, e = .returned v ∧ uintEnd (ρ.t 167) (hexU 0 t.data.toList) v) ∧ w' = Lib.bytesWorld w (ρ.t 5) t := by
  have mixed := L.mixed
  have t9 := L.t9; have a9 := L.a9; have z9 := L.z9; have v9 := L.v9
  have t3 := L.t3; have a3 := L.a3; have z3 := L.z3; have v3 := L.v3
  have t53 := L.t53; have a53 := L.a53; have z53 := L.z53; have v53 := L.v53
  have t75 := L.t75; have a75 := L.a75; have z75 := L.z75; have v75 := L.v75
  have t4 := L.t4; have a4 := L.a4; have z4 := L.z4; have v4 := L.v4
  have t167 := L.t167; have a167 := L.a167; have z167 := L.z167; have v167 := L.v167
  have t5 := L.t5; have a5 := L.a5; have z5 := L.z5; have v5 := L.v5
  have t46 := L.t46; have a46 := L.a46; have z46 := L.z46; have v46 := L.v46
  have t37 := L.t37; have a37 := L.a37; have z37 := L.z37; have v37 := L.v37
  have t0 := L.t0; have a0 := L.a0; have z0 := L.z0; have v0 := L.v0
  have e321 : ∀ args w, (callFunc (ρ.f 321) args).run P w = .ok (.enter (ρ.f 321) args) w := enters_of L.f321 (by kernel_rfl) rfl
  have hemp : t.toList.isEmpty = false := by
    rw [← decide_eq_emptyBytes]
    exact decide_eq_false (fun h => hne (by rw [h]; rfl))
  have hcv := Lib.run_convert_string_bytes (P := P) w (ρ.t 9) (ρ.t 37) (ρ.t 5) t (u := .string) L.t9 L.t37 L.t5
  have hB : ∀ j, j < t.size → (Lib.bytesWorld w (ρ.t 5) t).cell? ⟨w.heap.size, j, none⟩ = some (.int .u8 (t.data.toList.getD j 0).toNat) := fun j hj => Lib.bytesWorld_cell w (ρ.t 5) t j hj
  obtain ⟨W1, hW1⟩ : ∃ W1, W1 = Lib.bytesWorld w (ρ.t 5) t := ⟨_, rfl⟩
  rw [← hW1] at hcv hB ⊢
  clear hW1
  obtain ⟨bs, hL⟩ : ∃ bs, bs = t.data.toList := ⟨_, rfl⟩
  have hLn : bs.length = t.size := by rw [hL, Lib.size_eq]
  rw [← hL] at hB ⊢
  clear hL
  have hmv : IntKind.u64.wrap (IntKind.u64.wrap 4294967296 - 1) = 4294967295 := by
    rw [IntKind.wrap_u64, IntKind.wrap_u64]
    decide
  go_enter L.f287, Body.n287_ntmps ρ
  go_wp2
  go_loop [12, 13, 101] (fun vu vn vi => ∃ (k acc : Nat) (a : Int), vu = .bool false ∧ vn = .int .u64 a ∧ vi = .int .i64 k ∧ k ≤ t.size ∧ Hid (a = (acc : Int) ∧ acc ≤ 4294967295 ∧ hexU 0 bs = hexU acc (bs.drop k)))
    (fun _ _ vi => t.size - (intOf vi).toNat)
  case atStart => exact ⟨0, 0, 0, rfl, rfl, rfl, by omega, rfl, by omega, rfl⟩
  case round =>
    obtain ⟨k, acc, a, rfl, rfl, rfl, hk, hh⟩ := hrel
    obtain ⟨ha, hacc, hdec⟩ := hh.out
    clear hh
    have a0 : 0 ≤ a := by omega
    have a1 : a ≤ 4294967295 := by omega
    by_cases hkn : k < t.size
    · have hc := hB k hkn
      have hdrop : bs.drop k = bs[k]'(by omega) :: bs.drop (k + 1) := List.drop_eq_getElem_cons (by omega)
      have hget : bs.getD k 0 = bs[k]'(by omega) := by simp [List.getD, List.getElem?_eq_getElem (show k < bs.length by omega)]
      rw [hdrop] at hdec
      rw [hget] at hc
      generalize bs[k]'(by omega) = c at hc hdec
      have hc256 : c.toNat < 256 := c.toNat_lt
      clear hB hdrop hget
      cases hd : digU c.toNat with
      | some d =>
        by_cases hov : acc * 16 + d ≤ 4294967295
        · have hF : hexU acc (c :: bs.drop (k + 1)) = hexU (acc * 16 + d) (bs.drop (k + 1)) := by simp [hexU, hd, hov]
          have HN : Hid (a * 16 + (d : Int) = ((acc * 16 + d : Nat) : Int) ∧ acc * 16 + d ≤ 4294967295 ∧ hexU 0 bs = hexU (acc * 16 + d) (bs.drop (k + 1))) := Lib.hid ⟨by omega, by omega, hdec.trans hF⟩
          have iov : a * 16 + (d : Int) ≤ 4294967295 := by omega
          by_cases h1 : 48 ≤ c.toNat ∧ c.toNat ≤ 57
          · have hdv : d = c.toNat - 48 := by rw [digU, if_pos h1] at hd; injection hd with hd; exact hd.symm
            obtain ⟨h1a, h1b⟩ := h1
            obtain rfl := hdv
            clear hacc hF hov hdec ha hd
            go_wp2
            refine ⟨⟨k + 1, _, _, rfl, ?_, ?_, by omega, HN⟩, by simp [intOf]; omega⟩
            · congr 1; omega
            · first | rfl | (congr 1; omega)
          · by_cases h2 : 97 ≤ c.toNat ∧ c.toNat ≤ 102
            · have hdv : d = c.toNat - 87 := by rw [digU, if_neg h1, if_pos h2] at hd; injection hd with hd; exact hd.symm
              have hlow := low_same c.toNat hc256 (by omega) (by omega)
              obtain ⟨h2a, h2b⟩ := h2
              clear h1
              obtain rfl := hdv
              clear hacc hF hov hdec ha hd
              go_wp2_with (go_at_fn (ρ.f 321); refine (Any.internal_strconv_lower { L with } _ _).mono ?_; rintro e w' ⟨rfl, rfl⟩; rw [hlow])
              refine ⟨⟨k + 1, _, _, rfl, ?_, ?_, by omega, HN⟩, by simp [intOf]; omega⟩
              · congr 1; omega
              · first | rfl | (congr 1; omega)
            · have h3 : 65 ≤ c.toNat ∧ c.toNat ≤ 70 := by
                unfold digU at hd
                rw [if_neg h1, if_neg h2] at hd
                exact Classical.byContradiction fun h => by rw [if_neg h] at hd; exact absurd hd (by simp)
              have hdv : d = c.toNat - 55 := by rw [digU, if_neg h1, if_neg h2, if_pos h3] at hd; injection hd with hd; exact hd.symm
              have hlow := low_cap c.toNat hc256 (by omega) (by omega)
              obtain ⟨h3a, h3b⟩ := h3
              clear h1 h2
              obtain rfl := hdv
              clear hacc hF hov hdec ha hd
              go_wp2_with (go_at_fn (ρ.f 321); refine (Any.internal_strconv_lower { L with } _ _).mono ?_; rintro e w' ⟨rfl, rfl⟩; rw [hlow])
              refine ⟨⟨k + 1, _, _, rfl, ?_, ?_, by omega, HN⟩, by simp [intOf]; omega⟩
              · congr 1; omega
              · first | rfl | (congr 1; omega)
        · -- OVER THE SIZE
          have hF : hexU acc (c :: bs.drop (k + 1)) = none := by simp [hexU, hd, hov]
          rw [hF] at hdec
          have HD := Lib.hid hdec
          have iov : 4294967295 < a * 16 + (d : Int) := by omega
          by_cases h1 : 48 ≤ c.toNat ∧ c.toNat ≤ 57
          · have hdv : d = c.toNat - 48 := by rw [digU, if_pos h1] at hd; injection hd with hd; exact hd.symm
            obtain ⟨h1a, h1b⟩ := h1
            obtain rfl := hdv
            clear hacc hF hov hdec ha hd
            go_wp2
            go_ret2
            exact ⟨⟨_, rfl, by rw [HD.out]; exact ⟨_, 1, Or.inl rfl, rfl⟩⟩, rfl⟩
          · by_cases h2 : 97 ≤ c.toNat ∧ c.toNat ≤ 102
            · have hdv : d = c.toNat - 87 := by rw [digU, if_neg h1, if_pos h2] at hd; injection hd with hd; exact hd.symm
              have hlow := low_same c.toNat hc256 (by omega) (by omega)
              obtain ⟨h2a, h2b⟩ := h2
              clear h1
              obtain rfl := hdv
              clear hacc hF hov hdec ha hd
              go_wp2_with (go_at_fn (ρ.f 321); refine (Any.internal_strconv_lower { L with } _ _).mono ?_; rintro e w' ⟨rfl, rfl⟩; rw [hlow])
              go_ret2
              exact ⟨⟨_, rfl, by rw [HD.out]; exact ⟨_, 1, Or.inl rfl, rfl⟩⟩, rfl⟩
            · have h3 : 65 ≤ c.toNat ∧ c.toNat ≤ 70 := by
                unfold digU at hd
                rw [if_neg h1, if_neg h2] at hd
                exact Classical.byContradiction fun h => by rw [if_neg h] at hd; exact absurd hd (by simp)
              have hdv : d = c.toNat - 55 := by rw [digU, if_neg h1, if_neg h2, if_pos h3] at hd; injection hd with hd; exact hd.symm
              have hlow := low_cap c.toNat hc256 (by omega) (by omega)
              obtain ⟨h3a, h3b⟩ := h3
              clear h1 h2
              obtain rfl := hdv
              clear hacc hF hov hdec ha hd
              go_wp2_with (go_at_fn (ρ.f 321); refine (Any.internal_strconv_lower { L with } _ _).mono ?_; rintro e w' ⟨rfl, rfl⟩; rw [hlow])
              go_ret2
              exact ⟨⟨_, rfl, by rw [HD.out]; exact ⟨_, 1, Or.inl rfl, rfl⟩⟩, rfl⟩
      | none =>
        -- NO DIGIT
        have hF : hexU acc (c :: bs.drop (k + 1)) = none := by simp [hexU, hd]
        rw [hF] at hdec
        have HD := Lib.hid hdec
        have n1 : ¬ (48 ≤ c.toNat ∧ c.toNat ≤ 57) := fun h => by simp [digU, h] at hd
        have n2 : ¬ (97 ≤ c.toNat ∧ c.toNat ≤ 102) := fun h => by simp [digU, n1, h] at hd
        have n3 : ¬ (65 ≤ c.toNat ∧ c.toNat ≤ 70) := fun h => by simp [digU, n1, n2, h] at hd
        clear hacc hF ha hd hdec
        obtain ⟨m, hm⟩ : ∃ m, m = bits .or .u8 (c.toNat : Int) 32 := ⟨_, rfl⟩
        have m0 : 0 ≤ m := by rw [hm]; exact bits_lo_u8 .or (c.toNat : Int) 32
        have m1 : m ≤ 255 := by rw [hm]; exact bits_hi_u8 .or (c.toNat : Int) 32
        have h95 : bits .or .u8 95 32 = 127 := by decide +kernel
        have m2 : ¬ (97 ≤ m ∧ m ≤ 102) := by
          by_cases q1 : 97 ≤ c.toNat ∧ c.toNat ≤ 122
          · rw [hm, low_same c.toNat hc256 q1.1 q1.2]; omega
          · by_cases q2 : 65 ≤ c.toNat ∧ c.toNat ≤ 90
            · rw [hm, low_cap c.toNat hc256 q2.1 q2.2]; omega
            · have := low_no c.toNat hc256 q1 q2
              rw [← hm] at this
              omega
        by_cases q : 97 ≤ m ∧ m ≤ 122
        · obtain ⟨q0, q1⟩ := q
          have q2 : 103 ≤ m := by omega
          clear m2
          go_wp2_with (go_at_fn (ρ.f 321); refine (Any.internal_strconv_lower { L with } _ _).mono ?_; rintro e w' ⟨rfl, rfl⟩; first | rw [← hm] | rw [h95])
          all_goals go_ret2
          all_goals exact ⟨⟨_, rfl, by rw [HD.out]; exact ⟨_, 2, Or.inr rfl, rfl⟩⟩, rfl⟩
        · clear m2
          go_wp2_with (go_at_fn (ρ.f 321); refine (Any.internal_strconv_lower { L with } _ _).mono ?_; rintro e w' ⟨rfl, rfl⟩; first | rw [← hm] | rw [h95])
          all_goals go_ret2
          all_goals exact ⟨⟨_, rfl, by rw [HD.out]; exact ⟨_, 2, Or.inr rfl, rfl⟩⟩, rfl⟩
    · -- THE BYTES ARE AT AN END
      have hkk : k = t.size := by omega
      subst hkk
      have hF : hexU acc (bs.drop t.size) = some acc := by rw [List.drop_eq_nil_of_le (by omega)]; rfl
      rw [hF] at hdec
      have HD := Lib.hid hdec
      subst ha
      clear hacc hF a0 a1 hdec
      go_wp2
      go_ret2
      exact ⟨⟨_, rfl, by rw [HD.out]; rfl⟩, rfl⟩
end Go.Proofs.YtckcngmbbnilnaaDoor
