/- Parts of a proof, merged; each under its own premises. -/
import Derived.Test.YtihddajpkcjokaaDoorPD
import Derived.Shelf.LaysM
import Derived.Shelf.Strconv.Lower
import Derived.Shelf.Strconv.ParseUintEmpty
import Derived.Lib.Strings
import Derived.Lib.Walk
import Derived.Lib.ConvBytes
import Derived.Lib.ParseIntBMem
import Derived.Lib.Hide
import Derived.Laws.Strings3
import Derived.Laws.Closers25
import Derived.Laws.Closers25b
import Derived.WalkKit
import Derived.BigCall
import Derived.BigGuard
import Derived.Lib.ItoaWalk
import Derived.Lib.ItoaNum
import Derived.Laws.Bits64b
import Derived.Lib.LaidTab
import Derived.Laws.IdiomStrings
import Derived.Shelf.Strings.Builder1
import Derived.Shelf.Strings.Builder2
import Derived.Shelf.Strings.BuilderF
import Derived.Shelf.Strconv.Itoa0
import Derived.Shelf.Strconv.Itoa1
import Derived.Shelf.Strconv.Itoa2
import Derived.Shelf.Strconv.Itoa3
import Derived.Shelf.Strconv.Itoa4
import Derived.Shelf.Strconv.Clone
import Derived.Shelf.Strconv.RangeError
import Derived.Shelf.LaysC
import Derived.Shelf.Strconv.ToErrorRange
import Derived.Shelf.Strings.Search1
import Derived.Shelf.Strings.Search2
import Derived.Shelf.Strings.Search3
import Derived.Shelf.Strings.Cut
import Derived.Shelf.Strings.Count
import Derived.Shelf.Strings.Shaped
import Derived.Shelf.Strings.Prefix
import Derived.Shelf.Bits.Mul64
import Derived.Shelf.Strings.Repeat
import Derived.Shelf.Unicode.DecodeSlow
import Derived.Test.YtihddajpkcjokaaDoorProg
import Derived.Test.YtihddajpkcjokaaDoorPA
import Derived.ShutString
import Derived.Laws.MakeOwn
import Derived.Shelf.Strings.OnBuilder
import Derived.Shelf.Strconv.ParseIntEmpty
import Derived.Shelf.Strconv.SyntaxError
import Derived.Shelf.Strconv.ParseUint10
import Derived.Shelf.Strconv.ParseUint10Empty
import Derived.Shelf.Strconv.ParseUint10Any
import Derived.Shelf.Strconv.ParseInt10
import Derived.Shelf.Strconv.ParseUint10b64
import Derived.Shelf.Strconv.ParseUint10b32
import Derived.Shelf.Strconv.ParseUint10b16
import Derived.Shelf.Strconv.ParseUint10b8
import Derived.Shelf.Strconv.ParseUint10At
import Derived.Shelf.Strconv.ParseInt10At64
import Derived.Shelf.Strconv.ParseInt10At32
import Derived.Shelf.Strconv.ParseInt10At16
import Derived.Shelf.Strconv.ParseInt10At8
import Derived.Shelf.Strconv.ParseInt10All
import Derived.Shelf.Strconv.ParseIntPublic10
import Derived.Shelf.Strconv.ErrVarParseInt
import Derived.Shelf.Strings.Split
import Derived.Shelf.Strings.SplitShaped
import Derived.Test.YtihddajpkcjokaaDoorPC
import Derived.LaidMore
import Derived.LaidHandle
import Derived.OpenShut
import Derived.Stop.Joined
import Derived.Stop.LaidErr

/-! internal/strconv.ParseUint(s, 16, 32), over any program that lays it. -/
set_option linter.unusedVariables false
set_option linter.unusedSimpArgs false
namespace Go.Proofs.YtihddajpkcjokaaDoor
open Go.Shelf Go.RowKit
variable {P : Program} {ρ : Ren}

/-- The digit of a byte, capitals too. -/
def digU (c : Nat) : Option Nat := if 48 ≤ c ∧ c ≤ 57 then some (c - 48) else if 97 ≤ c ∧ c ≤ 102 then some (c - 87) else if 65 ≤ c ∧ c ≤ 70 then some (c - 55) else none
/-- The value of digits, of 32 bits at most. -/
def hexU : Nat → List UInt8 → Option Nat
  | a, [] => some a
  | a, c :: l => match digU c.toNat with
    | some d => if a * 16 + d ≤ 4294967295 then hexU (a * 16 + d) l else none
    | none => none
theorem low_same : ∀ c : Nat, c < 256 → 97 ≤ c → c ≤ 122 → bits .or .u8 (c : Int) 32 = (c : Int) := by decide +kernel
theorem low_cap : ∀ c : Nat, c < 256 → 65 ≤ c → c ≤ 90 → bits .or .u8 (c : Int) 32 = (c : Int) + 32 := by decide +kernel
theorem low_no : ∀ c : Nat, c < 256 → ¬ (97 ≤ c ∧ c ≤ 122) → ¬ (65 ≤ c ∧ c ≤ 90) → ¬ (97 ≤ bits .or .u8 (c : Int) 32 ∧ bits .or .u8 (c : Int) 32 ≤ 122) := by decide +kernel

/-- What the outcome is: the number, or some error. -/
def uintEnd (T : TypeId) (o : Option Nat) (v : Value) : Prop :=
  match o with
  | some n => v = .tuple #[.int .u64 n, .nilIface]
  | none => ∃ (M e : Int), (e = 1 ∨ e = 2) ∧ v = .tuple #[.int .u64 M, .iface T (.int .i64 e)]

set_option maxHeartbeats 32000000 in
set_option maxRecDepth 100000 in
theorem parseUint16 (L : Lays.n287 P ρ) (t : ByteArray) (hne : t.size ≠ 0) (hmax : t.size ≤ 9223372036854775806) (w : World) :
    Calls P (ρ.f 287) #[.string t, .int .i64 16, .int .i64 32] w fun e w' => (∃ v, e = .returned v ∧ uintEnd (ρ.t 167) (hexU 0 t.data.toList) v) ∧ w' = Lib.bytesWorld w (ρ.t 5) t := by
  have mixed := L.mixed
  have t9 := L.t9; have a9 := L.a9; have z9 := L.z9; have v9 := L.v9
  have t3 := L.t3; have a3 := L.a3; have z3 := L.z3; have v3 := L.v3
  have t53 := L.t53; have a53 := L.a53; have z53 := L.z53; have v53 := L.v53
  have t75 := L.t75; have a75 := L.a75; have z75 := L.z75; have v75 := L.v75
  have t4 := L.t4; have a4 := L.a4; have z4 := L.z4; have v4 := L.v4
  have t167 := L.t167; have a167 := L.a167; have z167 := L.z167; have v167 := L.v167
  have t5 := L.t5; have a5 := L.a5; have z5 := L.z5; have v5 := L.v5
  have t46 := L.t46; have a46 := L.a46; have z46 := L.z46; have v46 := L.v46
  have t37 := L.t37; have a37 := L.a37; have z37 := L.z37; have v37 := L.v37
  have t0 := L.t0; have a0 := L.a0; have z0 := L.z0; have v0 := L.v0
  have e321 : ∀ args w, (callFunc (ρ.f 321) args).run P w = .ok (.enter (ρ.f 321) args) w := enters_of L.f321 (by kernel_rfl) rfl
  have hemp : t.toList.isEmpty = false := by
    rw [← decide_eq_emptyBytes]
    exact decide_eq_false (fun h => hne (by rw [h]; rfl))
  have hcv := Lib.run_convert_string_bytes (P := P) w (ρ.t 9) (ρ.t 37) (ρ.t 5) t (u := .string) L.t9 L.t37 L.t5
  have hB : ∀ j, j < t.size → (Lib.bytesWorld w (ρ.t 5) t).cell? ⟨w.heap.size, j, none⟩ = some (.int .u8 (t.data.toList.getD j 0).toNat) := fun j hj => Lib.bytesWorld_cell w (ρ.t 5) t j hj
  obtain ⟨W1, hW1⟩ : ∃ W1, W1 = Lib.bytesWorld w (ρ.t 5) t := ⟨_, rfl⟩
  rw [← hW1] at hcv hB ⊢
  clear hW1
  obtain ⟨bs, hL⟩ : ∃ bs, bs = t.data.toList := ⟨_, rfl⟩
  have hLn : bs.length = t.size := by rw [hL, Lib.size_eq]
  rw [← hL] at hB ⊢
  clear hL
  have hmv : IntKind.u64.wrap (IntKind.u64.wrap 4294967296 - 1) = 4294967295 := by
    rw [IntKind.wrap_u64, IntKind.wrap_u64]
    decide
  go_enter L.f287, Body.n287_ntmps ρ
  go_wp2
  go_loop [12, 13, 101] (fun vu vn vi => ∃ (k acc : Nat) (a : Int), vu = .bool false ∧ vn = .int .u64 a ∧ vi = .int .i64 k ∧ k ≤ t.size ∧ Hid (a = (acc : Int) ∧ acc ≤ 4294967295 ∧ hexU 0 bs = hexU acc (bs.drop k)))
    (fun _ _ vi => t.size - (intOf vi).toNat)
  case atStart => exact ⟨0, 0, 0, rfl, rfl, rfl, by omega, rfl, by omega, rfl⟩
  case round =>
    obtain ⟨k, acc, a, rfl, rfl, rfl, hk, hh⟩ := hrel
    obtain ⟨ha, hacc, hdec⟩ := hh.out
    clear hh
    have a0 : 0 ≤ a := by omega
    have a1 : a ≤ 4294967295 := by omega
    by_cases hkn : k < t.size
    · have hc := hB k hkn
      have hdrop : bs.drop k = bs[k]'(by omega) :: bs.drop (k + 1) := List.drop_eq_getElem_cons (by omega)
      have hget : bs.getD k 0 = bs[k]'(by omega) := by simp [List.getD, List.getElem?_eq_getElem (show k < bs.length by omega)]
      rw [hdrop] at hdec
      rw [hget] at hc
      generalize bs[k]'(by omega) = c at hc hdec
      have hc256 : c.toNat < 256 := c.toNat_lt
      clear hB hdrop hget
      cases hd : digU c.toNat with
      | some d =>
        by_cases hov : acc * 16 + d ≤ 4294967295
        · have hF : hexU acc (c :: bs.drop (k + 1)) = hexU (acc * 16 + d) (bs.drop (k + 1)) := by simp [hexU, hd, hov]
          have HN : Hid (a * 16 + (d : Int) = ((acc * 16 + d : Nat) : Int) ∧ acc * 16 + d ≤ 4294967295 ∧ hexU 0 bs = hexU (acc * 16 + d) (bs.drop (k + 1))) := Lib.hid ⟨by omega, by omega, hdec.trans hF⟩
          have iov : a * 16 + (d : Int) ≤ 4294967295 := by omega
          by_cases h1 : 48 ≤ c.toNat ∧ c.toNat ≤ 57
          · have hdv : d = c.toNat - 48 := by rw [digU, if_pos h1] at hd; injection hd with hd; exact hd.symm
            obtain ⟨h1a, h1b⟩ := h1
            obtain rfl := hdv
            clear hacc hF hov hdec ha hd
            go_wp2
            refine ⟨⟨k + 1, _, _, rfl, ?_, ?_, by omega, HN⟩, by simp [intOf]; omega⟩
            · congr 1; omega
            · first | rfl | (congr 1; omega)
          · by_cases h2 : 97 ≤ c.toNat ∧ c.toNat ≤ 102
            · have hdv : d = c.toNat - 87 := by rw [digU, if_neg h1, if_pos h2] at hd; injection hd with hd; exact hd.symm
              have hlow := low_same c.toNat hc256 (by omega) (by omega)
              obtain ⟨h2a, h2b⟩ := h2
              clear h1
              obtain rfl := hdv
              clear hacc hF hov hdec ha hd
              go_wp2_with (go_at_fn (ρ.f 321); refine (Any.internal_strconv_lower { L with } _ _).mono ?_; rintro e w' ⟨rfl, rfl⟩; rw [hlow])
              refine ⟨⟨k + 1, _, _, rfl, ?_, ?_, by omega, HN⟩, by simp [intOf]; omega⟩
              · congr 1; omega
              · first | rfl | (congr 1; omega)
            · have h3 : 65 ≤ c.toNat ∧ c.toNat ≤ 70 := by
                unfold digU at hd
                rw [if_neg h1, if_neg h2] at hd
                exact Classical.byContradiction fun h => by rw [if_neg h] at hd; exact absurd hd (by simp)
              have hdv : d = c.toNat - 55 := by rw [digU, if_neg h1, if_neg h2, if_pos h3] at hd; injection hd with hd; exact hd.symm
              have hlow := low_cap c.toNat hc256 (by omega) (by omega)
              obtain ⟨h3a, h3b⟩ := h3
              clear h1 h2
              obtain rfl := hdv
              clear hacc hF hov hdec ha hd
              go_wp2_with (go_at_fn (ρ.f 321); refine (Any.internal_strconv_lower { L with } _ _).mono ?_; rintro e w' ⟨rfl, rfl⟩; rw [hlow])
              refine ⟨⟨k + 1, _, _, rfl, ?_, ?_, by omega, HN⟩, by simp [intOf]; omega⟩
              · congr 1; omega
              · first | rfl | (congr 1; omega)
        · -- OVER THE SIZE
          have hF : hexU acc (c :: bs.drop (k + 1)) = none := by simp [hexU, hd, hov]
          rw [hF] at hdec
          have HD := Lib.hid hdec
          have iov : 4294967295 < a * 16 + (d : Int) := by omega
          by_cases h1 : 48 ≤ c.toNat ∧ c.toNat ≤ 57
          · have hdv : d = c.toNat - 48 := by rw [digU, if_pos h1] at hd; injection hd with hd; exact hd.symm
            obtain ⟨h1a, h1b⟩ := h1
            obtain rfl := hdv
            clear hacc hF hov hdec ha hd
            go_wp2
            go_ret2
            exact ⟨⟨_, rfl, by rw [HD.out]; exact ⟨_, 1, Or.inl rfl, rfl⟩⟩, rfl⟩
          · by_cases h2 : 97 ≤ c.toNat ∧ c.toNat ≤ 102
            · have hdv : d = c.toNat - 87 := by rw [digU, if_neg h1, if_pos h2] at hd; injection hd with hd; exact hd.symm
              have hlow := low_same c.toNat hc256 (by omega) (by omega)
              obtain ⟨h2a, h2b⟩ := h2
              clear h1
              obtain rfl := hdv
              clear hacc hF hov hdec ha hd
              go_wp2_with (go_at_fn (ρ.f 321); refine (Any.internal_strconv_lower { L with } _ _).mono ?_; rintro e w' ⟨rfl, rfl⟩; rw [hlow])
              go_ret2
              exact ⟨⟨_, rfl, by rw [HD.out]; exact ⟨_, 1, Or.inl rfl, rfl⟩⟩, rfl⟩
            · have h3 : 65 ≤ c.toNat ∧ c.toNat ≤ 70 := by
                unfold digU at hd
                rw [if_neg h1, if_neg h2] at hd
                exact Classical.byContradiction fun h => by rw [if_neg h] at hd; exact absurd hd (by simp)
              have hdv : d = c.toNat - 55 := by rw [digU, if_neg h1, if_neg h2, if_pos h3] at hd; injection hd with hd; exact hd.symm
              have hlow := low_cap c.toNat hc256 (by omega) (by omega)
              obtain ⟨h3a, h3b⟩ := h3
              clear h1 h2
              obtain rfl := hdv
              clear hacc hF hov hdec ha hd
              go_wp2_with (go_at_fn (ρ.f 321); refine (Any.internal_strconv_lower { L with } _ _).mono ?_; rintro e w' ⟨rfl, rfl⟩; rw [hlow])
              go_ret2
              exact ⟨⟨_, rfl, by rw [HD.out]; exact ⟨_, 1, Or.inl rfl, rfl⟩⟩, rfl⟩
      | none =>
        -- NO DIGIT
        have hF : hexU acc (c :: bs.drop (k + 1)) = none := by simp [hexU, hd]
        rw [hF] at hdec
        have HD := Lib.hid hdec
        have n1 : ¬ (48 ≤ c.toNat ∧ c.toNat ≤ 57) := fun h => by simp [digU, h] at hd
        have n2 : ¬ (97 ≤ c.toNat ∧ c.toNat ≤ 102) := fun h => by simp [digU, n1, h] at hd
        have n3 : ¬ (65 ≤ c.toNat ∧ c.toNat ≤ 70) := fun h => by simp [digU, n1, n2, h] at hd
        clear hacc hF ha hd hdec
        obtain ⟨m, hm⟩ : ∃ m, m = bits .or .u8 (c.toNat : Int) 32 := ⟨_, rfl⟩
        have m0 : 0 ≤ m := by rw [hm]; exact bits_lo_u8 .or (c.toNat : Int) 32
        have m1 : m ≤ 255 := by rw [hm]; exact bits_hi_u8 .or (c.toNat : Int) 32
        have h95 : bits .or .u8 95 32 = 127 := by decide +kernel
        have m2 : ¬ (97 ≤ m ∧ m ≤ 102) := by
          by_cases q1 : 97 ≤ c.toNat ∧ c.toNat ≤ 122
          · rw [hm, low_same c.toNat hc256 q1.1 q1.2]; omega
          · by_cases q2 : 65 ≤ c.toNat ∧ c.toNat ≤ 90
            · rw [hm, low_cap c.toNat hc256 q2.1 q2.2]; omega
            · have := low_no c.toNat hc256 q1 q2
              rw [← hm] at this
              omega
        by_cases q : 97 ≤ m ∧ m ≤ 122
        · obtain ⟨q0, q1⟩ := q
          have q2 : 103 ≤ m := by omega
          clear m2
          go_wp2_with (go_at_fn (ρ.f 321); refine (Any.internal_strconv_lower { L with } _ _).mono ?_; rintro e w' ⟨rfl, rfl⟩; first | rw [← hm] | rw [h95])
          all_goals go_ret2
          all_goals exact ⟨⟨_, rfl, by rw [HD.out]; exact ⟨_, 2, Or.inr rfl, rfl⟩⟩, rfl⟩
        · clear m2
          go_wp2_with (go_at_fn (ρ.f 321); refine (Any.internal_strconv_lower { L with } _ _).mono ?_; rintro e w' ⟨rfl, rfl⟩; first | rw [← hm] | rw [h95])
          all_goals go_ret2
          all_goals exact ⟨⟨_, rfl, by rw [HD.out]; exact ⟨_, 2, Or.inr rfl, rfl⟩⟩, rfl⟩
    · -- THE BYTES ARE AT AN END
      have hkk : k = t.size := by omega
      subst hkk
      have hF : hexU acc (bs.drop t.size) = some acc := by rw [List.drop_eq_nil_of_le (by omega)]; rfl
      rw [hF] at hdec
      have HD := Lib.hid hdec
      subst ha
      clear hacc hF a0 a1 hdec
      go_wp2
      go_ret2
      exact ⟨⟨_, rfl, by rw [HD.out]; rfl⟩, rfl⟩
end Go.Proofs.YtihddajpkcjokaaDoor

/-! internal/strconv.formatBits at base 16, for numbers of 32 bits. -/
set_option linter.unusedVariables false
set_option linter.unusedSimpArgs false
namespace Go.Proofs.YtihddajpkcjokaaDoor
open Go.RowKit Go.Lib

def deBruijn64 : List Int := [0, 1, 56, 2, 57, 49, 28, 3, 61, 58, 42, 50, 38, 29, 17, 4, 62, 47, 59, 36, 45, 43, 51, 22, 53, 39, 33, 30, 24, 18, 12, 5, 63, 55, 48, 27, 60, 41, 37, 16, 46, 35, 44, 21, 52, 32, 23, 11, 54, 26, 40, 15, 34, 20, 31, 10, 25, 14, 19, 9, 13, 8, 7, 6]

theorem digits36_at : ∀ i, i < 16 → digits36.data.toList.getD i 0 = hexDig i := by decide +kernel
theorem idx_digits {P : Program} (t : TypeId) (ht : P.underlying t = some .string) (k : IntKind) (z : Int) (i : Nat) (hz : z = (i : Int)) (hi : i < 16) (w : World) :
    (Instr.index t (.string digits36) (.int k z)).run P w = .ok (.int .u8 ((hexDig i).toNat : Int)) w := by
  subst hz
  rw [run_index_string w t digits36 k _ ht, dif_pos ⟨by omega, by rw [digits36_size]; omega⟩]
  have e : ((i : Int)).toNat = i := by omega
  simp only [e]
  rw [Lib.getD_at digits36 i (by rw [digits36_size]; omega), digits36_at i hi]
theorem and15 (v : Nat) (hv : v < 18446744073709551616) : bits .and .u64 (v : Int) 15 = ((v % 16 : Nat) : Int) := by
  have h := bits_and_u64_nat v 15 hv (by omega)
  rw [Nat.and_two_pow_sub_one_eq_mod v 4] at h
  exact h
set_option maxHeartbeats 4000000 in
set_option maxRecDepth 100000 in
theorem isPow16 (w : World) : Calls Tryd.prog 87 #[.int .i64 16] w fun e w' => e = .returned (.bool true) ∧ w = w' := by
  have h1 : bits .and .i64 16 15 = 0 := by decide
  go_enter Tryd.func87, Tryd.ntmps87
  go_wp2
  go_ret
  exact ⟨rfl, rfl⟩

set_option maxHeartbeats 4000000 in
set_option maxRecDepth 100000 in
theorem tz16 (w : World) (hc : w.cell? ⟨6, 15, none⟩ = some (.int .u8 4)) : Calls Tryd.prog 88 #[.int .u64 16] w fun e w' => e = .returned (.int .i64 4) ∧ w = w' := by
  have h1 : bits .and .u64 16 (IntKind.u64.wrap (-16)) = 16 := by decide
  have h2 : IntKind.u64.wrap (16 * 285870213051353865) / 288230376151711744 = 15 := by decide
  go_enter Tryd.func88, Tryd.ntmps88
  go_wp2
  go_ret
  exact ⟨rfl, rfl⟩

/-- What the row of bytes behind the walk's own world says. -/
structure RowB (n : Nat) (w wr : World) (B : Nat) (i : Nat) (D : List UInt8) : Prop where
  cells : ∃ G : Nat → Int, (∀ t, t < n → wr.cell? ⟨B, t, none⟩ = some (.int .u8 (G t))) ∧ ∀ j (h : j < D.length), G (i + j) = ((D[j]).toNat : Int)
  free : ∀ t, t < n → wr.frozen? ⟨B, t, none⟩ = false
  below : Below w.heap.size w wr

theorem RowB.step {n : Nat} {w wr : World} {B i : Nat} {D : List UInt8} (h : RowB n w wr B (i + 1) D) (hB : w.heap.size ≤ B) (hi : i < n) (x : UInt8) : RowB n w (wr.setCell ⟨B, i, none⟩ (.int .u8 (x.toNat : Int))) B i (x :: D) := by
  obtain ⟨⟨G, h1, h2⟩, h3, h4⟩ := h
  refine ⟨⟨fun t => if t = i then (x.toNat : Int) else G t, fun t ht => ?_, fun j hj => ?_⟩, fun t ht => ?_, h4.setCell hB _⟩
  · by_cases e : t = i
    · subst e
      rw [World.cell?_setCell_same _ _ _ (h1 t ht)]
      simp
    · rw [World.cell?_setCell_other _ _ _ _ (by simp [e]), h1 t ht]
      simp [e]
  · cases j with
    | zero => simp
    | succ j =>
      have := h2 j (by simpa using hj)
      simp only [List.getElem_cons_succ]
      rw [← this]
      simp
      congr 1
      omega
  · rw [World.frozen?_setCell]
    exact h3 t ht

theorem zero65 : ∀ t, t < 65 → Tryd.zeroCells112[t]? = some (.int .u8 0) := by
  intro t ht
  have e : Tryd.zeroCells112 = Array.replicate 65 (Value.int .u8 0) := rfl
  rw [e]
  simp [ht]
theorem slice65 (B k : Nat) (hk : k < 65) (W : World) : (Instr.sliceAt 112 (.pointer (some ⟨B, 0, none⟩)) (some (.int .i64 (k : Int))) none none).run Tryd.prog W = .ok (.slice (some ⟨B, k, none⟩) (65 - k) (65 - k)) W := by
  have hal : Tryd.prog.arrayLen 112 = 65 := by kernel_rfl
  rw [run_sliceAt_array_l W 112 ⟨B, 0, none⟩ (by kernel_rfl) .i64 (k : Int) (by omega) (by rw [hal]; omega), hal]
  have h1 : (sizeOf (Tryd.prog.elem 112)).run Tryd.prog W = .ok 1 W := by kernel_rfl
  rw [h1]
  simp [slicedAt, Addr.add, Result.andThen]
  rw [if_neg (by omega)]
  split <;> simp_all
theorem wp_nm {P : Program} {c : Code} {fr : Act} {w : World} {Q : Exit → Act → World → Prop} {S : World → Prop} (h : S w) (k : ∀ W, S W → c.wp P Q fr W) : c.wp P Q fr w := k w h

set_option maxHeartbeats 8000000 in
set_option maxRecDepth 100000 in
theorem formatBits16 (u : Nat) (hu : u < 4294967296) (w : World) (hc : w.cell? ⟨6, 15, none⟩ = some (.int .u8 4)) :
    Calls Tryd.prog 75 #[.slice none 0 0, .int .u64 u, .int .i64 16, .bool false, .bool false] w fun e w' => e = .returned (.tuple #[.slice none 0 0, .string ⟨(hexS 8 u).toArray⟩]) ∧ Below w.heap.size w w' := by
  have hc1 : ∀ o, (w.alloc o).cell? ⟨6, 15, none⟩ = some (.int .u8 4) := fun o => by
    rw [World.cell?_alloc_old _ _ _ (Nat.ne_of_lt (World.block_lt_of_cell? _ _ hc))]
    exact hc
  have AHC := Lib.hid hc
  clear hc
  go_enter Tryd.func75, Tryd.ntmps75
  go_name_bytes PM hPM
  clear hPM
  go_name_bytes DG hDG
  have eDG : DG = Lib.digits36 := by rw [← hDG]; decide +kernel
  subst eDG
  clear hDG
  go_wp2_with (first
    | (go_at_call 87; refine (isPow16 _).mono ?_; rintro e w' ⟨rfl, rfl⟩)
    | (go_at_call 88; refine (tz16 _ (hc1 _)).mono ?_; rintro e w' ⟨rfl, rfl⟩))
  have hW0 : RowB 65 w (w.alloc (.cells Tryd.zeroCells112 112)) w.heap.size 65 [] :=
    ⟨⟨fun _ => 0, fun t ht => by rw [World.cell?_alloc_new]; exact zero65 t ht, fun j hj => absurd hj (by simp)⟩, fun t ht => World.frozen?_alloc_new _ _ _ _, Below.alloc (Below.refl _ w) (Nat.le_refl _) _⟩
  refine wp_nm (S := fun W => RowB 65 w W w.heap.size 65 []) hW0 ?_
  intro W HW
  have hSZ : w.heap.size ≤ W.heap.size := HW.below.size
  have hHW := Lib.hid HW
  clear HW hc1
  go_loopw [1, 13] (fun vu vi wr => ∃ (v i : Nat) (D : List UInt8), vu = .int .u64 v ∧ vi = .int .i64 i ∧ Hid (RowB 65 w wr w.heap.size i D ∧ i + D.length = 65 ∧ D.length < 8 ∧ v < 16 ^ (8 - D.length) ∧ hexS (8 - D.length) v ++ D = hexS 8 u)) (fun vu _ _ => (RowKit.intOf vu).toNat)
  case atStart => exact ⟨u, 65, [], rfl, rfl, hHW.out, by simp, by simp, by simpa using hu, by simp⟩
  case round =>
    obtain ⟨v, i, D, rfl, rfl, hh⟩ := hrel
    obtain ⟨hR, hiD, hD8, hv, hS⟩ := hh.out
    clear hh
    obtain ⟨G, hc, hg⟩ := hR.cells
    have hf := hR.free
    have HR := Lib.hid hR
    have hb1 : w.heap.size ≤ wr.heap.size := hR.below.size
    have HG := Lib.hid hg
    clear hR hg
    obtain ⟨k, rfl⟩ : ∃ k, i = k + 1 := ⟨i - 1, by omega⟩
    have hv64 : v < 18446744073709551616 := by
      have := Nat.pow_le_pow_right (show 0 < 16 by omega) (show 8 - D.length ≤ 8 by omega)
      omega
    by_cases h16 : 16 ≤ v
    · have hL : D.length ≤ 6 := by
        apply Classical.byContradiction
        intro hn
        have : D.length = 7 := by omega
        rw [this] at hv
        omega
      have hand : bits .and .u64 (v : Int) 15 = (v : Int) % 16 := by rw [and15 v hv64]; omega
      have hix : ∀ w, (Instr.index 9 (.string Lib.digits36) (.int .u64 ((v : Int) % 16))).run Tryd.prog w = .ok (.int .u8 ((hexDig (v % 16)).toNat : Int)) w := fun w => idx_digits 9 Tryd.underlying9 .u64 _ (v % 16) (by omega) (by omega) w
      have HN : Hid (k + (hexDig (v % 16) :: D).length = 65 ∧ (hexDig (v % 16) :: D).length < 8 ∧ v / 16 < 16 ^ (8 - (hexDig (v % 16) :: D).length) ∧ hexS (8 - (hexDig (v % 16) :: D).length) (v / 16) ++ (hexDig (v % 16) :: D) = hexS 8 u) := by
        refine Lib.hid ⟨by simp; omega, by simp; omega, ?_, ?_⟩
        · have e : 8 - D.length = (8 - (D.length + 1)) + 1 := by omega
          rw [e, Nat.pow_succ] at hv
          simp only [List.length_cons]
          omega
        · have e : 8 - D.length = (8 - (D.length + 1)) + 1 := by omega
          rw [e] at hS
          simp only [List.length_cons]
          rw [← hS, show hexS (8 - (D.length + 1) + 1) v = if v < 16 then [hexDig v] else hexS (8 - (D.length + 1)) (v / 16) ++ [hexDig (v % 16)] from rfl, if_neg (by omega), List.append_assoc]
          rfl
      have hk : k < 65 := by omega
      clear hv hS hD8 hL hiD
      go_wp2
      go_roundw
      case rel => exact ⟨v / 16, k, hexDig (v % 16) :: D, by first | rfl | go_num | (congr 1; omega), by first | rfl | go_num | (congr 1; omega), Lib.hid ⟨HR.out.step (Nat.le_refl _) hk _, HN.out⟩⟩
      case measure => simp [RowKit.intOf]; omega
    · have hix : ∀ w, (Instr.index 9 (.string Lib.digits36) (.int .u64 (v : Int))).run Tryd.prog w = .ok (.int .u8 ((hexDig v).toNat : Int)) w := fun w => idx_digits 9 Tryd.underlying9 .u64 _ v rfl (by omega) w
      have HS : Hid (hexDig v :: D = hexS 8 u) := by
        have e : 8 - D.length = (8 - (D.length + 1)) + 1 := by omega
        rw [e, show hexS (8 - (D.length + 1) + 1) v = if v < 16 then [hexDig v] else hexS (8 - (D.length + 1)) (v / 16) ++ [hexDig (v % 16)] from rfl, if_pos (by omega)] at hS
        exact Lib.hid hS
      have hk : k < 65 := by omega
      have HI := Lib.hid hiD
      clear hv hS hD8 hiD
      have hsl := fun W => slice65 w.heap.size k hk W
      have hR2 := HR.out.step (Nat.le_refl _) hk (hexDig v)
      have hcv : (convert 22 9 (.slice (some ⟨w.heap.size, k, none⟩) (65 - k) (65 - k))).run Tryd.prog (wr.setCell ⟨w.heap.size, k, none⟩ (.int .u8 ((hexDig v).toNat : Int))) = .ok (.string ⟨(hexS 8 u).toArray⟩) (wr.setCell ⟨w.heap.size, k, none⟩ (.int .u8 ((hexDig v).toNat : Int))) := by
        obtain ⟨G2, g1, g2⟩ := hR2.cells
        have hl : (hexDig v :: D).length = 65 - k := by have := HI.out; simp; omega
        have h := run_convert_bytes_back (P := Tryd.prog) (wr.setCell ⟨w.heap.size, k, none⟩ (.int .u8 ((hexDig v).toNat : Int))) 22 9 5 ⟨w.heap.size, k, none⟩ (65 - k) (hexDig v :: D) Tryd.underlying22 Tryd.underlying5 Tryd.underlying9 (fun j hj => by
          rw [← g2 j hj]
          have e : (⟨w.heap.size, k, none⟩ : Addr).add j = ⟨w.heap.size, k + j, none⟩ := by unfold Addr.add; split <;> simp_all
          rw [e]
          exact g1 (k + j) (by omega))
        rw [hl, HS.out] at h
        exact h
      have HR2 := Lib.hid hR2.below
      clear hR2
      go_wp2
      go_ret2
      exact ⟨rfl, HR2.out⟩
end Go.Proofs.YtihddajpkcjokaaDoor

/-! The shelf's contracts at this translation, in plain words: written by the kit's lay-plain. -/
namespace Go.Proofs
open Go.Shelf
def Tryd.lays321_ren : Go.Shelf.Ren := ⟨fun | 321 => 66 | n => n, fun | 5 => 5 | n => n, fun | n => n⟩
theorem Tryd.lays321 : Go.Proofs.Lays.n321 Tryd.prog Tryd.lays321_ren := {
  mixed := by kernel_rfl
  f321 := Tryd.func66.trans (congrArg some (by kernel_rfl))
  t5 := Tryd.underlying5
  a5 := Tryd.isAgg5
  z5 := Tryd.sizeOf5
  v5 := Tryd.zeroValue5 }
open Go.RowKit in
theorem Tryd.internal_strconv_lower (c : Int) (w : World) :
    Calls Tryd.prog 66 #[.int .u8 c] w fun e w' => e = .returned (.int .u8 (bits .or .u8 c 32)) ∧ w' = w := Any.internal_strconv_lower Tryd.lays321 c w
def Tryd.laysC245_ren : Go.Shelf.Ren := ⟨fun | 245 => 58 | 279 => 68 | 280 => 69 | 281 => 70 | 282 => 71 | 316 => 81 | 171 => 83 | 205 => 82 | 243 => 91 | 246 => 94 | 283 => 72 | 284 => 73 | 285 => 74 | 286 => 75 | 129 => 85 | 317 => 84 | 318 => 86 | 319 => 87 | 320 => 88 | 337 => 92 | 338 => 93 | n => n, fun | 9 => 9 | 3 => 3 | 75 => 60 | 167 => 88 | 4 => 4 | 168 => 91 | 210 => 107 | 37 => 22 | 0 => 0 | 127 => 104 | 145 => 120 | 143 => 118 | 2 => 2 | 171 => 95 | 53 => 58 | 5 => 5 | 173 => 98 | 212 => 111 | 51 => 64 | 20 => 20 | 213 => 112 | 46 => 76 | 232 => 123 | 233 => 124 | 80 => 87 | n => n, fun | 15 => 1 | 16 => 2 | 17 => 3 | 18 => 5 | 19 => 6 | n => n⟩
theorem Tryd.laysC245 : Go.Proofs.LaysC.n245 Tryd.prog Tryd.laysC245_ren := {
  mixed := by kernel_rfl
  f129 := Tryd.func85.trans (congrArg some (by kernel_rfl))
  f171 := Tryd.func83.trans (congrArg some (by kernel_rfl))
  f205 := Tryd.func82.trans (congrArg some (by kernel_rfl))
  f243 := Tryd.func91.trans (congrArg some (by kernel_rfl))
  f245 := Tryd.func58.trans (congrArg some (by kernel_rfl))
  f246 := Tryd.func94.trans (congrArg some (by kernel_rfl))
  f279 := Tryd.func68.trans (congrArg some (by kernel_rfl))
  f280 := Tryd.func69.trans (congrArg some (by kernel_rfl))
  f281 := Tryd.func70.trans (congrArg some (by kernel_rfl))
  f282 := Tryd.func71.trans (congrArg some (by kernel_rfl))
  f283 := Tryd.func72.trans (congrArg some (by kernel_rfl))
  f284 := Tryd.func73.trans (congrArg some (by kernel_rfl))
  f285 := Tryd.func74.trans (congrArg some (by kernel_rfl))
  f286 := Tryd.func75.trans (congrArg some (by kernel_rfl))
  f316 := Tryd.func81.trans (congrArg some (by kernel_rfl))
  f317 := Tryd.func84.trans (congrArg some (by kernel_rfl))
  f318 := Tryd.func86.trans (congrArg some (by kernel_rfl))
  f319 := Tryd.func87.trans (congrArg some (by kernel_rfl))
  f320 := Tryd.func88.trans (congrArg some (by kernel_rfl))
  f337 := Tryd.func92.trans (congrArg some (by kernel_rfl))
  f338 := Tryd.func93.trans (congrArg some (by kernel_rfl))
  t0 := Tryd.underlying0
  a0 := Tryd.isAgg0
  z0 := Tryd.sizeOf0
  v0 := Tryd.zeroValue0
  t2 := Tryd.underlying2
  a2 := Tryd.isAgg2
  z2 := Tryd.sizeOf2
  v2 := Tryd.zeroValue2
  t3 := Tryd.underlying3
  a3 := Tryd.isAgg3
  z3 := Tryd.sizeOf3
  v3 := Tryd.zeroValue3
  t4 := Tryd.underlying4
  a4 := Tryd.isAgg4
  z4 := Tryd.sizeOf4
  v4 := Tryd.zeroValue4
  t5 := Tryd.underlying5
  a5 := Tryd.isAgg5
  z5 := Tryd.sizeOf5
  v5 := Tryd.zeroValue5
  t9 := Tryd.underlying9
  a9 := Tryd.isAgg9
  z9 := Tryd.sizeOf9
  v9 := Tryd.zeroValue9
  t20 := Tryd.underlying20
  a20 := Tryd.isAgg20
  z20 := Tryd.sizeOf20
  v20 := Tryd.zeroValue20
  t37 := Tryd.underlying22
  a37 := Tryd.isAgg22
  z37 := Tryd.sizeOf22
  v37 := Tryd.zeroValue22
  t46 := Tryd.underlying76
  a46 := Tryd.isAgg76
  z46 := Tryd.sizeOf76
  v46 := Tryd.zeroValue76
  t51 := Tryd.underlying64
  a51 := Tryd.isAgg64
  z51 := Tryd.sizeOf64
  v51 := Tryd.zeroValue64
  t53 := Tryd.underlying58
  a53 := Tryd.isAgg58
  z53 := Tryd.sizeOf58
  v53 := Tryd.zeroValue58
  t75 := Tryd.underlying60
  a75 := Tryd.isAgg60
  z75 := Tryd.sizeOf60
  v75 := Tryd.zeroValue60
  t127 := Tryd.underlying104
  a127 := Tryd.isAgg104
  z127 := Tryd.sizeOf104
  v127 := Tryd.zeroValue104
  t143 := Tryd.underlying118
  a143 := Tryd.isAgg118
  z143 := Tryd.sizeOf118
  v143 := Tryd.zeroValue118
  t145 := Tryd.underlying120
  a145 := Tryd.isAgg120
  z145 := Tryd.sizeOf120
  v145 := Tryd.zeroValue120
  t167 := Tryd.underlying88
  a167 := Tryd.isAgg88
  z167 := Tryd.sizeOf88
  v167 := Tryd.zeroValue88
  t168 := Tryd.underlying91
  a168 := Tryd.isAgg91
  z168 := Tryd.sizeOf91
  v168 := Tryd.zeroValue91
  t171 := Tryd.underlying95
  a171 := Tryd.isAgg95
  z171 := Tryd.sizeOf95
  v171 := Tryd.zeroValue95
  t173 := Tryd.underlying98
  a173 := Tryd.isAgg98
  z173 := Tryd.sizeOf98
  v173 := Tryd.zeroValue98
  t210 := Tryd.underlying107
  a210 := Tryd.isAgg107
  z210 := Tryd.sizeOf107
  v210 := Tryd.zeroValue107
  t212 := Tryd.underlying111
  a212 := Tryd.isAgg111
  z212 := Tryd.sizeOf111
  v212 := Tryd.zeroValue111
  t213 := Tryd.underlying112
  a213 := Tryd.isAgg112
  z213 := Tryd.sizeOf112
  t232 := Tryd.underlying123
  a232 := Tryd.isAgg123
  z232 := Tryd.sizeOf123
  v232 := Tryd.zeroValue123
  t233 := Tryd.underlying124
  a233 := Tryd.isAgg124
  z233 := Tryd.sizeOf124
  v233 := Tryd.zeroValue124
  g15 := by kernel_rfl
  g16 := by kernel_rfl
  g17 := by kernel_rfl
  g18 := by kernel_rfl
  g19 := by kernel_rfl
  t80 := Tryd.underlying87
  a80 := Tryd.isAgg87
  z80 := Tryd.sizeOf87
  v80 := Tryd.zeroValue87
  i0 := by kernel_rfl
  i2 := by kernel_rfl
  i3 := by kernel_rfl
  i4 := by kernel_rfl
  i5 := by kernel_rfl
  i9 := by kernel_rfl
  i20 := by kernel_rfl
  i37 := by kernel_rfl
  i46 := by kernel_rfl
  i51 := by kernel_rfl
  i53 := by kernel_rfl
  i75 := by kernel_rfl
  i80 := by kernel_rfl
  i127 := by kernel_rfl
  i143 := by kernel_rfl
  i145 := by kernel_rfl
  i167 := by kernel_rfl
  i168 := by kernel_rfl
  i171 := by kernel_rfl
  i173 := by kernel_rfl
  i210 := by kernel_rfl
  i212 := by kernel_rfl
  i232 := by kernel_rfl
  i233 := by kernel_rfl
  m15 := by kernel_rfl
  m16 := by kernel_rfl
  m17 := by kernel_rfl
  m18 := by kernel_rfl
  m19 := by kernel_rfl
  c0 := by kernel_rfl
  c2 := by kernel_rfl
  c3 := by kernel_rfl
  c4 := by kernel_rfl
  c5 := by kernel_rfl
  c9 := by kernel_rfl
  c20 := by kernel_rfl
  c37 := by kernel_rfl
  c46 := by kernel_rfl
  c51 := by kernel_rfl
  c53 := by kernel_rfl
  c75 := by kernel_rfl
  c80 := by kernel_rfl
  c127 := by kernel_rfl
  c143 := by kernel_rfl
  c145 := by kernel_rfl
  c167 := by kernel_rfl
  c168 := by kernel_rfl
  c171 := by kernel_rfl
  c173 := by kernel_rfl
  c210 := by kernel_rfl
  c212 := by kernel_rfl
  c213 := by kernel_rfl
  c232 := by kernel_rfl
  c233 := by kernel_rfl }
open Go.RowKit in
theorem Tryd.strconv_toError_range (fn s : ByteArray) (base bits : Int) (ev : Value) (w : World) (hlim : s.size ≤ 281474976710656) (hv : w.cell? ⟨2, 0, none⟩ = some ev) (hev : ev = .nilIface ∨ ∃ te pe, ev = .iface te pe) :
    Calls Tryd.prog 58 #[.string fn, .string s, .int .i64 base, .int .i64 bits, .iface 88 (.int .i64 1)] w fun e w' => ∃ N, e = .returned (.iface 91 (.pointer (some ⟨N, 0, none⟩))) ∧ w.heap.size ≤ N ∧ w'.heap[N]? = some (.cells #[.string fn, .string s, ev] 107 (0, 0)) ∧ Below w.heap.size w w' := Any.strconv_toError_range Tryd.laysC245 fn s base bits ev w hlim hv hev
def Tryd.lays287_ren : Go.Shelf.Ren := ⟨fun | 287 => 57 | 321 => 66 | 322 => 67 | n => n, fun | 9 => 9 | 3 => 3 | 53 => 58 | 75 => 60 | 4 => 4 | 167 => 88 | 5 => 5 | 46 => 76 | 37 => 22 | 0 => 0 | 21 => 21 | 80 => 87 | n => n, fun | n => n⟩
theorem Tryd.lays287 : Go.Proofs.Lays.n287 Tryd.prog Tryd.lays287_ren := {
  mixed := by kernel_rfl
  f287 := Tryd.func57.trans (congrArg some (by kernel_rfl))
  f321 := Tryd.func66.trans (congrArg some (by kernel_rfl))
  f322 := Tryd.func67.trans (congrArg some (by kernel_rfl))
  t0 := Tryd.underlying0
  a0 := Tryd.isAgg0
  z0 := Tryd.sizeOf0
  v0 := Tryd.zeroValue0
  t3 := Tryd.underlying3
  a3 := Tryd.isAgg3
  z3 := Tryd.sizeOf3
  v3 := Tryd.zeroValue3
  t4 := Tryd.underlying4
  a4 := Tryd.isAgg4
  z4 := Tryd.sizeOf4
  v4 := Tryd.zeroValue4
  t5 := Tryd.underlying5
  a5 := Tryd.isAgg5
  z5 := Tryd.sizeOf5
  v5 := Tryd.zeroValue5
  t9 := Tryd.underlying9
  a9 := Tryd.isAgg9
  z9 := Tryd.sizeOf9
  v9 := Tryd.zeroValue9
  t21 := Tryd.underlying21
  a21 := Tryd.isAgg21
  z21 := Tryd.sizeOf21
  v21 := Tryd.zeroValue21
  t37 := Tryd.underlying22
  a37 := Tryd.isAgg22
  z37 := Tryd.sizeOf22
  v37 := Tryd.zeroValue22
  t46 := Tryd.underlying76
  a46 := Tryd.isAgg76
  z46 := Tryd.sizeOf76
  v46 := Tryd.zeroValue76
  t53 := Tryd.underlying58
  a53 := Tryd.isAgg58
  z53 := Tryd.sizeOf58
  v53 := Tryd.zeroValue58
  t75 := Tryd.underlying60
  a75 := Tryd.isAgg60
  z75 := Tryd.sizeOf60
  v75 := Tryd.zeroValue60
  t167 := Tryd.underlying88
  a167 := Tryd.isAgg88
  z167 := Tryd.sizeOf88
  v167 := Tryd.zeroValue88 }
open Go.RowKit in
theorem Tryd.internal_strconv_ParseUint_empty (base bits : Int) (w : World) :
    Calls Tryd.prog 57 #[.string ⟨#[]⟩, .int .i64 base, .int .i64 bits] w fun e w' => e = .returned (.tuple #[.int .u64 0, .iface 88 (.int .i64 2)]) ∧ w' = w := Any.internal_strconv_ParseUint_empty Tryd.lays287 base bits w
def Tryd.lays105_ren : Go.Shelf.Ren := ⟨fun | 105 => 51 | 212 => 60 | 99 => 61 | 165 => 62 | 166 => 63 | 170 => 64 | 169 => 65 | 263 => 76 | 264 => 77 | 206 => 78 | 240 => 79 | 241 => 80 | 276 => 89 | 277 => 90 | n => n, fun | 9 => 9 | 3 => 3 | 4 => 4 | 20 => 20 | 0 => 0 | 46 => 76 | 109 => 77 | 5 => 5 | 72 => 82 | 76 => 84 | 51 => 64 | 146 => 100 | 53 => 58 | 148 => 102 | 70 => 80 | 37 => 22 | 75 => 60 | 127 => 104 | 164 => 115 | 80 => 87 | n => n, fun | n => n⟩
theorem Tryd.lays105 : Go.Proofs.Lays.n105 Tryd.prog Tryd.lays105_ren := {
  mixed := by kernel_rfl
  f99 := Tryd.func61.trans (congrArg some (by kernel_rfl))
  f105 := Tryd.func51.trans (congrArg some (by kernel_rfl))
  f165 := Tryd.func62.trans (congrArg some (by kernel_rfl))
  f166 := Tryd.func63.trans (congrArg some (by kernel_rfl))
  f169 := Tryd.func65.trans (congrArg some (by kernel_rfl))
  f170 := Tryd.func64.trans (congrArg some (by kernel_rfl))
  f206 := Tryd.func78.trans (congrArg some (by kernel_rfl))
  f212 := Tryd.func60.trans (congrArg some (by kernel_rfl))
  f240 := Tryd.func79.trans (congrArg some (by kernel_rfl))
  f241 := Tryd.func80.trans (congrArg some (by kernel_rfl))
  f263 := Tryd.func76.trans (congrArg some (by kernel_rfl))
  f264 := Tryd.func77.trans (congrArg some (by kernel_rfl))
  f276 := Tryd.func89.trans (congrArg some (by kernel_rfl))
  f277 := Tryd.func90.trans (congrArg some (by kernel_rfl))
  t0 := Tryd.underlying0
  a0 := Tryd.isAgg0
  z0 := Tryd.sizeOf0
  v0 := Tryd.zeroValue0
  t3 := Tryd.underlying3
  a3 := Tryd.isAgg3
  z3 := Tryd.sizeOf3
  v3 := Tryd.zeroValue3
  t4 := Tryd.underlying4
  a4 := Tryd.isAgg4
  z4 := Tryd.sizeOf4
  v4 := Tryd.zeroValue4
  t5 := Tryd.underlying5
  a5 := Tryd.isAgg5
  z5 := Tryd.sizeOf5
  v5 := Tryd.zeroValue5
  t9 := Tryd.underlying9
  a9 := Tryd.isAgg9
  z9 := Tryd.sizeOf9
  v9 := Tryd.zeroValue9
  t20 := Tryd.underlying20
  a20 := Tryd.isAgg20
  z20 := Tryd.sizeOf20
  v20 := Tryd.zeroValue20
  t37 := Tryd.underlying22
  a37 := Tryd.isAgg22
  z37 := Tryd.sizeOf22
  v37 := Tryd.zeroValue22
  t46 := Tryd.underlying76
  a46 := Tryd.isAgg76
  z46 := Tryd.sizeOf76
  v46 := Tryd.zeroValue76
  t51 := Tryd.underlying64
  a51 := Tryd.isAgg64
  z51 := Tryd.sizeOf64
  v51 := Tryd.zeroValue64
  t53 := Tryd.underlying58
  a53 := Tryd.isAgg58
  z53 := Tryd.sizeOf58
  v53 := Tryd.zeroValue58
  t70 := Tryd.underlying80
  a70 := Tryd.isAgg80
  z70 := Tryd.sizeOf80
  v70 := Tryd.zeroValue80
  t72 := Tryd.underlying82
  a72 := Tryd.isAgg82
  z72 := Tryd.sizeOf82
  v72 := Tryd.zeroValue82
  t75 := Tryd.underlying60
  a75 := Tryd.isAgg60
  z75 := Tryd.sizeOf60
  v75 := Tryd.zeroValue60
  t76 := Tryd.underlying84
  a76 := Tryd.isAgg84
  z76 := Tryd.sizeOf84
  v76 := Tryd.zeroValue84
  t109 := Tryd.underlying77
  a109 := Tryd.isAgg77
  z109 := Tryd.sizeOf77
  v109 := Tryd.zeroValue77
  t127 := Tryd.underlying104
  a127 := Tryd.isAgg104
  z127 := Tryd.sizeOf104
  v127 := Tryd.zeroValue104
  t146 := Tryd.underlying100
  a146 := Tryd.isAgg100
  z146 := Tryd.sizeOf100
  v146 := Tryd.zeroValue100
  t148 := Tryd.underlying102
  a148 := Tryd.isAgg102
  z148 := Tryd.sizeOf102
  v148 := Tryd.zeroValue102
  t164 := Tryd.underlying115
  a164 := Tryd.isAgg115
  z164 := Tryd.sizeOf115
  v164 := Tryd.zeroValue115 }
theorem Tryd.Builder_Extra_105 : Builder.Extra Tryd.prog Tryd.lays105_ren := {
  sizeBuilder := by kernel_rfl
  liesBuilder := by kernel_rfl
  t5 := Tryd.underlying5
  a5 := Tryd.isAgg5
  z5 := Tryd.sizeOf5
  v5 := Tryd.zeroValue5
  infoByte := by kernel_rfl
  cellsByte := by kernel_rfl
  sizeByte := by kernel_rfl
  neB5 := by decide }
open Go.RowKit Go.Lib in
theorem Tryd.strings_Repeat (s : ByteArray) (c : Nat) (w : World) (hc : c ≤ 9223372036854775807) (hlen : s.size * c ≤ 140737488355328) :
    Calls Tryd.prog 51 #[.string s, .int .i64 c] w fun e w' => e = .returned (.string ⟨(Lib.repeatL s.data.toList c).toArray⟩) ∧ Below w.heap.size w w' := Any.strings_Repeat Tryd.lays105 Tryd.Builder_Extra_105 s c w hc hlen
end Go.Proofs

/-! The text of a number: the program's and the reference's. -/
set_option linter.unusedVariables false
set_option linter.unusedSimpArgs false
namespace Go.Proofs.YtihddajpkcjokaaDoor
open Go.RowKit Go.Lib

/-- The bits of a number, one pattern for each NaN. -/
def canonB (a : Nat) : Nat := if Flt.NaN Ieee.single a then 2143289344 else a
/-- The text of a number. -/
def numText (a : Nat) : List UInt8 := hexL 8 (canonB a)
theorem numText_length (a : Nat) : (numText a).length = 8 := hexL_length 8 _
theorem calls_args {P : Program} {f : FuncId} {a b : Array Value} {w : World} {Q : Ending → World → Prop} (h : a = b) (c : Calls P f b w Q) : Calls P f a w Q := h ▸ c
theorem repeatL_zero48 : ∀ c, Lib.repeatL [48] c = List.replicate c (48 : UInt8)
  | 0 => rfl
  | c + 1 => by
    have := repeatL_zero48 c
    simp [Lib.repeatL, List.replicate_succ] at this ⊢
    exact this
theorem str_app (l m : List UInt8) : (⟨l.toArray⟩ : ByteArray) ++ ⟨m.toArray⟩ = ⟨(l ++ m).toArray⟩ := by
  apply ByteArray.ext
  simp

set_option maxHeartbeats 4000000 in
set_option maxRecDepth 100000 in
theorem fmtUintIn (u : Nat) (hu : u < 4294967296) (w : World) (hc : w.cell? ⟨6, 15, none⟩ = some (.int .u8 4)) (S : ByteArray) (hS : S = ⟨(hexS 8 u).toArray⟩) :
    Calls Tryd.prog 59 #[.int .u64 u, .int .i64 16] w fun e w' => e = .returned (.string S) ∧ Below w.heap.size w w' := by
  have hF := formatBits16 u hu w hc
  rw [← hS] at hF
  clear hS
  go_enter Tryd.func59, Tryd.ntmps59
  go_wp2_with (go_at_call 75; refine hF.mono ?_; rintro e w1 ⟨rfl, hb1⟩)
  go_ret
  exact ⟨rfl, hb1⟩
set_option maxHeartbeats 4000000 in
set_option maxRecDepth 100000 in
theorem fmtUint (u : Nat) (hu : u < 4294967296) (w : World) (hc : w.cell? ⟨6, 15, none⟩ = some (.int .u8 4)) (S : ByteArray) (hS : S = ⟨(hexS 8 u).toArray⟩) :
    Calls Tryd.prog 49 #[.int .u64 u, .int .i64 16] w fun e w' => e = .returned (.string S) ∧ Below w.heap.size w w' := by
  have hF := fmtUintIn u hu w hc S hS
  clear hS
  go_enter Tryd.func49, Tryd.ntmps49
  go_wp2_with (go_at_call 59; refine hF.mono ?_; rintro e w1 ⟨rfl, hb1⟩)
  go_ret
  exact ⟨rfl, hb1⟩

set_option maxHeartbeats 400000 in
set_option maxRecDepth 100000 in
theorem implNumberText (a : Nat) (ha : a < 2 ^ 32) (w : World) (hc : w.cell? ⟨6, 15, none⟩ = some (.int .u8 4)) :
    Calls Tryd.prog 24 #[.float .f32 a] w fun e w' => e = .returned (.string ⟨(numText a).toArray⟩) ∧ Below w.heap.size w w' := by
  have hbits : ∀ x w, (callFunc 50 #[.float .f32 x]).run Tryd.prog w = .ok (.value (.int .u32 x)) w := fun x w => by kernel_rfl
  by_cases na : Flt.NaN Ieee.single a
  · have h1 : FloatKind.f32.format.order a a = none := order_nan .f32 (Or.inl na)
    have hT : (⟨#[55, 102, 99, 48, 48, 48, 48, 48]⟩ : ByteArray) = ⟨(numText a).toArray⟩ := by
      unfold numText canonB
      rw [if_pos na]
      decide +kernel
    rw [← hT]
    clear na hT
    go_enter Tryd.func24, Tryd.ntmps24
    go_wp2
    go_ret
    exact ⟨rfl, Below.refl _ _⟩
  · have h1 : FloatKind.f32.format.order a a = some .eq := order_self .f32 na
    have ha' : a < 4294967296 := by simpa using ha
    have hlen := hexS_length_le 8 a
    obtain ⟨n, hn⟩ : ∃ n, n = (hexS 8 a).length := ⟨_, rfl⟩
    obtain ⟨S, hS⟩ : ∃ S : ByteArray, S = ⟨(hexS 8 a).toArray⟩ := ⟨_, rfl⟩
    have hF := fmtUint a ha' w hc S hS
    have hsz : S.size = n := by rw [hS, hn]; rfl
    have hn8 : n ≤ 8 := by omega
    obtain ⟨c, hcn⟩ : ∃ c : Nat, c + n = 8 := ⟨8 - n, by omega⟩
    have hT : (⟨(Lib.repeatL [48] c).toArray⟩ : ByteArray) ++ S = ⟨(numText a).toArray⟩ := by
      have h := hexS_pad 8 a (by omega) ha'
      unfold numText canonB
      rw [if_neg na, hS, str_app, repeatL_zero48, ← h, ← hn, show 8 - n = c by omega]
    rw [← hT]
    obtain ⟨R, hR⟩ : ∃ R : ByteArray, R = ⟨(Lib.repeatL [48] c).toArray⟩ := ⟨_, rfl⟩
    have hRz : R.size = c := by rw [hR, size_of_list, repeatL_zero48]; simp
    rw [← hR]
    have hrep : ∀ w, Calls Tryd.prog 51 #[.string ⟨#[48]⟩, .int .i64 (8 - (n : Int))] w fun e w' => e = .returned (.string R) ∧ Below w.heap.size w w' := fun w => by
      have h := Tryd.strings_Repeat ⟨#[48]⟩ c w (by omega) (by have : (⟨#[48]⟩ : ByteArray).size = 1 := rfl; rw [this]; omega)
      rw [show (8 - (n : Int)) = (c : Int) by omega, hR]
      exact h
    have hm : ∀ n, IntKind.u64.wrap (IntKind.u32.wrap n) = IntKind.u32.wrap n := fun n => by
      rw [IntKind.wrap_u64]; simp [IntKind.wrap, IntKind.signed, IntKind.bits]; omega
    have hA := Lib.hid na
    clear na hT hS hlen hn hR
    go_enter Tryd.func24, Tryd.ntmps24
    go_wp2_with (first
      | (go_at_call 49; with_reducible refine hF.mono ?_; rintro e w1 ⟨rfl, hb1⟩)
      | (go_at_call 51; with_reducible refine calls_args (b := #[.string ⟨#[48]⟩, .int .i64 (8 - (n : Int))]) (by kernel_rfl) ?_; with_reducible refine (hrep _).mono ?_; rintro e w2 ⟨rfl, hb2⟩))
    go_ret
    exact ⟨rfl, hb1.trans (hb2.mono hb1.size)⟩

end Go.Proofs.YtihddajpkcjokaaDoor

/-! More contracts of the shelf at this translation, in plain words: written by the kit's lay-plain. -/
namespace Go.Proofs
open Go.Shelf
open Go.RowKit in
theorem Tryd.strconv_toError_syntax (fn s : ByteArray) (base bits : Int) (ev : Value) (w : World) (hlim : s.size ≤ 281474976710656) (hv : w.cell? ⟨1, 0, none⟩ = some ev) (hev : ev = .nilIface ∨ ∃ te pe, ev = .iface te pe) :
    Calls Tryd.prog 58 #[.string fn, .string s, .int .i64 base, .int .i64 bits, .iface 88 (.int .i64 2)] w fun e w' => ∃ N, e = .returned (.iface 91 (.pointer (some ⟨N, 0, none⟩))) ∧ w.heap.size ≤ N ∧ w'.heap[N]? = some (.cells #[.string fn, .string s, ev] 107 (0, 0)) ∧ Below w.heap.size w w' := Any.strconv_toError_syntax Tryd.laysC245 fn s base bits ev w hlim hv hev
end Go.Proofs

/-! Numbers that are read from texts; plain, no program in sight. -/
set_option linter.unusedVariables false
set_option linter.unusedSimpArgs false
namespace Go.Proofs.YtihddajpkcjokaaDoor
open Go.RowKit Go.Lib

/-- The bits of the number with a text. -/
def readOf (l : List UInt8) : Option Nat := if l.length = 8 then (hexV 0 l).bind fun v => if canonB v = v then some v else none else none
/-- The value of digits of 32 bits at most, one digit at least. -/
def hexUE (l : List UInt8) : Option Nat := if l = [] then none else hexU 0 l

theorem canonB_idem (a : Nat) : canonB (canonB a) = canonB a := by
  unfold canonB
  split
  · rw [if_pos]
    decide +kernel
  · rfl
theorem canonB_lt {a : Nat} (h : a < 2 ^ 32) : canonB a < 2 ^ 32 := by
  unfold canonB
  split
  · decide
  · exact h
theorem digU_of_digOf {c d : Nat} (h : digOf c = some d) : digU c = some d := by
  unfold digOf at h
  unfold digU
  split at h
  · rename_i h1
    rw [if_pos h1]; exact h
  · rename_i h1
    rw [if_neg h1]
    split at h
    · rename_i h2
      rw [if_pos h2]; exact h
    · exact absurd h (by simp)
theorem hexV_le : ∀ (l : List UInt8) (a v : Nat), hexV a l = some v → a ≤ v
  | [], a, v, h => by simp [hexV] at h; omega
  | c :: l, a, v, h => by
    rw [hexV_cons] at h
    cases hd : digOf c.toNat with
    | none => rw [hd] at h; simp at h
    | some d =>
      rw [hd] at h
      have := hexV_le l _ _ h
      omega
theorem hexU_of_hexV : ∀ (l : List UInt8) (a v : Nat), hexV a l = some v → v ≤ 4294967295 → hexU a l = some v
  | [], a, v, h, _ => h
  | c :: l, a, v, h, hv => by
    rw [hexV_cons] at h
    cases hd : digOf c.toNat with
    | none => rw [hd] at h; simp at h
    | some d =>
      rw [hd] at h
      have h' : hexV (a * 16 + d) l = some v := h
      have := hexV_le l _ _ h'
      show (match digU c.toNat with | some d => if a * 16 + d ≤ 4294967295 then hexU (a * 16 + d) l else none | none => none) = some v
      rw [digU_of_digOf hd]
      show (if a * 16 + d ≤ 4294967295 then hexU (a * 16 + d) l else none) = some v
      rw [if_pos (by omega)]
      exact hexU_of_hexV l _ _ h' hv
theorem hexU_le : ∀ (l : List UInt8) (a v : Nat), hexU a l = some v → a ≤ 4294967295 → v ≤ 4294967295
  | [], a, v, h, ha => by simp [hexU] at h; omega
  | c :: l, a, v, h, ha => by
    have h' : (match digU c.toNat with | some d => if a * 16 + d ≤ 4294967295 then hexU (a * 16 + d) l else none | none => none) = some v := h
    cases hd : digU c.toNat with
    | none => rw [hd] at h'; simp at h'
    | some d =>
      rw [hd] at h'
      have h2 : (if a * 16 + d ≤ 4294967295 then hexU (a * 16 + d) l else none) = some v := h'
      split at h2
      · exact hexU_le l _ _ h2 (by assumption)
      · exact absurd h2 (by simp)
theorem hexUE_lt {l : List UInt8} {v : Nat} (h : hexUE l = some v) : v < 2 ^ 32 := by
  unfold hexUE at h
  split at h
  · exact absurd h (by simp)
  · have := hexU_le _ _ _ h (by omega)
    omega
theorem hexUE_hexL {v : Nat} (h : v < 2 ^ 32) : hexUE (hexL 8 v) = some v := by
  have h0 : hexL 8 v ≠ [] := fun e => by have := hexL_length 8 v; rw [e] at this; simp at this
  unfold hexUE
  rw [if_neg h0]
  have hv := hexV_hexL 8 v 0 (by simpa using h)
  simp at hv
  exact hexU_of_hexV _ _ _ hv (by omega)
theorem readOf_some {l : List UInt8} {v : Nat} (h : readOf l = some v) : l = numText v ∧ v < 2 ^ 32 ∧ canonB v = v := by
  unfold readOf at h
  split at h
  · rename_i hl
    cases hx : hexV 0 l with
    | none => rw [hx] at h; simp at h
    | some b =>
      rw [hx] at h
      simp only [Option.bind] at h
      split at h
      · rename_i hc
        injection h with h
        subst h
        obtain ⟨h1, h2⟩ := hexL_hexV l b hx
        rw [hl] at h1 h2
        refine ⟨?_, by simpa using h1, hc⟩
        unfold numText
        rw [hc]
        exact h2
      · exact absurd h (by simp)
  · exact absurd h (by simp)
theorem readOf_numText {a : Nat} (h : a < 2 ^ 32) : readOf (numText a) = some (canonB a) := by
  have hv := hexV_hexL 8 (canonB a) 0 (by simpa using canonB_lt h)
  simp at hv
  unfold readOf
  rw [if_pos (numText_length a)]
  show (hexV 0 (hexL 8 (canonB a))).bind _ = _
  rw [hv]
  show (if canonB (canonB a) = canonB a then some (canonB a) else none) = _
  rw [if_pos (canonB_idem a)]
/-- What the program makes of it: the value of the digits, and the text of that number held against the text. -/
theorem readOf_by (l : List UInt8) : readOf l = match hexUE l with | some n => if numText n = l then some n else none | none => none := by
  cases hx : hexUE l with
  | none =>
    cases hr : readOf l with
    | none => rfl
    | some v =>
      obtain ⟨h1, h2, h3⟩ := readOf_some hr
      rw [h1] at hx
      unfold numText at hx
      rw [h3, hexUE_hexL h2] at hx
      exact absurd hx (by simp)
  | some n =>
    show _ = if numText n = l then some n else none
    have hn := hexUE_lt hx
    split
    · rename_i h
      subst h
      rw [readOf_numText hn]
      unfold numText at hx
      rw [hexUE_hexL (canonB_lt hn)] at hx
      exact hx
    · rename_i h
      cases hr : readOf l with
      | none => rfl
      | some v =>
        obtain ⟨h1, h2, h3⟩ := readOf_some hr
        exfalso
        apply h
        have : hexUE l = some v := by
          rw [h1]
          unfold numText
          rw [h3, hexUE_hexL h2]
        rw [this] at hx
        injection hx with hx
        rw [← hx, ← h1]
end Go.Proofs.YtihddajpkcjokaaDoor

/-! The number of a text: the program's and the reference's. -/
set_option linter.unusedVariables false
set_option linter.unusedSimpArgs false
namespace Go.Proofs.YtihddajpkcjokaaDoor
open Go.RowKit Go.Lib

theorem strNe {a b : ByteArray} (h : ¬ a = b) : (a.toList == b.toList) = false := by
  rw [ByteArray.toList_eq, ByteArray.toList_eq]
  simp only [beq_eq_false_iff_ne, ne_eq]
  exact fun e => h (ByteArray.ext (Array.toList_inj.1 e))
/-- What of Go's library is read. -/
structure Libs (w : World) : Prop where
  db : w.cell? ⟨6, 15, none⟩ = some (.int .u8 4)
  es : ∃ tp p, w.cell? ⟨1, 0, none⟩ = some (.iface tp p)
  er : ∃ tp p, w.cell? ⟨2, 0, none⟩ = some (.iface tp p)
theorem Libs.on {w w' : World} {B : Nat} (h : Libs w) (hb : Below B w w') (hB : w.heap.size ≤ B) : Libs w' := by
  obtain ⟨tp, p, e1⟩ := h.es
  obtain ⟨tq, q, e2⟩ := h.er
  exact ⟨(hb.cell (Nat.lt_of_lt_of_le (World.block_lt_of_cell? _ _ h.db) hB)).trans h.db,
    ⟨tp, p, (hb.cell (Nat.lt_of_lt_of_le (World.block_lt_of_cell? _ _ e1) hB)).trans e1⟩,
    ⟨tq, q, (hb.cell (Nat.lt_of_lt_of_le (World.block_lt_of_cell? _ _ e2) hB)).trans e2⟩⟩

theorem parseUintIn (t : ByteArray) (hmax : t.size ≤ 1048576) (w : World) :
    Calls Tryd.prog 57 #[.string t, .int .i64 16, .int .i64 32] w fun e w' => (∃ v, e = .returned v ∧ uintEnd 88 (hexUE t.data.toList) v) ∧ Below w.heap.size w w' := by
  by_cases h0 : t.size = 0
  · have ht : t = ⟨#[]⟩ := by
      apply ByteArray.ext
      exact Array.eq_empty_of_size_eq_zero h0
    subst ht
    refine (Tryd.internal_strconv_ParseUint_empty 16 32 w).mono fun e w' ⟨he, hw⟩ => ⟨⟨_, he, ?_⟩, by rw [hw]; exact Below.refl _ _⟩
    exact ⟨0, 2, Or.inr rfl, rfl⟩
  · have hne : t.data.toList ≠ [] := fun h => h0 (by rw [Lib.size_eq, h]; rfl)
    refine (parseUint16 (P := Tryd.prog) { Tryd.lays287 with } t h0 (by omega) w).mono fun e w' ⟨he, hw⟩ => ⟨?_, by rw [hw]; exact Lib.bytesWorld_below _ _ _⟩
    unfold hexUE
    rw [if_neg hne]
    exact he

set_option maxHeartbeats 1000000 in
set_option maxRecDepth 100000 in
theorem parseUintPub (t : ByteArray) (hmax : t.size ≤ 1048576) (w : World) (hL : Libs w) :
    Calls Tryd.prog 47 #[.string t, .int .i64 16, .int .i64 32] w fun e w' => (∃ v, e = .returned v ∧ match hexUE t.data.toList with | some n => v = .tuple #[.int .u64 n, .nilIface] | none => ∃ M T p, v = .tuple #[.int .u64 M, .iface T p]) ∧ Below w.heap.size w w' := by
  have hI := parseUintIn t hmax w
  cases hx : hexUE t.data.toList with
  | some n =>
    rw [hx] at hI
    have hI' : Calls Tryd.prog 57 #[.string t, .int .i64 16, .int .i64 32] w fun e w' => e = .returned (.tuple #[.int .u64 n, .nilIface]) ∧ Below w.heap.size w w' := hI.mono fun e w' ⟨⟨v, h1, h2⟩, h3⟩ => ⟨by rw [h1]; exact congrArg _ h2, h3⟩
    clear hI hx
    go_enter Tryd.func47, Tryd.ntmps47
    go_wp2_with (go_at_call 57; with_reducible refine hI'.mono ?_; rintro e w1 ⟨rfl, hb1⟩)
    go_ret2
    exact ⟨⟨_, rfl, rfl⟩, hb1⟩
  | none =>
    rw [hx] at hI
    have hI' : Calls Tryd.prog 57 #[.string t, .int .i64 16, .int .i64 32] w fun e w' => (∃ M, e = .returned (.tuple #[.int .u64 M, .iface 88 (.int .i64 1)]) ∨ e = .returned (.tuple #[.int .u64 M, .iface 88 (.int .i64 2)])) ∧ Below w.heap.size w w' := hI.mono fun e w' ⟨⟨v, h1, M, c, hc, h2⟩, h3⟩ => ⟨⟨M, by
      rcases hc with rfl | rfl
      · exact Or.inl (by rw [h1, h2])
      · exact Or.inr (by rw [h1, h2])⟩, h3⟩
    clear hI hx
    go_enter Tryd.func47, Tryd.ntmps47
    go_wp2_with fail
    go_at_call 57
    with_reducible refine hI'.mono ?_
    rintro e w1 ⟨⟨M, rfl | rfl⟩, hb1⟩
    · obtain ⟨tp, p, hev⟩ := (hL.on hb1 (Nat.le_refl _)).er
      have hT := Tryd.strconv_toError_range ⟨#[80, 97, 114, 115, 101, 85, 105, 110, 116]⟩ t 16 32 (.iface tp p) w1 (by omega) hev (Or.inr ⟨tp, p, rfl⟩)
      go_wp2_with fail
      go_at_call 58
      with_reducible refine calls_args (b := #[.string ⟨#[80, 97, 114, 115, 101, 85, 105, 110, 116]⟩, .string t, .int .i64 16, .int .i64 32, .iface 88 (.int .i64 1)]) (by kernel_rfl) ?_
      with_reducible refine hT.mono ?_
      rintro e w2 ⟨N, rfl, _, _, hb2⟩
      go_wp2
      go_ret2
      exact ⟨⟨_, rfl, _, _, _, rfl⟩, hb1.trans (hb2.mono hb1.size)⟩
    · obtain ⟨tp, p, hev⟩ := (hL.on hb1 (Nat.le_refl _)).es
      have hT := Tryd.strconv_toError_syntax ⟨#[80, 97, 114, 115, 101, 85, 105, 110, 116]⟩ t 16 32 (.iface tp p) w1 (by omega) hev (Or.inr ⟨tp, p, rfl⟩)
      go_wp2_with fail
      go_at_call 58
      with_reducible refine calls_args (b := #[.string ⟨#[80, 97, 114, 115, 101, 85, 105, 110, 116]⟩, .string t, .int .i64 16, .int .i64 32, .iface 88 (.int .i64 2)]) (by kernel_rfl) ?_
      with_reducible refine hT.mono ?_
      rintro e w2 ⟨N, rfl, _, _, hb2⟩
      go_wp2
      go_ret2
      exact ⟨⟨_, rfl, _, _, _, rfl⟩, hb1.trans (hb2.mono hb1.size)⟩

/-- What ReadNumber hands back. -/
def readRes (o : Option Nat) : Value := match o with | some v => .tuple #[.float .f32 v, .int .i64 0] | none => .tuple #[.float .f32 0, .int .i64 5]

set_option maxHeartbeats 1000000 in
set_option maxRecDepth 100000 in
theorem implReadNumber (t : ByteArray) (hmax : t.size ≤ 1048576) (w : World) (hL : Libs w) :
    Calls Tryd.prog 23 #[.string t] w fun e w' => e = .returned (readRes (readOf t.data.toList)) ∧ Below w.heap.size w w' := by
  have hfrom : ∀ x w, (callFunc 48 #[.int .u32 x]).run Tryd.prog w = .ok (.value (.float .f32 x.toNat)) w := fun x w => by kernel_rfl
  have hI := parseUintPub t hmax w hL
  cases hx : hexUE t.data.toList with
  | none =>
    have hG : readOf t.data.toList = none := by rw [readOf_by, hx]
    rw [hG]
    rw [hx] at hI
    clear hG
    clear hx
    go_enter Tryd.func23, Tryd.ntmps23
    go_wp2_with (go_at_call 47; with_reducible refine hI.mono ?_; rintro e w1 ⟨⟨v, rfl, M, T, p, rfl⟩, hb1⟩)
    go_ret2
    exact ⟨rfl, hb1⟩
  | some n =>
    rw [hx] at hI
    have hI' : Calls Tryd.prog 47 #[.string t, .int .i64 16, .int .i64 32] w fun e w' => e = .returned (.tuple #[.int .u64 n, .nilIface]) ∧ Below w.heap.size w w' := hI.mono fun e w' ⟨⟨v, h1, h2⟩, h3⟩ => ⟨by rw [h1]; exact congrArg _ h2, h3⟩
    have hn := hexUE_lt hx
    have hn2 : n < 4294967296 := by simpa using hn
    have hN := fun w1 h => implNumberText n hn w1 h
    clear hI
    obtain ⟨S, hS⟩ : ∃ S : ByteArray, S = ⟨(numText n).toArray⟩ := ⟨_, rfl⟩
    simp only [← hS] at hN
    have hSl : S.data.toList = numText n := by rw [hS]
    by_cases hq : numText n = t.data.toList
    · have hst : S = t := by
        apply ByteArray.ext
        apply Array.toList_inj.1
        rw [hSl, hq]
      have hG : readOf t.data.toList = some n := by rw [readOf_by, hx]; exact if_pos hq
      rw [hG]
      subst hst
      have HL := Lib.hid hL
      clear hS hSl hq hn hG hL hx
      go_enter Tryd.func23, Tryd.ntmps23
      go_wp2_with (first
        | (go_at_call 47; with_reducible refine hI'.mono ?_; rintro e w1 ⟨rfl, hb1⟩)
        | (go_at_call 24; with_reducible refine (hN _ (HL.out.on hb1 (Nat.le_refl _)).db).mono ?_; rintro e w2 ⟨rfl, hb2⟩))
      go_ret2
      exact ⟨rfl, hb1.trans (hb2.mono hb1.size)⟩
    · have hst : ¬ S = t := fun e => hq (by rw [← hSl, e])
      have hG : readOf t.data.toList = none := by rw [readOf_by, hx]; exact if_neg hq
      rw [hG]
      have HL := Lib.hid hL
      clear hS hSl hq hn hG hL hx
      go_enter Tryd.func23, Tryd.ntmps23
      go_wp2_with (first
        | (go_at_call 47; with_reducible refine hI'.mono ?_; rintro e w1 ⟨rfl, hb1⟩)
        | (go_at_call 24; with_reducible refine (hN _ (HL.out.on hb1 (Nat.le_refl _)).db).mono ?_; rintro e w2 ⟨rfl, hb2⟩))
      · go_ret2
        exact ⟨rfl, hb1.trans (hb2.mono hb1.size)⟩
      · rename_i hbad
        exact absurd (strNe hst) (by rw [Bool.not_eq_false'] at hbad; rw [hbad]; simp)
end Go.Proofs.YtihddajpkcjokaaDoor

/-! What a row's listed tables give: a number's table of bits/TrailingZeros holds 4 at place 15; the powers of ten. -/
namespace Go.Proofs.YtihddajpkcjokaaDoor
open Go.ChangeShapes Go.WideShapes Go.ChangeAt Go.RowKit

theorem debruijn_cell {W : World} {x : String × DataW Unit} {rest : List (String × DataW Unit)} (h : laidMet Tryd.prog (x :: ("math/bits.deBruijn64tab", Rows.laid_math_bits_deBruijn64tab) :: rest) W) :
    W.cell? ⟨6, 15, none⟩ = some (.int .u8 4) := by
  have h1 : Lib.TabIs Tryd.prog W "math/bits.deBruijn64tab" .u8 deBruijn64 :=
    Lib.tabIs_of_head (g := 6) (t := 124) (e := 5) (n := 64) (rest := rest) (by kernel_rfl) (by kernel_rfl) (by kernel_rfl) (by kernel_rfl) (by kernel_rfl) (by kernel_rfl) h.tail
  exact h1.cell (by kernel_rfl) 15 (by decide)
end Go.Proofs.YtihddajpkcjokaaDoor

/-! What a row's listed variables give the readers of texts: the table, the two errors; the powers of ten. -/
namespace Go.Proofs.YtihddajpkcjokaaDoor
open Go.ChangeShapes Go.WideShapes Go.ChangeAt Go.RowKit

theorem star_es : "*" ++ "errors.errorString" = "*errors.errorString" := by decide
theorem row_es : ∀ u, Tryd.prog.typeName? 3 u = some "*errors.errorString" → u = 118 := fun u h =>
  typeName_ptr_named (nm := "errors.errorString") (by rw [star_es]; kernel_rfl) (by kernel_rfl) (by decide) u (by rw [star_es]; exact h)
theorem es_cell {W : World} {rest : List (String × DataW Unit)} (h : laidMet Tryd.prog (("strconv.ErrSyntax", Rows.laid_strconv_ErrSyntax) :: rest) W) : ∃ tp p, W.cell? ⟨1, 0, none⟩ = some (.iface tp p) := by
  obtain ⟨a0, s0, hv0, -, -, -⟩ := laid_sentinel (g := 1) (ti := 60) (tp := 118) (te := 120) (ts := 9) h (by kernel_rfl) (by kernel_rfl) Tryd.underlying60 row_es Tryd.underlying118 Tryd.underlying120 rfl rfl Tryd.underlying9 (by kernel_rfl) (by kernel_rfl)
  have h0 := World.var?_cell (g := 1) (by kernel_rfl) hv0 0
  exact ⟨_, _, by simpa using h0⟩
theorem er_cell {W : World} {rest : List (String × DataW Unit)} (h : laidMet Tryd.prog (("strconv.ErrRange", Rows.laid_strconv_ErrRange) :: rest) W) : ∃ tp p, W.cell? ⟨2, 0, none⟩ = some (.iface tp p) := by
  obtain ⟨a0, s0, hv0, -, -, -⟩ := laid_sentinel (g := 2) (ti := 60) (tp := 118) (te := 120) (ts := 9) h (by kernel_rfl) (by kernel_rfl) Tryd.underlying60 row_es Tryd.underlying118 Tryd.underlying120 rfl rfl Tryd.underlying9 (by kernel_rfl) (by kernel_rfl)
  have h0 := World.var?_cell (g := 2) (by kernel_rfl) hv0 0
  exact ⟨_, _, by simpa using h0⟩
end Go.Proofs.YtihddajpkcjokaaDoor

/-! Contracts of what FnGains calls, of parts and gains; each under its own premises. -/
set_option linter.unusedVariables false
set_option linter.unusedSimpArgs false
namespace Go.Proofs.YtihddajpkcjokaaDoor
open Go.RowKit Ieee

theorem near_b {a b wi : Nat} {v : Bool} (ha : Fin32 a) (hb : Fin32 b) (hd : Fin32 (fsub a b)) (hw : ¬ Flt.NaN single wi) (h : leF (absN (fsub a b)) wi = v) (w : World) :
    Calls Tryd.prog 13 #[.float .f32 a, .float .f32 b, .float .f32 wi] w fun e w' => e = .returned (.bool v) ∧ Below w.heap.size w w' :=
  (near_q ha hb hd hw h w 0).mono fun e w' ⟨h, m, hm⟩ => ⟨h, by rw [hm]; exact bel_drewN m (Below.refl _ _)⟩
theorem sameNum_b (a : Nat) (w : World) : Calls Tryd.prog 11 #[.float .f32 a, .float .f32 a] w fun e w' => e = .returned (.bool true) ∧ Below w.heap.size w w' :=
  (sameNum_any a w).mono fun e w' ⟨h, hm⟩ => ⟨h, by rw [← hm]; exact Below.refl _ _⟩
theorem isPart_b {a : Nat} (h : partB a = true) (w : World) : Calls Tryd.prog 12 #[.float .f32 a] w fun e w' => e = .returned (.bool true) ∧ Below w.heap.size w w' :=
  (implPart_any a w).mono fun e w' ⟨h1, hm⟩ => ⟨by rw [h1, h], by rw [← hm]; exact Below.refl _ _⟩
theorem plain_part {a : Nat} (h : partB a = true) : rangeB 3380609024 1233125376 a = true := by
  obtain ⟨h1, h2, h3⟩ := (part_iff a).1 h
  have e1 : Z32 3380609024 = -2 ^ 169 := by decide +kernel
  rw [rangeB_eq (by decide) (by decide), Z_film, e1]
  simp only [Bool.and_eq_true, decide_eq_true_eq]
  exact ⟨h1, by omega, by omega⟩
theorem isPlain_b {a : Nat} (h : partB a = true) (w : World) : Calls Tryd.prog 25 #[.float .f32 a] w fun e w' => e = .returned (.bool true) ∧ Below w.heap.size w w' := by
  rw [← plain_part h]
  go_enter Tryd.func25, Tryd.ntmps25
  go_wp2
  · rename_i h; go_ret; exact ⟨by simp [rangeB, h], Below.refl _ _⟩
  · rename_i h; go_ret; exact ⟨by simp [rangeB, not_or.1 h], Below.refl _ _⟩
section
variable {d g : Nat} (hd : partB d = true) (hg : gainB g = true)
include hd hg
theorem gainIG (w : World) : Calls Tryd.prog 7 #[.float .f32 d, .float .f32 g] w fun e w' => e = .returned (.tuple #[.float .f32 (gained d g), .int .i64 0]) ∧ Below w.heap.size w w' := by
  have := implGainDot_any d g w
  unfold gainR okC at this
  rw [hd, hg] at this
  exact this
theorem gainSG (w : World) : Calls Tryd.prog 8 #[.float .f32 d, .float .f32 g] w fun e w' => e = .returned (.tuple #[.float .f32 (gained d g), .int .i64 0]) ∧ Below w.heap.size w w' := by
  have := specGainDot_any d g w
  unfold gainR okC at this
  rw [hd, hg] at this
  exact this
theorem loseIG (w : World) : Calls Tryd.prog 9 #[.float .f32 d, .float .f32 g] w fun e w' => e = .returned (.tuple #[.float .f32 (loseAt d g 24).2, .int .i64 0]) ∧ Below w.heap.size w w' := by
  have := implLoseGain_any d g w
  unfold loseR okC at this
  rw [hd, hg] at this
  exact this
theorem loseSG (w : World) : Calls Tryd.prog 10 #[.float .f32 d, .float .f32 g] w fun e w' => e = .returned (.tuple #[.float .f32 (loseAt d g 24).2, .int .i64 0]) ∧ Below w.heap.size w w' := by
  have := specLoseGain_any d g w
  unfold loseR okC at this
  rw [hd, hg] at this
  exact this
theorem gained_lt : gained d g < 2 ^ 32 := by
  obtain ⟨f1, f2, f3, f4, n5, p4⟩ := gain_facts hd hg
  have := fadd_lt (part_fin hd) f4
  unfold gained clipR
  split
  · decide
  · split
    · decide
    · exact this
end
section
variable {d s : Nat} (hd : partB d = true) (hs : partB s = true)
include hd hs
theorem lightIG (w : World) : Calls Tryd.prog 14 #[.float .f32 d, .float .f32 s] w fun e w' => e = .returned (.tuple #[.float .f32 (lightR d s), .int .i64 0]) ∧ Below w.heap.size w w' := by
  have := implLight_any d s w
  unfold okC at this
  rw [hd, hs] at this
  exact this
theorem lightSG (w : World) : Calls Tryd.prog 15 #[.float .f32 d, .float .f32 s] w fun e w' => e = .returned (.tuple #[.float .f32 (lightR d s), .int .i64 0]) ∧ Below w.heap.size w w' := by
  have := specLight_any d s w
  unfold okC at this
  rw [hd, hs] at this
  exact this
theorem part_light : partB (lightR d s) = true := by
  unfold lightR
  rw [hd, hs]
  exact part_one_sub (part_mul hd (part_one_sub hs))
end
/-- What a dot for a light may be. -/
def LightOut (d s Q : Nat) (C : Int) : Prop := (isOne s = true ∧ 4 = C) ∨ (isOne s = false ∧ 6 = C) ∨ (isOne s = false ∧ 0 = C ∧ ((FloatKind.f32.format.order s 1056964608 == some .lt) = true → Fin32 Q ∧ Fin32 (fsub Q d) ∧ leF (absN (fsub Q d)) 981668463 = true))
theorem light_both {d s : Nat} (hd : partB d = true) (hs : partB s = true) : ∃ (Q : Nat) (C : Int), LightOut d s Q C ∧
    (∀ w, Calls Tryd.prog 16 #[.float .f32 (lightR d s), .float .f32 s] w fun e w' => e = .returned (.tuple #[.float .f32 Q, .int .i64 C]) ∧ Below w.heap.size w w') ∧
    (∀ w, Calls Tryd.prog 17 #[.float .f32 (lightR d s), .float .f32 s] w fun e w' => e = .returned (.tuple #[.float .f32 Q, .int .i64 C]) ∧ Below w.heap.size w w') := by
  have hl := part_light hd hs
  refine ⟨dotR (lightR d s) s, dotC (lightR d s) s, ?_, fun w => implDot_any _ _ w, fun w => specDot_any _ _ w⟩
  unfold LightOut dotR dotC
  rw [hl, hs]
  cases h1 : isOne s
  · cases h2 : overOne (dotQ (lightR d s) s)
    · refine Or.inr (Or.inr ⟨rfl, rfl, fun h => ?_⟩)
      have nh : ¬ Flt.NaN single 1056964608 := by decide
      have ns := ((part_iff s).1 hs).1
      have h5 := (lt_iff ns nh).1 h
      rw [show Z32 1056964608 = 2 ^ 148 from by decide +kernel] at h5
      obtain ⟨f, e1, e2⟩ := found_near hd hs h5
      have hwi : 600 * (2 : Int) ^ 128 ≤ Z32 981668463 := by decide +kernel
      obtain ⟨_, d2, d3⟩ := (part_iff d).1 hd
      have hdl : dlt = 2 ^ 132 := rfl
      have hm : lim = 2 ^ 157 := rfl
      have hwi2 : 2 ^ 138 ≤ Z32 981668463 := by decide +kernel
      obtain ⟨z1, z2⟩ := near_Z (wi := 981668463) (c := 2 ^ 132) f (part_fin hd) (by omega) (by omega) (by decide) (by omega) (by omega) (by omega)
      exact ⟨f, z1, z2⟩
    · exact Or.inr (Or.inl ⟨rfl, rfl⟩)
  · exact Or.inl ⟨rfl, rfl⟩
/-! ### plates -/
theorem dots_all {a b : Nat} {F : Nat → Nat} (h : ∀ i, dotB a b F i = true) : ∀ n, dotsB a b F n = true
  | 0 => rfl
  | n + 1 => by
    show (dotsB a b F n && dotB a b F n) = true
    rw [dots_all h n, h n]
    rfl
theorem drawn_size {a b : Nat} (a1 : 1 ≤ a) (a5 : a ≤ 5) (b1 : 1 ≤ b) (b5 : b ≤ 5) : sizeB (a : Int) (b : Int) = true := by
  unfold sizeB
  rw [decide_eq_true (by omega), decide_eq_true (by omega), decide_eq_true (by omega), decide_eq_true (by omega)]
  rfl
section
variable {a b : Nat} {F : Nat → Nat} (hP : DrawnP a b F)
include hP
theorem DrawnP.ok : plateB (a : Int) (b : Int) F = true := by
  unfold plateB
  rw [drawn_size hP.a1 hP.a5 hP.b1 hP.b5]
  refine (dots_all fun i => ?_) 64
  unfold dotB
  cases h : isC ((a : Int).toNat) ((b : Int).toNat) i
  · rw [hP.out i h]
    decide +kernel
  · exact (hP.dot i).1
section
variable {g : Nat} (hg : gainB g = true)
include hg
theorem DrawnP.gain_ok : plateB (a : Int) (b : Int) (mapA a b (fun i => gained (F i) g) F) = true := by
  unfold plateB
  rw [drawn_size hP.a1 hP.a5 hP.b1 hP.b5]
  refine (dots_all fun i => ?_) 64
  unfold dotB mapA
  cases h : isC a b i
  · rw [show isC ((a : Int).toNat) ((b : Int).toNat) i = false from h, hP.out i h]
    simp only [Bool.false_eq_true, if_false]
    decide +kernel
  · rw [show isC ((a : Int).toNat) ((b : Int).toNat) i = true from h]
    exact part_gained (hP.dot i).1 hg
theorem DrawnP.gain_lt (i : Nat) : mapA a b (fun i => gained (F i) g) F i < 2 ^ 32 := by
  unfold mapA
  split
  · exact gained_lt (hP.dot i).1 hg
  · exact (hP.dot i).2
theorem DrawnP.gain_ge (i : Nat) : (FloatKind.f32.format.order (mapA a b (fun i => gained (F i) g) F i) (F i) == some .lt) = false := by
  have n1 := fin_nan (part_fin (hP.dot i).1)
  unfold mapA
  split
  · exact lt_no (fin_nan (part_fin (part_gained (hP.dot i).1 hg))) n1 (gained_ge (hP.dot i).1 hg)
  · exact lt_no n1 n1 (Int.le_refl _)
theorem gainPI (w : World) : Calls Tryd.prog 19 #[.agg (plate a b F), .float .f32 g] w fun e w' => e = .returned (.tuple #[.agg (plate a b (mapA a b (fun i => gained (F i) g) F)), .int .i64 0]) ∧ Below w.heap.size w w' := by
  have a5 := hP.a5
  have b5 := hP.b5
  have := implGainP_any a b F w (by omega) (by omega) (by omega) (by omega) g
  rw [hP.ok, hg] at this
  exact this
theorem gainPS (w : World) : Calls Tryd.prog 20 #[.agg (plate a b F), .float .f32 g] w fun e w' => e = .returned (.tuple #[.agg (plate a b (mapA a b (fun i => gained (F i) g) F)), .int .i64 0]) ∧ Below w.heap.size w w' := by
  have a5 := hP.a5
  have b5 := hP.b5
  have := specGainP_any a b F w (by omega) (by omega) (by omega) (by omega) g
  rw [hP.ok, hg] at this
  exact this
theorem validGP (w : World) : Calls Tryd.prog 22 #[.agg (plate a b (mapA a b (fun i => gained (F i) g) F))] w fun e w' => e = .returned (.bool true) ∧ Below w.heap.size w w' := by
  have a5 := hP.a5
  have b5 := hP.b5
  have := implPOk_any a b (mapA a b (fun i => gained (F i) g) F) w (by omega) (by omega) (by omega) (by omega)
  rwa [hP.gain_ok hg] at this
end
end
theorem samePS {x y : Int} {F : Nat → Nat} (hF : ∀ i, i < 64 → F i < 2 ^ 32) (w : World) : Calls Tryd.prog 21 #[.agg (plate x y F), .agg (plate x y F)] w fun e w' => e = .returned (.bool true) ∧ Below w.heap.size w w' := by
  have := specSameP_any x y F x y F w hF hF
  rwa [show sameP x y F x y F = true from by unfold sameP; rw [sameTo_eq 64 (fun _ _ => rfl)]; simp] at this
/-! ### texts -/
theorem numTextG {a : Nat} (ha : a < 2 ^ 32) (w : World) (hL : Libs w) : Calls Tryd.prog 24 #[.float .f32 a] w fun e w' => e = .returned (.string ⟨(numText a).toArray⟩) ∧ Below w.heap.size w w' :=
  implNumberText a ha w hL.db
theorem readNumG {a : Nat} (ha : a < 2 ^ 32) (hn : ¬ Flt.NaN single a) (w : World) (hL : Libs w) : Calls Tryd.prog 23 #[.string ⟨(numText a).toArray⟩] w fun e w' => e = .returned (.tuple #[.float .f32 a, .int .i64 0]) ∧ Below w.heap.size w w' := by
  have := implReadNumber ⟨(numText a).toArray⟩ (by have := numText_length a; simp [ByteArray.size]; omega) w hL
  have h1 : readOf (ByteArray.mk (numText a).toArray).data.toList = some a := by
    show readOf (numText a) = some a
    rw [readOf_numText ha]
    unfold canonB
    rw [if_neg hn]
  rw [h1] at this
  exact this
/-- What the first tests of FnGains ask. -/
structure GainFirst (d g : Nat) : Prop where
  p : partB (loseAt d g 24).2 = true
  f1 : (FloatKind.f32.format.order (gained d g) d == some .lt) = false
  f2 : (FloatKind.f32.format.order (gained d g) 1065353216 == some .gt) = false
  f3 : (FloatKind.f32.format.order (gained (loseAt d g 24).2 g) d == some .lt) = false
  f4 : FloatKind.f32.format.order (gained d 0) d = some .eq
  n1 : Fin32 (gained (loseAt d g 24).2 g)
  n2 : Fin32 (fsub (gained (loseAt d g 24).2 g) d)
  n3 : leF (absN (fsub (gained (loseAt d g 24).2 g) d)) 981668463 = true
theorem gain_first {d g : Nat} (hd : partB d = true) (hg : gainB g = true) : GainFirst d g := by
  obtain ⟨p, h1, h2⟩ := home_near hd hg
  obtain ⟨_, d2, d3⟩ := (part_iff d).1 hd
  have nd := fin_nan (part_fin hd)
  have pg := part_gained hd hg
  have ph := part_gained p hg
  have fh := part_fin ph
  have hz := gained_zero hd
  have ng0 := fin_nan (part_fin (part_gained hd (g := 0) (by decide +kernel)))
  have hdl : dlt = 2 ^ 132 := rfl
  have hm : lim = 2 ^ 157 := rfl
  have hwi2 : 2 ^ 138 ≤ Z32 981668463 := by decide +kernel
  obtain ⟨z1, z2⟩ := near_Z (wi := 981668463) (c := 2 ^ 135) fh (part_fin hd) (by omega) (by omega) (by decide) (by omega) (by omega) (by omega)
  refine ⟨p, lt_no (fin_nan (part_fin pg)) nd (gained_ge hd hg), gt_no (fin_nan (part_fin pg)) (by decide) (by rw [Z_one]; exact gained_le hd hg), lt_no (fin_nan fh) nd h1, ?_, fh, z1, z2⟩
  rw [order_Z ng0 nd, hz, Int.compare_eq_eq.2 rfl]
end Go.Proofs.YtihddajpkcjokaaDoor
