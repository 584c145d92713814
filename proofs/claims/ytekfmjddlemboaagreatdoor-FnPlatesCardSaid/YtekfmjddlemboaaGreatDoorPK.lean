/- Parts of a proof, merged; each under its own premises. -/
import Derived.Test.YtekfmjddlemboaaGreatDoorPJ
import Derived.Test.YtekfmjddlemboaaGreatDoorPA
import Derived.ShutString
import Derived.Laws.MakeOwn
import Derived.Shelf.Strings.OnBuilder
import Derived.Shelf.Strconv.ParseIntEmpty
import Derived.Shelf.Strconv.SyntaxError
import Derived.Shelf.Strconv.ParseUint10
import Derived.Shelf.Strconv.ParseUint10Empty
import Derived.Shelf.Strconv.ParseUint10Any
import Derived.Shelf.Strconv.ParseInt10
import Derived.Shelf.Strconv.ParseUint10b64
import Derived.Shelf.Strconv.ParseUint10b32
import Derived.Shelf.Strconv.ParseUint10b16
import Derived.Shelf.Strconv.ParseUint10b8
import Derived.Shelf.Strconv.ParseUint10At
import Derived.Shelf.Strconv.ParseInt10At64
import Derived.Shelf.Strconv.ParseInt10At32
import Derived.Shelf.Strconv.ParseInt10At16
import Derived.Shelf.Strconv.ParseInt10At8
import Derived.Shelf.Strconv.ParseInt10All
import Derived.Shelf.Strconv.ParseIntPublic10
import Derived.Shelf.Strconv.ErrVarParseInt
import Derived.Shelf.Strings.Split
import Derived.Shelf.Strings.SplitShaped
import Derived.Test.YtekfmjddlemboaaGreatDoorPI
import Derived.Lib.LaidTab
import Derived.LaidMore
import Derived.LaidHandle
import Derived.OpenShut
import Derived.Stop.Joined
import Derived.Stop.LaidErr
import Derived.Lib.ItoaNum
import Derived.Lib.Join
import Derived.OwnWalk
import Derived.Test.YtekfmjddlemboaaGreatDoorPB

/-! The text of a number: the program's and the reference's. -/
set_option linter.unusedVariables false
set_option linter.unusedSimpArgs false
namespace Go.Proofs.YtekfmjddlemboaaGreatDoor
open Go.RowKit Go.Lib

/-- The bits of a number, one pattern for each NaN. -/
def canonB (a : Nat) : Nat := if Flt.NaN Ieee.single a then 2143289344 else a
/-- The text of a number. -/
def numText (a : Nat) : List UInt8 := hexL 8 (canonB a)
theorem numText_length (a : Nat) : (numText a).length = 8 := hexL_length 8 _
theorem calls_args {P : Program} {f : FuncId} {a b : Array Value} {w : World} {Q : Ending → World → Prop} (h : a = b) (c : Calls P f b w Q) : Calls P f a w Q := h ▸ c
theorem repeatL_zero48 : ∀ c, Lib.repeatL [48] c = List.replicate c (48 : UInt8)
  | 0 => rfl
  | c + 1 => by
    have := repeatL_zero48 c
    simp [Lib.repeatL, List.replicate_succ] at this ⊢
    exact this
theorem str_app (l m : List UInt8) : (⟨l.toArray⟩ : ByteArray) ++ ⟨m.toArray⟩ = ⟨(l ++ m).toArray⟩ := by
  apply ByteArray.ext
  simp

set_option maxHeartbeats 4000000 in
set_option maxRecDepth 100000 in
theorem fmtUintIn (u : Nat) (hu : u < 4294967296) (w : World) (hc : w.cell? ⟨8, 15, none⟩ = some (.int .u8 4)) (S : ByteArray) (hS : S = ⟨(hexS 8 u).toArray⟩) :
    Calls Tryz.prog 117 #[.int .u64 u, .int .i64 16] w fun e w' => e = .returned (.string S) ∧ Below w.heap.size w w' := by
  have hF := formatBits16 u hu w hc
  rw [← hS] at hF
  clear hS
  go_enter Tryz.func117, Tryz.ntmps117
  go_wp2_with (go_at_call 116; refine hF.mono ?_; rintro e w1 ⟨rfl, hb1⟩)
  go_ret
  exact ⟨rfl, hb1⟩
set_option maxHeartbeats 4000000 in
set_option maxRecDepth 100000 in
theorem fmtUint (u : Nat) (hu : u < 4294967296) (w : World) (hc : w.cell? ⟨8, 15, none⟩ = some (.int .u8 4)) (S : ByteArray) (hS : S = ⟨(hexS 8 u).toArray⟩) :
    Calls Tryz.prog 94 #[.int .u64 u, .int .i64 16] w fun e w' => e = .returned (.string S) ∧ Below w.heap.size w w' := by
  have hF := fmtUintIn u hu w hc S hS
  clear hS
  go_enter Tryz.func94, Tryz.ntmps94
  go_wp2_with (go_at_call 117; refine hF.mono ?_; rintro e w1 ⟨rfl, hb1⟩)
  go_ret
  exact ⟨rfl, hb1⟩

set_option maxHeartbeats 400000 in
set_option maxRecDepth 100000 in
theorem implNumberText (a : Nat) (ha : a < 2 ^ 32) (w : World) (hc : w.cell? ⟨8, 15, none⟩ = some (.int .u8 4)) :
    Calls Tryz.prog 75 #[.float .f32 a] w fun e w' => e = .returned (.string ⟨(numText a).toArray⟩) ∧ Below w.heap.size w w' := by
  have hbits : ∀ x w, (callFunc 82 #[.float .f32 x]).run Tryz.prog w = .ok (.value (.int .u32 x)) w := fun x w => by kernel_rfl
  by_cases na : Flt.NaN Ieee.single a
  · have h1 : FloatKind.f32.format.order a a = none := order_nan .f32 (Or.inl na)
    have hT : (⟨#[55, 102, 99, 48, 48, 48, 48, 48]⟩ : ByteArray) = ⟨(numText a).toArray⟩ := by
      unfold numText canonB
      rw [if_pos na]
      decide +kernel
    rw [← hT]
    clear na hT
    go_enter Tryz.func75, Tryz.ntmps75
    go_wp2
    go_ret
    exact ⟨rfl, Below.refl _ _⟩
  · have h1 : FloatKind.f32.format.order a a = some .eq := order_self .f32 na
    have ha' : a < 4294967296 := by simpa using ha
    have hlen := hexS_length_le 8 a
    obtain ⟨n, hn⟩ : ∃ n, n = (hexS 8 a).length := ⟨_, rfl⟩
    obtain ⟨S, hS⟩ : ∃ S : ByteArray, S = ⟨(hexS 8 a).toArray⟩ := ⟨_, rfl⟩
    have hF := fmtUint a ha' w hc S hS
    have hsz : S.size = n := by rw [hS, hn]; rfl
    have hn8 : n ≤ 8 := by omega
    obtain ⟨c, hcn⟩ : ∃ c : Nat, c + n = 8 := ⟨8 - n, by omega⟩
    have hT : (⟨(Lib.repeatL [48] c).toArray⟩ : ByteArray) ++ S = ⟨(numText a).toArray⟩ := by
      have h := hexS_pad 8 a (by omega) ha'
      unfold numText canonB
      rw [if_neg na, hS, str_app, repeatL_zero48, ← h, ← hn, show 8 - n = c by omega]
    rw [← hT]
    obtain ⟨R, hR⟩ : ∃ R : ByteArray, R = ⟨(Lib.repeatL [48] c).toArray⟩ := ⟨_, rfl⟩
    have hRz : R.size = c := by rw [hR, size_of_list, repeatL_zero48]; simp
    rw [← hR]
    have hrep : ∀ w, Calls Tryz.prog 95 #[.string ⟨#[48]⟩, .int .i64 (8 - (n : Int))] w fun e w' => e = .returned (.string R) ∧ Below w.heap.size w w' := fun w => by
      have h := Tryz.strings_Repeat ⟨#[48]⟩ c w (by omega) (by have : (⟨#[48]⟩ : ByteArray).size = 1 := rfl; rw [this]; omega)
      rw [show (8 - (n : Int)) = (c : Int) by omega, hR]
      exact h
    have hm : ∀ n, IntKind.u64.wrap (IntKind.u32.wrap n) = IntKind.u32.wrap n := fun n => by
      rw [IntKind.wrap_u64]; simp [IntKind.wrap, IntKind.signed, IntKind.bits]; omega
    have hA := Lib.hid na
    clear na hT hS hlen hn hR
    go_enter Tryz.func75, Tryz.ntmps75
    go_wp2_with (first
      | (go_at_call 94; with_reducible refine hF.mono ?_; rintro e w1 ⟨rfl, hb1⟩)
      | (go_at_call 95; with_reducible refine calls_args (b := #[.string ⟨#[48]⟩, .int .i64 (8 - (n : Int))]) (by kernel_rfl) ?_; with_reducible refine (hrep _).mono ?_; rintro e w2 ⟨rfl, hb2⟩))
    go_ret
    exact ⟨rfl, hb1.trans (hb2.mono hb1.size)⟩

end Go.Proofs.YtekfmjddlemboaaGreatDoor

/-! More contracts of the shelf at this translation, in plain words: written by the kit's lay-plain. -/
namespace Go.Proofs
open Go.Shelf
def Tryz.lays156_ren : Go.Shelf.Ren := ⟨fun | 156 => 76 | 165 => 96 | 166 => 97 | 169 => 98 | 240 => 121 | 241 => 122 | 276 => 138 | 277 => 139 | n => n, fun | 31 => 57 | 9 => 9 | 3 => 3 | 4 => 4 | 0 => 0 | 20 => 20 | 72 => 121 | 76 => 123 | 70 => 119 | 37 => 22 | 75 => 97 | 127 => 147 | 164 => 164 | 5 => 5 | 80 => 125 | n => n, fun | n => n⟩
theorem Tryz.lays156 : Go.Proofs.Lays.n156 Tryz.prog Tryz.lays156_ren := {
  mixed := by kernel_rfl
  f156 := Tryz.func76.trans (congrArg some (by kernel_rfl))
  f165 := Tryz.func96.trans (congrArg some (by kernel_rfl))
  f166 := Tryz.func97.trans (congrArg some (by kernel_rfl))
  f169 := Tryz.func98.trans (congrArg some (by kernel_rfl))
  f240 := Tryz.func121.trans (congrArg some (by kernel_rfl))
  f241 := Tryz.func122.trans (congrArg some (by kernel_rfl))
  f276 := Tryz.func138.trans (congrArg some (by kernel_rfl))
  f277 := Tryz.func139.trans (congrArg some (by kernel_rfl))
  t0 := Tryz.underlying0
  a0 := Tryz.isAgg0
  z0 := Tryz.sizeOf0
  v0 := Tryz.zeroValue0
  t3 := Tryz.underlying3
  a3 := Tryz.isAgg3
  z3 := Tryz.sizeOf3
  v3 := Tryz.zeroValue3
  t4 := Tryz.underlying4
  a4 := Tryz.isAgg4
  z4 := Tryz.sizeOf4
  v4 := Tryz.zeroValue4
  t9 := Tryz.underlying9
  a9 := Tryz.isAgg9
  z9 := Tryz.sizeOf9
  v9 := Tryz.zeroValue9
  t20 := Tryz.underlying20
  a20 := Tryz.isAgg20
  z20 := Tryz.sizeOf20
  v20 := Tryz.zeroValue20
  t31 := Tryz.underlying57
  a31 := Tryz.isAgg57
  z31 := Tryz.sizeOf57
  v31 := Tryz.zeroValue57
  t37 := Tryz.underlying22
  a37 := Tryz.isAgg22
  z37 := Tryz.sizeOf22
  v37 := Tryz.zeroValue22
  t70 := Tryz.underlying119
  a70 := Tryz.isAgg119
  z70 := Tryz.sizeOf119
  v70 := Tryz.zeroValue119
  t72 := Tryz.underlying121
  a72 := Tryz.isAgg121
  z72 := Tryz.sizeOf121
  v72 := Tryz.zeroValue121
  t75 := Tryz.underlying97
  a75 := Tryz.isAgg97
  z75 := Tryz.sizeOf97
  v75 := Tryz.zeroValue97
  t76 := Tryz.underlying123
  a76 := Tryz.isAgg123
  z76 := Tryz.sizeOf123
  v76 := Tryz.zeroValue123
  t127 := Tryz.underlying147
  a127 := Tryz.isAgg147
  z127 := Tryz.sizeOf147
  v127 := Tryz.zeroValue147
  t164 := Tryz.underlying164
  a164 := Tryz.isAgg164
  z164 := Tryz.sizeOf164
  v164 := Tryz.zeroValue164 }
theorem Tryz.Builder_Extra_156 : Builder.Extra Tryz.prog Tryz.lays156_ren := {
  sizeBuilder := by kernel_rfl
  liesBuilder := by kernel_rfl
  t5 := Tryz.underlying5
  a5 := Tryz.isAgg5
  z5 := Tryz.sizeOf5
  v5 := Tryz.zeroValue5
  infoByte := by kernel_rfl
  cellsByte := by kernel_rfl
  sizeByte := by kernel_rfl
  neB5 := by decide }
open Go.RowKit in
theorem Tryz.strings_Join (bk o c : Nat) (xs : List ByteArray) (sep : ByteArray) (w : World) (hcells : ∀ (j : Nat) x, xs[j]? = some x → w.cell? ⟨bk, o + j, none⟩ = some (.string x)) (hbk : bk < w.heap.size) (hN : xs.length ≤ 140737488355328) (hcap : xs.length ≤ c) (hlen : (Lib.join (xs.map (·.data.toList)) sep.data.toList).length ≤ 140737488355328) :
    Calls Tryz.prog 76 #[.slice (some ⟨bk, o, none⟩) xs.length c, .string sep] w fun e w' => e = .returned (.string ⟨(Lib.join (xs.map (·.data.toList)) sep.data.toList).toArray⟩) ∧ Below w.heap.size w w' := Any.strings_Join Tryz.lays156 Tryz.Builder_Extra_156 bk o c xs sep w hcells hbk hN hcap hlen
open Go.RowKit in
theorem Tryz.strconv_toError_syntax (fn s : ByteArray) (base bits : Int) (ev : Value) (w : World) (hlim : s.size ≤ 281474976710656) (hv : w.cell? ⟨2, 0, none⟩ = some ev) (hev : ev = .nilIface ∨ ∃ te pe, ev = .iface te pe) :
    Calls Tryz.prog 90 #[.string fn, .string s, .int .i64 base, .int .i64 bits, .iface 134 (.int .i64 2)] w fun e w' => ∃ N, e = .returned (.iface 135 (.pointer (some ⟨N, 0, none⟩))) ∧ w.heap.size ≤ N ∧ w'.heap[N]? = some (.cells #[.string fn, .string s, ev] 154 (0, 0)) ∧ Below w.heap.size w w' := Any.strconv_toError_syntax Tryz.laysC245 fn s base bits ev w hlim hv hev
def Tryz.laysC174_ren : Go.Shelf.Ren := ⟨fun | 174 => 71 | 247 => 89 | 245 => 90 | 287 => 108 | 279 => 109 | 280 => 110 | 281 => 111 | 282 => 112 | 321 => 126 | 322 => 127 | 316 => 128 | 171 => 40 | 205 => 129 | 243 => 74 | 246 => 91 | 283 => 113 | 284 => 114 | 285 => 115 | 286 => 116 | 129 => 131 | 317 => 130 | 318 => 132 | 319 => 133 | 320 => 134 | 337 => 140 | 338 => 141 | n => n, fun | 9 => 9 | 3 => 3 | 2 => 2 | 75 => 97 | 85 => 98 | 4 => 4 | 167 => 134 | 5 => 5 | 53 => 92 | 175 => 114 | 46 => 128 | 168 => 135 | 37 => 22 | 0 => 0 | 210 => 154 | 21 => 21 | 127 => 147 | 145 => 173 | 143 => 171 | 171 => 138 | 173 => 141 | 212 => 157 | 51 => 107 | 20 => 20 | 213 => 158 | 232 => 175 | 233 => 176 | 80 => 125 | n => n, fun | 15 => 2 | 16 => 3 | 17 => 4 | 18 => 7 | 19 => 8 | n => n⟩
theorem Tryz.laysC174 : Go.Proofs.LaysC.n174 Tryz.prog Tryz.laysC174_ren := {
  mixed := by kernel_rfl
  f129 := Tryz.func131.trans (congrArg some (by kernel_rfl))
  f171 := Tryz.func40.trans (congrArg some (by kernel_rfl))
  f174 := Tryz.func71.trans (congrArg some (by kernel_rfl))
  f205 := Tryz.func129.trans (congrArg some (by kernel_rfl))
  f243 := Tryz.func74.trans (congrArg some (by kernel_rfl))
  f245 := Tryz.func90.trans (congrArg some (by kernel_rfl))
  f246 := Tryz.func91.trans (congrArg some (by kernel_rfl))
  f247 := Tryz.func89.trans (congrArg some (by kernel_rfl))
  f279 := Tryz.func109.trans (congrArg some (by kernel_rfl))
  f280 := Tryz.func110.trans (congrArg some (by kernel_rfl))
  f281 := Tryz.func111.trans (congrArg some (by kernel_rfl))
  f282 := Tryz.func112.trans (congrArg some (by kernel_rfl))
  f283 := Tryz.func113.trans (congrArg some (by kernel_rfl))
  f284 := Tryz.func114.trans (congrArg some (by kernel_rfl))
  f285 := Tryz.func115.trans (congrArg some (by kernel_rfl))
  f286 := Tryz.func116.trans (congrArg some (by kernel_rfl))
  f287 := Tryz.func108.trans (congrArg some (by kernel_rfl))
  f316 := Tryz.func128.trans (congrArg some (by kernel_rfl))
  f317 := Tryz.func130.trans (congrArg some (by kernel_rfl))
  f318 := Tryz.func132.trans (congrArg some (by kernel_rfl))
  f319 := Tryz.func133.trans (congrArg some (by kernel_rfl))
  f320 := Tryz.func134.trans (congrArg some (by kernel_rfl))
  f321 := Tryz.func126.trans (congrArg some (by kernel_rfl))
  f322 := Tryz.func127.trans (congrArg some (by kernel_rfl))
  f337 := Tryz.func140.trans (congrArg some (by kernel_rfl))
  f338 := Tryz.func141.trans (congrArg some (by kernel_rfl))
  t0 := Tryz.underlying0
  a0 := Tryz.isAgg0
  z0 := Tryz.sizeOf0
  v0 := Tryz.zeroValue0
  t2 := Tryz.underlying2
  a2 := Tryz.isAgg2
  z2 := Tryz.sizeOf2
  v2 := Tryz.zeroValue2
  t3 := Tryz.underlying3
  a3 := Tryz.isAgg3
  z3 := Tryz.sizeOf3
  v3 := Tryz.zeroValue3
  t4 := Tryz.underlying4
  a4 := Tryz.isAgg4
  z4 := Tryz.sizeOf4
  v4 := Tryz.zeroValue4
  t5 := Tryz.underlying5
  a5 := Tryz.isAgg5
  z5 := Tryz.sizeOf5
  v5 := Tryz.zeroValue5
  t9 := Tryz.underlying9
  a9 := Tryz.isAgg9
  z9 := Tryz.sizeOf9
  v9 := Tryz.zeroValue9
  t20 := Tryz.underlying20
  a20 := Tryz.isAgg20
  z20 := Tryz.sizeOf20
  v20 := Tryz.zeroValue20
  t21 := Tryz.underlying21
  a21 := Tryz.isAgg21
  z21 := Tryz.sizeOf21
  v21 := Tryz.zeroValue21
  t37 := Tryz.underlying22
  a37 := Tryz.isAgg22
  z37 := Tryz.sizeOf22
  v37 := Tryz.zeroValue22
  t46 := Tryz.underlying128
  a46 := Tryz.isAgg128
  z46 := Tryz.sizeOf128
  v46 := Tryz.zeroValue128
  t51 := Tryz.underlying107
  a51 := Tryz.isAgg107
  z51 := Tryz.sizeOf107
  v51 := Tryz.zeroValue107
  t53 := Tryz.underlying92
  a53 := Tryz.isAgg92
  z53 := Tryz.sizeOf92
  v53 := Tryz.zeroValue92
  t75 := Tryz.underlying97
  a75 := Tryz.isAgg97
  z75 := Tryz.sizeOf97
  v75 := Tryz.zeroValue97
  t85 := Tryz.underlying98
  a85 := Tryz.isAgg98
  z85 := Tryz.sizeOf98
  v85 := Tryz.zeroValue98
  t127 := Tryz.underlying147
  a127 := Tryz.isAgg147
  z127 := Tryz.sizeOf147
  v127 := Tryz.zeroValue147
  t143 := Tryz.underlying171
  a143 := Tryz.isAgg171
  z143 := Tryz.sizeOf171
  v143 := Tryz.zeroValue171
  t145 := Tryz.underlying173
  a145 := Tryz.isAgg173
  z145 := Tryz.sizeOf173
  v145 := Tryz.zeroValue173
  t167 := Tryz.underlying134
  a167 := Tryz.isAgg134
  z167 := Tryz.sizeOf134
  v167 := Tryz.zeroValue134
  t168 := Tryz.underlying135
  a168 := Tryz.isAgg135
  z168 := Tryz.sizeOf135
  v168 := Tryz.zeroValue135
  t171 := Tryz.underlying138
  a171 := Tryz.isAgg138
  z171 := Tryz.sizeOf138
  v171 := Tryz.zeroValue138
  t173 := Tryz.underlying141
  a173 := Tryz.isAgg141
  z173 := Tryz.sizeOf141
  v173 := Tryz.zeroValue141
  t175 := Tryz.underlying114
  a175 := Tryz.isAgg114
  z175 := Tryz.sizeOf114
  v175 := Tryz.zeroValue114
  t210 := Tryz.underlying154
  a210 := Tryz.isAgg154
  z210 := Tryz.sizeOf154
  v210 := Tryz.zeroValue154
  t212 := Tryz.underlying157
  a212 := Tryz.isAgg157
  z212 := Tryz.sizeOf157
  v212 := Tryz.zeroValue157
  t213 := Tryz.underlying158
  a213 := Tryz.isAgg158
  z213 := Tryz.sizeOf158
  t232 := Tryz.underlying175
  a232 := Tryz.isAgg175
  z232 := Tryz.sizeOf175
  v232 := Tryz.zeroValue175
  t233 := Tryz.underlying176
  a233 := Tryz.isAgg176
  z233 := Tryz.sizeOf176
  v233 := Tryz.zeroValue176
  g15 := by kernel_rfl
  g16 := by kernel_rfl
  g17 := by kernel_rfl
  g18 := by kernel_rfl
  g19 := by kernel_rfl
  t80 := Tryz.underlying125
  a80 := Tryz.isAgg125
  z80 := Tryz.sizeOf125
  v80 := Tryz.zeroValue125
  i0 := by kernel_rfl
  i2 := by kernel_rfl
  i3 := by kernel_rfl
  i4 := by kernel_rfl
  i5 := by kernel_rfl
  i9 := by kernel_rfl
  i20 := by kernel_rfl
  i21 := by kernel_rfl
  i37 := by kernel_rfl
  i46 := by kernel_rfl
  i51 := by kernel_rfl
  i53 := by kernel_rfl
  i75 := by kernel_rfl
  i80 := by kernel_rfl
  i85 := by kernel_rfl
  i127 := by kernel_rfl
  i143 := by kernel_rfl
  i145 := by kernel_rfl
  i167 := by kernel_rfl
  i168 := by kernel_rfl
  i171 := by kernel_rfl
  i173 := by kernel_rfl
  i175 := by kernel_rfl
  i210 := by kernel_rfl
  i212 := by kernel_rfl
  i232 := by kernel_rfl
  i233 := by kernel_rfl
  m15 := by kernel_rfl
  m16 := by kernel_rfl
  m17 := by kernel_rfl
  m18 := by kernel_rfl
  m19 := by kernel_rfl
  c0 := by kernel_rfl
  c2 := by kernel_rfl
  c3 := by kernel_rfl
  c4 := by kernel_rfl
  c5 := by kernel_rfl
  c9 := by kernel_rfl
  c20 := by kernel_rfl
  c21 := by kernel_rfl
  c37 := by kernel_rfl
  c46 := by kernel_rfl
  c51 := by kernel_rfl
  c53 := by kernel_rfl
  c75 := by kernel_rfl
  c80 := by kernel_rfl
  c85 := by kernel_rfl
  c127 := by kernel_rfl
  c143 := by kernel_rfl
  c145 := by kernel_rfl
  c167 := by kernel_rfl
  c168 := by kernel_rfl
  c171 := by kernel_rfl
  c173 := by kernel_rfl
  c175 := by kernel_rfl
  c210 := by kernel_rfl
  c212 := by kernel_rfl
  c213 := by kernel_rfl
  c232 := by kernel_rfl
  c233 := by kernel_rfl }
open Go.RowKit in
theorem Tryz.strconv_ParseInt_10_at8_ok (s : ByteArray) (hmax : s.size ≤ 9223372036854775806) (v : Int) (h : Lib.parseIntB 8 s.data.toList = .ok v) (w : World) :
    Calls Tryz.prog 71 #[.string s, .int .i64 10, .int .i64 8] w fun e w' => e = .returned (.tuple #[.int .i64 v, .nilIface]) ∧ (w' = w ∨ ∃ t, w' = Lib.bytesWorld w 5 t) := Any.strconv_ParseInt_10_at8_ok Tryz.laysC174 s hmax v h w
open Go.RowKit in
theorem Tryz.strconv_ParseInt_10_at8_range (s : ByteArray) (hlim : s.size ≤ 281474976710656) (h : Lib.parseIntB 8 s.data.toList = .range) (ev : Value) (w : World) (hv : w.cell? ⟨3, 0, none⟩ = some ev) (hev : ev = .nilIface ∨ ∃ te pe, ev = .iface te pe) :
    Calls Tryz.prog 71 #[.string s, .int .i64 10, .int .i64 8] w fun e w' => ∃ N, e = .returned (.tuple #[.int .i64 (Lib.intSat 8 s.data.toList), .iface 135 (.pointer (some ⟨N, 0, none⟩))]) ∧ w.heap.size ≤ N ∧ w'.heap[N]? = some (.cells #[.string ⟨#[80, 97, 114, 115, 101, 73, 110, 116]⟩, .string s, ev] 154 (0, 0)) ∧ Below w.heap.size w w' := Any.strconv_ParseInt_10_at8_range Tryz.laysC174 s hlim h ev w hv hev
def Tryz.lays146_ren : Go.Shelf.Ren := ⟨fun | 146 => 35 | 221 => 69 | 268 => 85 | 138 => 86 | 143 => 87 | 195 => 101 | 197 => 102 | 218 => 103 | 219 => 88 | 260 => 123 | 217 => 104 | 225 => 105 | 224 => 106 | 267 => 107 | 266 => 124 | 314 => 125 | n => n, fun | 9 => 9 | 31 => 57 | 3 => 3 | 4 => 4 | 0 => 0 | 105 => 130 | 21 => 21 | 5 => 5 | 46 => 128 | 119 => 167 | 139 => 170 | 138 => 169 | 146 => 148 | 51 => 107 | n => n, fun | 1 => 1 | 3 => 5 | 4 => 6 | n => n⟩
theorem Tryz.lays146 : Go.Proofs.Lays.n146 Tryz.prog Tryz.lays146_ren := {
  mixed := by kernel_rfl
  f138 := Tryz.func86.trans (congrArg some (by kernel_rfl))
  f143 := Tryz.func87.trans (congrArg some (by kernel_rfl))
  f146 := Tryz.func35.trans (congrArg some (by kernel_rfl))
  f195 := Tryz.func101.trans (congrArg some (by kernel_rfl))
  f197 := Tryz.func102.trans (congrArg some (by kernel_rfl))
  f217 := Tryz.func104.trans (congrArg some (by kernel_rfl))
  f218 := Tryz.func103.trans (congrArg some (by kernel_rfl))
  f219 := Tryz.func88.trans (congrArg some (by kernel_rfl))
  f221 := Tryz.func69.trans (congrArg some (by kernel_rfl))
  f224 := Tryz.func106.trans (congrArg some (by kernel_rfl))
  f225 := Tryz.func105.trans (congrArg some (by kernel_rfl))
  f260 := Tryz.func123.trans (congrArg some (by kernel_rfl))
  f266 := Tryz.func124.trans (congrArg some (by kernel_rfl))
  f267 := Tryz.func107.trans (congrArg some (by kernel_rfl))
  f268 := Tryz.func85.trans (congrArg some (by kernel_rfl))
  f314 := Tryz.func125.trans (congrArg some (by kernel_rfl))
  t0 := Tryz.underlying0
  a0 := Tryz.isAgg0
  z0 := Tryz.sizeOf0
  v0 := Tryz.zeroValue0
  t3 := Tryz.underlying3
  a3 := Tryz.isAgg3
  z3 := Tryz.sizeOf3
  v3 := Tryz.zeroValue3
  t4 := Tryz.underlying4
  a4 := Tryz.isAgg4
  z4 := Tryz.sizeOf4
  v4 := Tryz.zeroValue4
  t5 := Tryz.underlying5
  a5 := Tryz.isAgg5
  z5 := Tryz.sizeOf5
  v5 := Tryz.zeroValue5
  t9 := Tryz.underlying9
  a9 := Tryz.isAgg9
  z9 := Tryz.sizeOf9
  v9 := Tryz.zeroValue9
  t21 := Tryz.underlying21
  a21 := Tryz.isAgg21
  z21 := Tryz.sizeOf21
  v21 := Tryz.zeroValue21
  t31 := Tryz.underlying57
  a31 := Tryz.isAgg57
  z31 := Tryz.sizeOf57
  v31 := Tryz.zeroValue57
  t46 := Tryz.underlying128
  a46 := Tryz.isAgg128
  z46 := Tryz.sizeOf128
  v46 := Tryz.zeroValue128
  t51 := Tryz.underlying107
  a51 := Tryz.isAgg107
  z51 := Tryz.sizeOf107
  v51 := Tryz.zeroValue107
  t105 := Tryz.underlying130
  a105 := Tryz.isAgg130
  z105 := Tryz.sizeOf130
  v105 := Tryz.zeroValue130
  t119 := Tryz.underlying167
  a119 := Tryz.isAgg167
  z119 := Tryz.sizeOf167
  t138 := Tryz.underlying169
  a138 := Tryz.isAgg169
  z138 := Tryz.sizeOf169
  v138 := Tryz.zeroValue169
  t139 := Tryz.underlying170
  a139 := Tryz.isAgg170
  z139 := Tryz.sizeOf170
  v139 := Tryz.zeroValue170
  t146 := Tryz.underlying148
  a146 := Tryz.isAgg148
  z146 := Tryz.sizeOf148
  v146 := Tryz.zeroValue148
  g1 := by kernel_rfl
  g3 := by kernel_rfl
  g4 := by kernel_rfl }
open Go.RowKit Go.Lib in
theorem Tryz.strings_Split (s sep : ByteArray) (m : Int) (w : World) (hs : s.size < 4294967281) (hm : w.cell? ⟨1, 0, none⟩ = some (.int .i64 m)) (h1 : 1 ≤ sep.size) :
    Calls Tryz.prog 35 #[.string s, .string sep] w fun e w' =>
      e = .returned (.slice (some ⟨w.heap.size, 0, none⟩) (Lib.countB s sep + 1) (Lib.countB s sep + 1)) ∧ w' = w.alloc (.cells ((Lib.splitB sep 0 (Lib.countB s sep) s).map Value.string).toArray 9) := Any.strings_Split Tryz.lays146 (by kernel_rfl) s sep m w hs hm h1
end Go.Proofs

/-! Numbers that are read from texts; plain, no program in sight. -/
set_option linter.unusedVariables false
set_option linter.unusedSimpArgs false
namespace Go.Proofs.YtekfmjddlemboaaGreatDoor
open Go.RowKit Go.Lib

/-- The bits of the number with a text. -/
def readOf (l : List UInt8) : Option Nat := if l.length = 8 then (hexV 0 l).bind fun v => if canonB v = v then some v else none else none
/-- The value of digits of 32 bits at most, one digit at least. -/
def hexUE (l : List UInt8) : Option Nat := if l = [] then none else hexU 0 l

theorem canonB_idem (a : Nat) : canonB (canonB a) = canonB a := by
  unfold canonB
  split
  · rw [if_pos]
    decide +kernel
  · rfl
theorem canonB_lt {a : Nat} (h : a < 2 ^ 32) : canonB a < 2 ^ 32 := by
  unfold canonB
  split
  · decide
  · exact h
theorem digU_of_digOf {c d : Nat} (h : digOf c = some d) : digU c = some d := by
  unfold digOf at h
  unfold digU
  split at h
  · rename_i h1
    rw [if_pos h1]; exact h
  · rename_i h1
    rw [if_neg h1]
    split at h
    · rename_i h2
      rw [if_pos h2]; exact h
    · exact absurd h (by simp)
theorem hexV_le : ∀ (l : List UInt8) (a v : Nat), hexV a l = some v → a ≤ v
  | [], a, v, h => by simp [hexV] at h; omega
  | c :: l, a, v, h => by
    rw [hexV_cons] at h
    cases hd : digOf c.toNat with
    | none => rw [hd] at h; simp at h
    | some d =>
      rw [hd] at h
      have := hexV_le l _ _ h
      omega
theorem hexU_of_hexV : ∀ (l : List UInt8) (a v : Nat), hexV a l = some v → v ≤ 4294967295 → hexU a l = some v
  | [], a, v, h, _ => h
  | c :: l, a, v, h, hv => by
    rw [hexV_cons] at h
    cases hd : digOf c.toNat with
    | none => rw [hd] at h; simp at h
    | some d =>
      rw [hd] at h
      have h' : hexV (a * 16 + d) l = some v := h
      have := hexV_le l _ _ h'
      show (match digU c.toNat with | some d => if a * 16 + d ≤ 4294967295 then hexU (a * 16 + d) l else none | none => none) = some v
      rw [digU_of_digOf hd]
      show (if a * 16 + d ≤ 4294967295 then hexU (a * 16 + d) l else none) = some v
      rw [if_pos (by omega)]
      exact hexU_of_hexV l _ _ h' hv
theorem hexU_le : ∀ (l : List UInt8) (a v : Nat), hexU a l = some v → a ≤ 4294967295 → v ≤ 4294967295
  | [], a, v, h, ha => by simp [hexU] at h; omega
  | c :: l, a, v, h, ha => by
    have h' : (match digU c.toNat with | some d => if a * 16 + d ≤ 4294967295 then hexU (a * 16 + d) l else none | none => none) = some v := h
    cases hd : digU c.toNat with
    | none => rw [hd] at h'; simp at h'
    | some d =>
      rw [hd] at h'
      have h2 : (if a * 16 + d ≤ 4294967295 then hexU (a * 16 + d) l else none) = some v := h'
      split at h2
      · exact hexU_le l _ _ h2 (by assumption)
      · exact absurd h2 (by simp)
theorem hexUE_lt {l : List UInt8} {v : Nat} (h : hexUE l = some v) : v < 2 ^ 32 := by
  unfold hexUE at h
  split at h
  · exact absurd h (by simp)
  · have := hexU_le _ _ _ h (by omega)
    omega
theorem hexUE_hexL {v : Nat} (h : v < 2 ^ 32) : hexUE (hexL 8 v) = some v := by
  have h0 : hexL 8 v ≠ [] := fun e => by have := hexL_length 8 v; rw [e] at this; simp at this
  unfold hexUE
  rw [if_neg h0]
  have hv := hexV_hexL 8 v 0 (by simpa using h)
  simp at hv
  exact hexU_of_hexV _ _ _ hv (by omega)
theorem readOf_some {l : List UInt8} {v : Nat} (h : readOf l = some v) : l = numText v ∧ v < 2 ^ 32 ∧ canonB v = v := by
  unfold readOf at h
  split at h
  · rename_i hl
    cases hx : hexV 0 l with
    | none => rw [hx] at h; simp at h
    | some b =>
      rw [hx] at h
      simp only [Option.bind] at h
      split at h
      · rename_i hc
        injection h with h
        subst h
        obtain ⟨h1, h2⟩ := hexL_hexV l b hx
        rw [hl] at h1 h2
        refine ⟨?_, by simpa using h1, hc⟩
        unfold numText
        rw [hc]
        exact h2
      · exact absurd h (by simp)
  · exact absurd h (by simp)
theorem readOf_numText {a : Nat} (h : a < 2 ^ 32) : readOf (numText a) = some (canonB a) := by
  have hv := hexV_hexL 8 (canonB a) 0 (by simpa using canonB_lt h)
  simp at hv
  unfold readOf
  rw [if_pos (numText_length a)]
  show (hexV 0 (hexL 8 (canonB a))).bind _ = _
  rw [hv]
  show (if canonB (canonB a) = canonB a then some (canonB a) else none) = _
  rw [if_pos (canonB_idem a)]
/-- What the program makes of it: the value of the digits, and the text of that number held against the text. -/
theorem readOf_by (l : List UInt8) : readOf l = match hexUE l with | some n => if numText n = l then some n else none | none => none := by
  cases hx : hexUE l with
  | none =>
    cases hr : readOf l with
    | none => rfl
    | some v =>
      obtain ⟨h1, h2, h3⟩ := readOf_some hr
      rw [h1] at hx
      unfold numText at hx
      rw [h3, hexUE_hexL h2] at hx
      exact absurd hx (by simp)
  | some n =>
    show _ = if numText n = l then some n else none
    have hn := hexUE_lt hx
    split
    · rename_i h
      subst h
      rw [readOf_numText hn]
      unfold numText at hx
      rw [hexUE_hexL (canonB_lt hn)] at hx
      exact hx
    · rename_i h
      cases hr : readOf l with
      | none => rfl
      | some v =>
        obtain ⟨h1, h2, h3⟩ := readOf_some hr
        exfalso
        apply h
        have : hexUE l = some v := by
          rw [h1]
          unfold numText
          rw [h3, hexUE_hexL h2]
        rw [this] at hx
        injection hx with hx
        rw [← hx, ← h1]
theorem readOf_len {l : List UInt8} (h : l.length ≠ 8) : readOf l = none := if_neg h
end Go.Proofs.YtekfmjddlemboaaGreatDoor

/-! The number of a text: the program's and the reference's. -/
set_option linter.unusedVariables false
set_option linter.unusedSimpArgs false
namespace Go.Proofs.YtekfmjddlemboaaGreatDoor
open Go.RowKit Go.Lib

theorem strNe {a b : ByteArray} (h : ¬ a = b) : (a.toList == b.toList) = false := by
  rw [ByteArray.toList_eq, ByteArray.toList_eq]
  simp only [beq_eq_false_iff_ne, ne_eq]
  exact fun e => h (ByteArray.ext (Array.toList_inj.1 e))
/-- What of Go's library is read. -/
structure Libs (w : World) : Prop where
  db : w.cell? ⟨8, 15, none⟩ = some (.int .u8 4)
  es : ∃ tp p, w.cell? ⟨2, 0, none⟩ = some (.iface tp p)
  er : ∃ tp p, w.cell? ⟨3, 0, none⟩ = some (.iface tp p)
theorem Libs.on {w w' : World} {B : Nat} (h : Libs w) (hb : Below B w w') (hB : w.heap.size ≤ B) : Libs w' := by
  obtain ⟨tp, p, e1⟩ := h.es
  obtain ⟨tq, q, e2⟩ := h.er
  exact ⟨(hb.cell (Nat.lt_of_lt_of_le (World.block_lt_of_cell? _ _ h.db) hB)).trans h.db,
    ⟨tp, p, (hb.cell (Nat.lt_of_lt_of_le (World.block_lt_of_cell? _ _ e1) hB)).trans e1⟩,
    ⟨tq, q, (hb.cell (Nat.lt_of_lt_of_le (World.block_lt_of_cell? _ _ e2) hB)).trans e2⟩⟩

theorem parseUintIn (t : ByteArray) (hmax : t.size ≤ 1048576) (w : World) :
    Calls Tryz.prog 108 #[.string t, .int .i64 16, .int .i64 32] w fun e w' => (∃ v, e = .returned v ∧ uintEnd 134 (hexUE t.data.toList) v) ∧ Below w.heap.size w w' := by
  by_cases h0 : t.size = 0
  · have ht : t = ⟨#[]⟩ := by
      apply ByteArray.ext
      exact Array.eq_empty_of_size_eq_zero h0
    subst ht
    refine (Tryz.internal_strconv_ParseUint_empty 16 32 w).mono fun e w' ⟨he, hw⟩ => ⟨⟨_, he, ?_⟩, by rw [hw]; exact Below.refl _ _⟩
    exact ⟨0, 2, Or.inr rfl, rfl⟩
  · have hne : t.data.toList ≠ [] := fun h => h0 (by rw [Lib.size_eq, h]; rfl)
    refine (parseUint16 (P := Tryz.prog) { Tryz.lays287 with } t h0 (by omega) w).mono fun e w' ⟨he, hw⟩ => ⟨?_, by rw [hw]; exact Lib.bytesWorld_below _ _ _⟩
    unfold hexUE
    rw [if_neg hne]
    exact he

set_option maxHeartbeats 1000000 in
set_option maxRecDepth 100000 in
theorem parseUintPub (t : ByteArray) (hmax : t.size ≤ 1048576) (w : World) (hL : Libs w) :
    Calls Tryz.prog 92 #[.string t, .int .i64 16, .int .i64 32] w fun e w' => (∃ v, e = .returned v ∧ match hexUE t.data.toList with | some n => v = .tuple #[.int .u64 n, .nilIface] | none => ∃ M T p, v = .tuple #[.int .u64 M, .iface T p]) ∧ Below w.heap.size w w' := by
  have hI := parseUintIn t hmax w
  cases hx : hexUE t.data.toList with
  | some n =>
    rw [hx] at hI
    have hI' : Calls Tryz.prog 108 #[.string t, .int .i64 16, .int .i64 32] w fun e w' => e = .returned (.tuple #[.int .u64 n, .nilIface]) ∧ Below w.heap.size w w' := hI.mono fun e w' ⟨⟨v, h1, h2⟩, h3⟩ => ⟨by rw [h1]; exact congrArg _ h2, h3⟩
    clear hI hx
    go_enter Tryz.func92, Tryz.ntmps92
    go_wp2_with (go_at_call 108; with_reducible refine hI'.mono ?_; rintro e w1 ⟨rfl, hb1⟩)
    go_ret2
    exact ⟨⟨_, rfl, rfl⟩, hb1⟩
  | none =>
    rw [hx] at hI
    have hI' : Calls Tryz.prog 108 #[.string t, .int .i64 16, .int .i64 32] w fun e w' => (∃ M, e = .returned (.tuple #[.int .u64 M, .iface 134 (.int .i64 1)]) ∨ e = .returned (.tuple #[.int .u64 M, .iface 134 (.int .i64 2)])) ∧ Below w.heap.size w w' := hI.mono fun e w' ⟨⟨v, h1, M, c, hc, h2⟩, h3⟩ => ⟨⟨M, by
      rcases hc with rfl | rfl
      · exact Or.inl (by rw [h1, h2])
      · exact Or.inr (by rw [h1, h2])⟩, h3⟩
    clear hI hx
    go_enter Tryz.func92, Tryz.ntmps92
    go_wp2_with fail
    go_at_call 108
    with_reducible refine hI'.mono ?_
    rintro e w1 ⟨⟨M, rfl | rfl⟩, hb1⟩
    · obtain ⟨tp, p, hev⟩ := (hL.on hb1 (Nat.le_refl _)).er
      have hT := Tryz.strconv_toError_range ⟨#[80, 97, 114, 115, 101, 85, 105, 110, 116]⟩ t 16 32 (.iface tp p) w1 (by omega) hev (Or.inr ⟨tp, p, rfl⟩)
      go_wp2_with fail
      go_at_call 90
      with_reducible refine calls_args (b := #[.string ⟨#[80, 97, 114, 115, 101, 85, 105, 110, 116]⟩, .string t, .int .i64 16, .int .i64 32, .iface 134 (.int .i64 1)]) (by kernel_rfl) ?_
      with_reducible refine hT.mono ?_
      rintro e w2 ⟨N, rfl, _, _, hb2⟩
      go_wp2
      go_ret2
      exact ⟨⟨_, rfl, _, _, _, rfl⟩, hb1.trans (hb2.mono hb1.size)⟩
    · obtain ⟨tp, p, hev⟩ := (hL.on hb1 (Nat.le_refl _)).es
      have hT := Tryz.strconv_toError_syntax ⟨#[80, 97, 114, 115, 101, 85, 105, 110, 116]⟩ t 16 32 (.iface tp p) w1 (by omega) hev (Or.inr ⟨tp, p, rfl⟩)
      go_wp2_with fail
      go_at_call 90
      with_reducible refine calls_args (b := #[.string ⟨#[80, 97, 114, 115, 101, 85, 105, 110, 116]⟩, .string t, .int .i64 16, .int .i64 32, .iface 134 (.int .i64 2)]) (by kernel_rfl) ?_
      with_reducible refine hT.mono ?_
      rintro e w2 ⟨N, rfl, _, _, hb2⟩
      go_wp2
      go_ret2
      exact ⟨⟨_, rfl, _, _, _, rfl⟩, hb1.trans (hb2.mono hb1.size)⟩

/-- What ReadNumber hands back. -/
def readRes (o : Option Nat) : Value := match o with | some v => .tuple #[.float .f32 v, .int .i64 0] | none => .tuple #[.float .f32 0, .int .i64 5]

set_option maxHeartbeats 1000000 in
set_option maxRecDepth 100000 in
theorem implReadNumber (t : ByteArray) (hmax : t.size ≤ 1048576) (w : World) (hL : Libs w) :
    Calls Tryz.prog 73 #[.string t] w fun e w' => e = .returned (readRes (readOf t.data.toList)) ∧ Below w.heap.size w w' := by
  have hfrom : ∀ x w, (callFunc 93 #[.int .u32 x]).run Tryz.prog w = .ok (.value (.float .f32 x.toNat)) w := fun x w => by kernel_rfl
  have hI := parseUintPub t hmax w hL
  cases hx : hexUE t.data.toList with
  | none =>
    have hG : readOf t.data.toList = none := by rw [readOf_by, hx]
    rw [hG]
    rw [hx] at hI
    clear hG
    clear hx
    go_enter Tryz.func73, Tryz.ntmps73
    go_wp2_with (go_at_call 92; with_reducible refine hI.mono ?_; rintro e w1 ⟨⟨v, rfl, M, T, p, rfl⟩, hb1⟩)
    go_ret2
    exact ⟨rfl, hb1⟩
  | some n =>
    rw [hx] at hI
    have hI' : Calls Tryz.prog 92 #[.string t, .int .i64 16, .int .i64 32] w fun e w' => e = .returned (.tuple #[.int .u64 n, .nilIface]) ∧ Below w.heap.size w w' := hI.mono fun e w' ⟨⟨v, h1, h2⟩, h3⟩ => ⟨by rw [h1]; exact congrArg _ h2, h3⟩
    have hn := hexUE_lt hx
    have hn2 : n < 4294967296 := by simpa using hn
    have hN := fun w1 h => implNumberText n hn w1 h
    clear hI
    obtain ⟨S, hS⟩ : ∃ S : ByteArray, S = ⟨(numText n).toArray⟩ := ⟨_, rfl⟩
    simp only [← hS] at hN
    have hSl : S.data.toList = numText n := by rw [hS]
    by_cases hq : numText n = t.data.toList
    · have hst : S = t := by
        apply ByteArray.ext
        apply Array.toList_inj.1
        rw [hSl, hq]
      have hG : readOf t.data.toList = some n := by rw [readOf_by, hx]; exact if_pos hq
      rw [hG]
      subst hst
      have HL := Lib.hid hL
      clear hS hSl hq hn hG hL hx
      go_enter Tryz.func73, Tryz.ntmps73
      go_wp2_with (first
        | (go_at_call 92; with_reducible refine hI'.mono ?_; rintro e w1 ⟨rfl, hb1⟩)
        | (go_at_call 75; with_reducible refine (hN _ (HL.out.on hb1 (Nat.le_refl _)).db).mono ?_; rintro e w2 ⟨rfl, hb2⟩))
      go_ret2
      exact ⟨rfl, hb1.trans (hb2.mono hb1.size)⟩
    · have hst : ¬ S = t := fun e => hq (by rw [← hSl, e])
      have hG : readOf t.data.toList = none := by rw [readOf_by, hx]; exact if_neg hq
      rw [hG]
      have HL := Lib.hid hL
      clear hS hSl hq hn hG hL hx
      go_enter Tryz.func73, Tryz.ntmps73
      go_wp2_with (first
        | (go_at_call 92; with_reducible refine hI'.mono ?_; rintro e w1 ⟨rfl, hb1⟩)
        | (go_at_call 75; with_reducible refine (hN _ (HL.out.on hb1 (Nat.le_refl _)).db).mono ?_; rintro e w2 ⟨rfl, hb2⟩))
      · go_ret2
        exact ⟨rfl, hb1.trans (hb2.mono hb1.size)⟩
      · rename_i hbad
        exact absurd (strNe hst) (by rw [Bool.not_eq_false'] at hbad; rw [hbad]; simp)
end Go.Proofs.YtekfmjddlemboaaGreatDoor

/-! What a row's listed tables give: a number's table of bits/TrailingZeros holds 4 at place 15; the powers of ten. -/
namespace Go.Proofs.YtekfmjddlemboaaGreatDoor
open Go.ChangeShapes Go.WideShapes Go.ChangeAt Go.RowKit

theorem debruijn_cell {W : World} {x : String × DataW Unit} {rest : List (String × DataW Unit)} (h : laidMet Tryz.prog (x :: ("math/bits.deBruijn64tab", Rows.laid_math_bits_deBruijn64tab) :: rest) W) :
    W.cell? ⟨8, 15, none⟩ = some (.int .u8 4) := by
  have h1 : Lib.TabIs Tryz.prog W "math/bits.deBruijn64tab" .u8 deBruijn64 :=
    Lib.tabIs_of_head (g := 8) (t := 176) (e := 5) (n := 64) (rest := rest) (by kernel_rfl) (by kernel_rfl) (by kernel_rfl) (by kernel_rfl) (by kernel_rfl) (by kernel_rfl) h.tail
  exact h1.cell (by kernel_rfl) 15 (by decide)
end Go.Proofs.YtekfmjddlemboaaGreatDoor

/-! What a row's listed variables give the readers of texts: the table, the two errors; the powers of ten. -/
namespace Go.Proofs.YtekfmjddlemboaaGreatDoor
open Go.ChangeShapes Go.WideShapes Go.ChangeAt Go.RowKit

theorem star_es : "*" ++ "errors.errorString" = "*errors.errorString" := by decide
theorem row_es : ∀ u, Tryz.prog.typeName? 3 u = some "*errors.errorString" → u = 171 := fun u h =>
  typeName_ptr_named (nm := "errors.errorString") (by rw [star_es]; kernel_rfl) (by kernel_rfl) (by decide) u (by rw [star_es]; exact h)
theorem es_cell {W : World} {rest : List (String × DataW Unit)} (h : laidMet Tryz.prog (("strconv.ErrSyntax", Rows.laid_strconv_ErrSyntax) :: rest) W) : ∃ tp p, W.cell? ⟨2, 0, none⟩ = some (.iface tp p) := by
  obtain ⟨a0, s0, hv0, -, -, -⟩ := laid_sentinel (g := 2) (ti := 97) (tp := 171) (te := 173) (ts := 9) h (by kernel_rfl) (by kernel_rfl) Tryz.underlying97 row_es Tryz.underlying171 Tryz.underlying173 rfl rfl Tryz.underlying9 (by kernel_rfl) (by kernel_rfl)
  have h0 := World.var?_cell (g := 2) (by kernel_rfl) hv0 0
  exact ⟨_, _, by simpa using h0⟩
theorem er_cell {W : World} {rest : List (String × DataW Unit)} (h : laidMet Tryz.prog (("strconv.ErrRange", Rows.laid_strconv_ErrRange) :: rest) W) : ∃ tp p, W.cell? ⟨3, 0, none⟩ = some (.iface tp p) := by
  obtain ⟨a0, s0, hv0, -, -, -⟩ := laid_sentinel (g := 3) (ti := 97) (tp := 171) (te := 173) (ts := 9) h (by kernel_rfl) (by kernel_rfl) Tryz.underlying97 row_es Tryz.underlying171 Tryz.underlying173 rfl rfl Tryz.underlying9 (by kernel_rfl) (by kernel_rfl)
  have h0 := World.var?_cell (g := 3) (by kernel_rfl) hv0 0
  exact ⟨_, _, by simpa using h0⟩
theorem pow10_tab {W : World} {rest : List (String × DataW Unit)} (h : laidMet Tryz.prog (("internal/strconv.uint64pow10", Rows.laid_internal_strconv_uint64pow10) :: rest) W) : Lib.TabIs Tryz.prog W "internal/strconv.uint64pow10" .u64 Lib.pow10Tab :=
  Lib.tabIs_of_head (g := 4) (t := 157) (e := 92) (n := 20) (rest := rest) (by kernel_rfl) (by kernel_rfl) (by kernel_rfl) (by kernel_rfl) (by kernel_rfl) (by kernel_rfl) h
end Go.Proofs.YtekfmjddlemboaaGreatDoor

/-! Texts of lists of numbers; plain, no program in sight. -/
set_option linter.unusedVariables false
set_option linter.unusedSimpArgs false
namespace Go.Proofs.YtekfmjddlemboaaGreatDoor
open Go.RowKit Go.Lib

/-- The texts of n numbers, a blank ahead of each. -/
def tailT (G : Nat → Nat) : Nat → List UInt8
  | 0 => []
  | k + 1 => tailT G k ++ 32 :: numText (G k)
/-- The texts of n numbers, a blank between them. -/
def joinT (G : Nat → Nat) (n : Nat) : List UInt8 := Lib.join ((List.range n).map fun k => numText (G k)) [32]
theorem tail_flat (G : Nat → Nat) : ∀ n, Lib.joinTail [32] ((List.range n).map fun k => numText (G k)) = tailT G n
  | 0 => rfl
  | n + 1 => by
    have ih := tail_flat G n
    unfold Lib.joinTail at ih ⊢
    rw [List.range_succ, List.map_append, List.map_append, List.flatten_append, ih]
    simp [tailT]
theorem tail_join (G : Nat → Nat) (n : Nat) (h : 0 < n) : 32 :: joinT G n = tailT G n := by
  rw [← tail_flat]
  unfold joinT
  obtain ⟨m, rfl⟩ : ∃ m, n = m + 1 := ⟨n - 1, by omega⟩
  rw [List.range_succ_eq_map, List.map_cons, Lib.join_cons]
  simp [Lib.joinTail]
theorem tailT_length (G : Nat → Nat) : ∀ n, (tailT G n).length = 9 * n
  | 0 => rfl
  | n + 1 => by
    show (tailT G n ++ 32 :: numText (G n)).length = _
    rw [List.length_append, tailT_length G n, List.length_cons, numText_length]
    omega
theorem joinT_length (G : Nat → Nat) (n : Nat) (h : 0 < n) : (joinT G n).length + 1 = 9 * n := by
  rw [← tailT_length G n, ← tail_join G n h, List.length_cons]
theorem dec_small {n : Nat} (h : n < 10) : Lib.decDigits n = [UInt8.ofNat (48 + n)] := by
  rw [Lib.decDigits, dif_pos h]
theorem dec_step {n : Nat} (h : ¬ n < 10) : Lib.decDigits n = Lib.decDigits (n / 10) ++ [UInt8.ofNat (48 + n % 10)] := by
  rw [Lib.decDigits, dif_neg h]
theorem dec_two {n : Nat} (h1 : 10 ≤ n) (h2 : n < 100) : Lib.decDigits n = [UInt8.ofNat (48 + n / 10), UInt8.ofNat (48 + n % 10)] := by
  rw [dec_step (by omega), dec_small (by omega)]
  rfl
/-- The cells of the strings of n numbers. -/
def textsV (G : Nat → Nat) (n : Nat) : List Value := (List.range n).map fun k => Value.string ⟨(numText (G k)).toArray⟩
theorem textsV_snoc (G : Nat → Nat) (n : Nat) : textsV G n ++ [.string ⟨(numText (G n)).toArray⟩] = textsV G (n + 1) := by simp [textsV, List.range_succ]
theorem textsV_at {G : Nat → Nat} {n k : Nat} (h : k < n) : (textsV G n)[k]? = some (.string ⟨(numText (G k)).toArray⟩) := by simp [textsV, h]
end Go.Proofs.YtekfmjddlemboaaGreatDoor

/-! The text of a list of numbers, as the program makes it; decimals of small numbers; which lists have no -0. -/
set_option linter.unusedVariables false
set_option linter.unusedSimpArgs false
namespace Go.Proofs.YtekfmjddlemboaaGreatDoor
open Go.RowKit Go.Lib

theorem Tryz.info_str : (Tryz.prog.info? 9).map (fun i => (i.zero, i.size, i.bytes)) = some (some (.string ByteArray.empty), 1, 16) := by kernel_rfl
section
variable {w W : World} {base n g : Nat} {e t : TypeId} {v : Value} {xs : List Value}
theorem ownS_carry (h : w.ownsRow base e 1 v n xs) (hk : ∀ i, base ≤ i → i < w.heap.size → W.heap[i]? = w.heap[i]?) : W.ownsRow base e 1 v n xs := by
  refine ⟨h.1, ?_⟩
  rcases h.2 with h2 | ⟨g, cap, cur, hv, hb, hh, h3⟩
  · exact Or.inl h2
  · refine Or.inr ⟨g, cap, cur, hv, hb, ?_, h3⟩
    have hl := (h.lt g (by rw [hv]; rfl)).2
    rw [hk g hb hl]; exact hh
theorem ownS_shape (h : w.ownsRow base e 1 v n xs) (hn : 0 < n) : ∃ g c, v = .slice (some ⟨g, 0, none⟩) n c ∧ base ≤ g ∧ g < w.heap.size ∧ n ≤ c := by
  have hl := h.lt
  obtain ⟨_, h2⟩ := h
  rcases h2 with ⟨_, h0⟩ | ⟨g, cap, cur, hv, hg, hh, hc, _⟩
  · omega
  · exact ⟨g, cap, hv, hg, (hl g (by rw [hv]; rfl)).2, hc⟩
theorem ownS_below {w0 wr w1 : World} {B : Nat} {o : Obj} (hown : wr.ownsRow base e 1 v n xs) (hBb : B ≤ base) (hB : B ≤ wr.heap.size) (hb : Below B w0 wr) (hg : (wr.alloc o).grownBy w1 v.ownBlock) : Below B w0 w1 := by
  have h1 : Below B w0 (wr.alloc o) := hb.alloc hB o
  refine h1.grown hg (by simp; omega) ?_
  intro k hk
  have := (hown.lt k hk).1
  omega
end

/-- Are all of n numbers +0? -/
def allZ (G : Nat → Nat) : Nat → Bool
  | 0 => true
  | k + 1 => allZ G k && (G k == 0)
theorem allZ_no {G : Nat → Nat} {k n : Nat} (hk : k < n) (h : G k ≠ 0) : allZ G n = false := by
  induction n with
  | zero => omega
  | succ m ih =>
    unfold allZ
    by_cases e : k = m
    · subst e; simp [h]
    · rw [ih (by omega)]; rfl
theorem allZ_step {G : Nat → Nat} {k : Nat} (h : allZ G k = true) (h0 : G k = 0) : allZ G (k + 1) = true := by simp [allZ, h, h0]

set_option maxHeartbeats 1000000 in
set_option maxRecDepth 100000 in
theorem noMinus_any (B off n cap : Nat) (G : Nat → Nat) (w : World) (hn : n ≤ 64) (hz : ∀ k, k < n → G k = 0 ∨ G k = 2147483648)
    (hcells : ∀ k, k < n → w.cell? ⟨B, off + k, none⟩ = some (.float .f32 (G k))) (a : Option Addr) (ha : 0 < n → a = some ⟨B, off, none⟩) :
    Calls Tryz.prog 42 #[.slice a n cap] w fun e w' => e = .returned (.bool (allZ G n)) ∧ w = w' := by
  have hcv := fun x w h => run_wide (P := Tryz.prog) 25 105 x w (by kernel_rfl) (by kernel_rfl) h
  have hcv0 := fun w => hcv 0 w (by decide +kernel)
  have hcv1 := fun w => hcv 2147483648 w (by decide +kernel)
  have n0 : Flt.neg Ieee.double (Flt.widen 0) = false := by decide +kernel
  have n1 : Flt.neg Ieee.double (Flt.widen 2147483648) = true := by decide +kernel
  have z0 : FloatKind.f32.format.order 0 0 = some .eq := by decide +kernel
  have z1 : FloatKind.f32.format.order 2147483648 0 = some .eq := by decide +kernel
  have l0 := widen_lt 0
  have l1 := widen_lt 2147483648
  generalize Flt.widen 0 = W0 at hcv0 n0 l0
  generalize Flt.widen 2147483648 = W1 at hcv1 n1 l1
  clear hcv
  go_enter Tryz.func42, Tryz.ntmps42
  go_wp2
  go_loop [7] (fun i => ∃ k : Nat, k ≤ n ∧ i = .int .i64 k ∧ Hid (allZ G k = true)) (fun i => 65 - (RowKit.intOf i).toNat)
  case atStart => exact ⟨0, by omega, rfl, rfl⟩
  case round =>
    obtain ⟨k, hk, rfl, hA⟩ := hrel
    by_cases hlt : k < n
    · obtain rfl := ha (by omega)
      have hc := hcells k hlt
      have i1 : (k : Int) < n := by omega
      rcases hz k hlt with h0 | h0
      · rw [h0] at hc
        have HN : Hid (allZ G (k + 1) = true) := Lib.hid (allZ_step hA.out h0)
        have Hz := Lib.hid hz
        have Hcells := Lib.hid hcells
        clear hz hcells h0 hA ha
        go_wp2_with (go_at_call 77; with_reducible refine (signbit_any W0 _ l0).mono ?_; rintro e w1 ⟨rfl, rfl⟩; rw [n0])
        refine ⟨⟨k + 1, by omega, by first | rfl | go_num, HN⟩, by simp [RowKit.intOf]; omega⟩
      · rw [h0] at hc
        have HN : Hid (allZ G n = false) := Lib.hid (allZ_no hlt (by rw [h0]; decide))
        have Hz := Lib.hid hz
        have Hcells := Lib.hid hcells
        clear hz hcells h0 hA ha
        go_wp2_with (go_at_call 77; with_reducible refine (signbit_any W1 _ l1).mono ?_; rintro e w1 ⟨rfl, rfl⟩; rw [n1])
        go_ret
        exact ⟨by rw [HN.out]; rfl, rfl⟩
    · have hkn : k = n := by omega
      subst hkn
      clear ha hz hcells
      go_wp2
      go_ret
      exact ⟨by rw [hA.out]; rfl, rfl⟩

set_option maxHeartbeats 1000000 in
set_option maxRecDepth 100000 in
theorem numbersText_any (B off n cap : Nat) (G : Nat → Nat) (w : World) (hn : n ≤ 64) (hn0 : 0 < n) (hG : ∀ k, k < n → G k < 2 ^ 32)
    (hcells : ∀ k, k < n → w.cell? ⟨B, off + k, none⟩ = some (.float .f32 (G k))) (hdb : w.cell? ⟨8, 15, none⟩ = some (.int .u8 4)) :
    Calls Tryz.prog 41 #[.slice (some ⟨B, off, none⟩) n cap] w fun e w' => e = .returned (.string ⟨(joinT G n).toArray⟩) ∧ Below w.heap.size w w' := by
  obtain ⟨i0, ih, iz0, iz1, iz2⟩ := info_parts Tryz.info_str
  have hB : B < w.heap.size := World.block_lt_of_cell? _ _ (hcells 0 hn0)
  have hDB : 8 < w.heap.size := World.block_lt_of_cell? _ _ hdb
  have HC := Lib.hid hcells
  have HG := Lib.hid hG
  have HD := Lib.hid hdb
  clear hcells hG hdb
  go_enter Tryz.func41, Tryz.ntmps41
  go_wp2
  have k0 : (w.alloc (.cells #[] 9)).ownsRow w.heap.size 9 1 (.slice (some ⟨w.heap.size, 0, none⟩) 0 0) 0 (textsV G 0) :=
    ⟨rfl, Or.inr ⟨w.heap.size, 0, #[], rfl, Nat.le_refl _, heap_alloc_new w _, by omega, by simp [maxLen], rfl, rfl⟩⟩
  have b0 : Below w.heap.size w (w.alloc (.cells #[] 9)) := Below.alloc (Below.refl _ w) (Nat.le_refl _) _
  go_loopw [3, 9] (fun v i wr => ∃ k : Nat, k ≤ n ∧ i = .int .i64 k ∧ wr.ownsRow w.heap.size 9 1 v k (textsV G k) ∧ Below w.heap.size w wr) (fun _ i _ => 65 - (RowKit.intOf i).toNat)
  case atStart => exact ⟨0, by omega, rfl, k0, b0⟩
  case round =>
    clear k0 b0
    obtain ⟨k, hk, rfl, hown, hb⟩ := hrel
    have hsz := hb.size
    by_cases hlt : k < n
    · have hc : wr.cell? ⟨B, off + k, none⟩ = some (.float .f32 (G k)) := (hb.cell (p := ⟨B, off + k, none⟩) hB).trans (HC.out k hlt)
      have hd : wr.cell? ⟨8, 15, none⟩ = some (.int .u8 4) := (hb.cell (p := ⟨8, 15, none⟩) hDB).trans HD.out
      have hN := implNumberText (G k) (HG.out k hlt) wr hd
      have hsnoc := textsV_snoc G k
      obtain ⟨S, hS⟩ : ∃ S : ByteArray, S = ⟨(numText (G k)).toArray⟩ := ⟨_, rfl⟩
      rw [← hS] at hN hsnoc
      generalize G k = x at hc hN
      have i1 : (k : Int) < n := by omega
      have HO := Lib.hid hown
      have HB := Lib.hid hb
      have HS := Lib.hid hsnoc
      clear hown hb hd hS hsnoc
      go_wp2_with (go_at_call 75; with_reducible refine hN.mono ?_; rintro e w1 ⟨rfl, hb1⟩; refine Hid.out ?_)
      refine Lib.hid ?_
      have hown1 : w1.ownsRow w.heap.size 9 1 _ k (textsV G k) := ownS_carry HO.out (fun i _ h2 => hb1.block i h2)
      have hb2 : Below w.heap.size w w1 := HB.out.trans (hb1.mono hsz)
      have hsz1 : w.heap.size ≤ w1.heap.size := hb2.size
      have HB2 := Lib.hid hb2
      clear hN hc hb1 HB HO hb2
      go_wp2_with (at_builtin; refine wpList_append_own _ rfl _ _ 57 rfl w.heap.size 9 i0 (.string ByteArray.empty) 1 16 Tryz.underlying57 ih iz0 iz1 iz2 rfl (by decide) _ _ _ rfl (hown1.alloc _) ⟨w1.heap.size, 0, none⟩ 1 1 [.string S] rfl rfl ?c1 ?c2 ?c3 ?c4 ?c5 ?_)
      case c1 =>
        intro j u hj
        match j, hj with
        | 0, hj => simp at hj; subst hj; simp [Addr.add]
      case c2 => intro u hu; simp at hu; subst hu; rfl
      case c3 => unfold maxLen; omega
      case c4 => omega
      case c5 => simp; omega
      intro v' w3 hown' hgrow _
      have n5 := ownS_below hown1 (Nat.le_refl _) hsz1 HB2.out hgrow
      rw [HS.out] at hown'
      have N5 := Lib.hid n5
      have NO := Lib.hid hown'
      clear n5 hown' hown1 hgrow
      go_wp2
      go_roundw
      case rel => exact ⟨k + 1, by omega, by go_num, NO.out, N5.out⟩
      case measure => simp [RowKit.intOf]; omega
    · have hkn : k = n := by omega
      subst hkn
      obtain ⟨g1, c1, hv, _, hg1, hc1⟩ := ownS_shape hown hn0
      subst hv
      have hJ : Calls Tryz.prog 76 #[.slice (some ⟨g1, 0, none⟩) k c1, .string ⟨#[32]⟩] wr fun e w' => e = .returned (.string ⟨(joinT G k).toArray⟩) ∧ Below wr.heap.size wr w' := by
        have hlen : ((List.range k).map fun j => (⟨(numText (G j)).toArray⟩ : ByteArray)).length = k := by simp
        have hjo : Lib.join (((List.range k).map fun j => (⟨(numText (G j)).toArray⟩ : ByteArray)).map (·.data.toList)) (⟨#[32]⟩ : ByteArray).data.toList = joinT G k := by
          unfold joinT
          congr 1
          rw [List.map_map]
          apply List.map_congr_left
          intro j _
          rfl
        have h := Tryz.strings_Join g1 0 c1 ((List.range k).map fun j => (⟨(numText (G j)).toArray⟩ : ByteArray)) ⟨#[32]⟩ wr (fun j x hx => by
            have hj : j < k := by
              have := (List.getElem?_eq_some_iff.1 hx).1
              simpa using this
            rw [Nat.zero_add, hown.cellAt j (by omega), textsV_at hj]
            rw [List.getElem?_map, List.getElem?_range hj] at hx
            simpa using hx) hg1 (by rw [hlen]; omega) (by rw [hlen]; exact hc1) (by rw [hjo]; have := joinT_length G k hn0; omega)
        rw [hjo, hlen] at h
        exact h
      have HB := Lib.hid hb
      clear hown hb
      go_wp2_with (go_at_call 76; with_reducible refine calls_args (b := #[.slice (some ⟨g1, 0, none⟩) k c1, .string ⟨#[32]⟩]) (by kernel_rfl) ?_; with_reducible refine hJ.mono ?_; rintro e w4 ⟨rfl, hb4⟩)
      go_ret
      exact ⟨rfl, HB.out.trans (hb4.mono hsz)⟩
end Go.Proofs.YtekfmjddlemboaaGreatDoor

/-! Behind a piece of a walk all older blocks are as they were. -/
set_option linter.unusedVariables false
namespace Go.Proofs.YtekfmjddlemboaaGreatDoor
open Go.RowKit

/-- Behind a piece of a walk all older blocks are as they were. -/
def KeptS (B : Nat) (w0 wr w' : World) : Prop := (∀ i, i < wr.heap.size → w'.heap[i]? = wr.heap[i]?) ∧ wr.heap.size ≤ w'.heap.size ∧ Below B w0 w'
section
variable {B : Nat} {w0 wr w' W W2 : World}
theorem KeptS.refl (h : Below B w0 wr) : KeptS B w0 wr wr := ⟨fun _ _ => rfl, Nat.le_refl _, h⟩
theorem KeptS.drew (h : KeptS B w0 wr w') : KeptS B w0 wr w'.drew := ⟨h.1, h.2.1, Below.drew h.2.2⟩
theorem KeptS.call (h : KeptS B w0 wr W) (hB : B ≤ wr.heap.size) (hb : Below W.heap.size W W2) : KeptS B w0 wr W2 :=
  ⟨fun i hi => (hb.block i (Nat.lt_of_lt_of_le hi h.2.1)).trans (h.1 i hi), Nat.le_trans h.2.1 hb.size, h.2.2.trans (hb.mono (Nat.le_trans hB h.2.1))⟩
theorem KeptS.alloc (h : KeptS B w0 wr W) (hB : B ≤ wr.heap.size) (o : Obj) : KeptS B w0 wr (W.alloc o) :=
  ⟨fun i hi => (Below.heap_alloc W o i (Nat.lt_of_lt_of_le hi h.2.1)).trans (h.1 i hi), by have := h.2.1; simp; omega, h.2.2.alloc (Nat.le_trans hB h.2.1) o⟩
theorem KeptS.cell (h : KeptS B w0 wr w') {p : Addr} (hp : p.block < wr.heap.size) : w'.cell? p = wr.cell? p := World.cell?_of_block (w := wr) (h.1 p.block hp)
end
end Go.Proofs.YtekfmjddlemboaaGreatDoor

/-! Decimals of numbers below 100, as the reference makes them. -/
set_option linter.unusedVariables false
set_option linter.unusedSimpArgs false
namespace Go.Proofs.YtekfmjddlemboaaGreatDoor
open Go.RowKit Go.Lib

theorem run_cat {P : Program} (t : TypeId) (a b : ByteArray) (h : a.size + b.size ≤ maxLen) (w : World) : (binOp .add t (.string a) (.string b)).run P w = .ok (.string (a ++ b)) w := by
  rw [binOp_string_add]
  unfold Op.stringOp
  have h' : ¬ maxLen < a.size + b.size := by omega
  have h2 : (a.size : Int) + (b.size : Int) ≤ 9223372036854775807 := by unfold maxLen at h; omega
  simp [h', h2]
theorem exec_cat {P : Program} {o : Oper} {a : Act} (t u : TypeId) (x y : Operand) (ho : o.op = .binOp .add t x y u) (sx sy : ByteArray) (hx : a.eval x = .string sx) (hy : a.eval y = .string sy) (hl : sx.size + sy.size ≤ maxLen) (w : World) :
    (execOp a.eval o).run P w = .ok (.value (.string (sx ++ sy))) w := by
  unfold execOp
  have hg : (eqGuard .add t x y (.string sx) (.string sy)).run P w = .ok () w := by simp [eqGuard]
  simp only [ho, hx, hy, hg, run_cat t sx sy hl w, Sem.run_bind, Sem.run_pure, Result.andThen_ok]
end Go.Proofs.YtekfmjddlemboaaGreatDoor

/-! The text of a train; plain. -/
set_option linter.unusedVariables false
set_option linter.unusedSimpArgs false
namespace Go.Proofs.YtekfmjddlemboaaGreatDoor
open Go.RowKit Go.Lib

theorem zero_bits {x : Nat} (hx : x < 2 ^ 32) (h : zeroB x = true) : x = 0 ∨ x = 2147483648 := by
  have ho := zero_yes h
  have hn : ¬ Flt.NaN Ieee.single x := fun hn => by
    rw [order_nan .f32 (Or.inl hn)] at ho
    exact absurd ho (by simp)
  have hz : Flt.Z Ieee.single x = Flt.Z Ieee.single 0 := by
    rw [show FloatKind.f32.format.order x 0 = Ieee.single.order x 0 from rfl, Flt.order_num Ieee.single (by decide) hn (by decide +kernel)] at ho
    simpa [Int.compare_eq_eq] using ho
  have hs : 2 * Ieee.single.signWeight = 2 ^ 32 := by decide
  by_cases hg : Flt.neg Ieee.single x = false
  · left
    exact Flt.word_inj Ieee.single (by omega) (by rw [hs]; decide) (hg.trans (by decide +kernel)) hz
  · right
    refine Flt.word_inj Ieee.single (by omega) (by rw [hs]; decide) ?_ (hz.trans (by decide +kernel))
    rw [show Flt.neg Ieee.single 2147483648 = true by decide +kernel]
    simpa using hg
theorem allZ_le {G : Nat → Nat} {n : Nat} (h : allZ G n = true) : ∀ k, k < n → G k = 0 := by
  induction n with
  | zero => intro k hk; omega
  | succ m ih =>
    unfold allZ at h
    simp only [Bool.and_eq_true, beq_iff_eq] at h
    intro k hk
    by_cases e : k = m
    · subst e; exact h.2
    · exact ih h.1 k (by omega)
theorem dec_len (n : Nat) (h : n < 100) : (Lib.decDigits n).length ≤ 2 ∧ 1 ≤ (Lib.decDigits n).length := by
  by_cases h10 : n < 10
  · rw [dec_small h10]; simp
  · rw [dec_two (by omega) h]; simp
end Go.Proofs.YtekfmjddlemboaaGreatDoor

/-! The text of a plate; plain. -/
set_option linter.unusedVariables false
set_option linter.unusedSimpArgs false
namespace Go.Proofs.YtekfmjddlemboaaGreatDoor
open Go.RowKit Go.Lib

/-- A row's numbers. -/
def rowG (F : Nat → Nat) (y : Nat) : Nat → Nat := fun x => F (x + 8 * y)
/-- The texts of the first rows. -/
def rowsT (a : Nat) (F : Nat → Nat) : Nat → List UInt8
  | 0 => []
  | y + 1 => rowsT a F y ++ joinT (rowG F y) a ++ [10]
/-- The text of a plate that has one. -/
def plateTx (a b : Nat) (F : Nat → Nat) : List UInt8 := Lib.decDigits a ++ (32 :: Lib.decDigits b) ++ [10] ++ rowsT a F b
/-- Are all of the first numbers that are no cells' +0? -/
def bareTo (a b : Nat) (F : Nat → Nat) : Nat → Bool
  | 0 => true
  | i + 1 => bareTo a b F i && (isC a b i || F i == 0)
def plateText (x y : Int) (F : Nat → Nat) : List UInt8 := if plateB x y F && bareTo x.toNat y.toNat F 64 then plateTx x.toNat y.toNat F else []

theorem bareTo_no {a b : Nat} {F : Nat → Nat} {k n : Nat} (hk : k < n) (hc : isC a b k = false) (h : F k ≠ 0) : bareTo a b F n = false := by
  induction n with
  | zero => omega
  | succ m ih =>
    unfold bareTo
    by_cases e : k = m
    · subst e; simp [hc, h]
    · rw [ih (by omega)]; rfl
theorem bareTo_step {a b : Nat} {F : Nat → Nat} {k : Nat} (h : bareTo a b F k = true) (hs : isC a b k = true ∨ F k = 0) : bareTo a b F (k + 1) = true := by
  unfold bareTo
  rw [h]
  rcases hs with hs | hs <;> simp [hs]
theorem bareTo_all {a b : Nat} {F : Nat → Nat} {n : Nat} (h : ∀ k, k < n → isC a b k = true ∨ F k = 0) : bareTo a b F n = true := by
  induction n with
  | zero => rfl
  | succ m ih => exact bareTo_step (ih fun k hk => h k (by omega)) (h m (by omega))
theorem joinT_zero (G : Nat → Nat) : joinT G 0 = [] := rfl
theorem joinT_one (G : Nat → Nat) : joinT G 1 = numText (G 0) := by
  have h := tail_join G 1 (by omega)
  have e : tailT G 1 = 32 :: numText (G 0) := by simp [tailT]
  rw [e] at h
  exact (List.cons.inj h).2
theorem joinT_succ (G : Nat → Nat) (n : Nat) (h : 0 < n) : joinT G (n + 1) = joinT G n ++ 32 :: numText (G n) := by
  have h1 := tail_join G (n + 1) (by omega)
  have h2 := tail_join G n h
  have e : tailT G (n + 1) = tailT G n ++ 32 :: numText (G n) := rfl
  rw [e, ← h2] at h1
  exact (List.cons.inj h1).2
theorem joinT_le (G : Nat → Nat) (n : Nat) : (joinT G n).length ≤ 9 * n := by
  cases n with
  | zero => simp [joinT_zero]
  | succ m => have := joinT_length G (m + 1) (by omega); omega
theorem rowsT_le (a : Nat) (F : Nat → Nat) : ∀ n, (rowsT a F n).length ≤ (9 * a + 1) * n
  | 0 => by simp [rowsT]
  | n + 1 => by
    have h1 := rowsT_le a F n
    have h2 := joinT_le (rowG F n) a
    unfold rowsT
    simp only [List.length_append, List.length_cons, List.length_nil]
    rw [Nat.mul_add]
    omega
theorem rowsT_small {a : Nat} {F : Nat → Nat} {n : Nat} (ha : a < 9) (hn : n < 9) : (rowsT a F n).length ≤ 600 := by
  have h := rowsT_le a F n
  have : (9 * a + 1) * n ≤ 73 * 8 := Nat.mul_le_mul (by omega) (by omega)
  omega
/-- A row's slice from some cell on, and up to some cell. -/
theorem row_from (B o cap a : Nat) (ha : a ≤ 8) (hc : 8 ≤ cap) : ∃ A : Option Addr, (0 < 8 - a → A = some ⟨B, o + a, none⟩) ∧ ∀ w', (Instr.slice 64 (.slice (some ⟨B, o, none⟩) 8 cap) (some (.int .i8 a)) none none).run Tryz.prog w' = .ok (.slice A (8 - a) (cap - a)) w' := by
  have h1 : ∀ w', (sizeOf (Tryz.prog.elem 64)).run Tryz.prog w' = .ok 1 w' := fun w' => by kernel_rfl
  have hu : Tryz.prog.underlying 64 = some (.slice (Tryz.prog.elem 64)) := by kernel_rfl
  refine ⟨if cap - a = 0 then some ⟨B, o, none⟩ else some ⟨B, o + a, none⟩, fun h => if_neg (by omega), fun w' => ?_⟩
  rw [run_slice_l w' 64 (some ⟨B, o, none⟩) 8 cap hu .i8 (a : Int) (by omega) (by omega), h1]
  simp only [Result.andThen, sliced, Int.toNat_natCast, Nat.mul_one]
  by_cases h0 : cap - a = 0
  · simp [h0]
    intro h
    omega
  · rw [if_neg h0]
    have h2 : ¬ cap = a := by omega
    by_cases h3 : a = 0
    · subst h3; simp [Addr.add]
    · simp [h0, h2, h3, Addr.add]
theorem row_upto (B o cap a : Nat) (ha : a ≤ 8) (hc : 8 ≤ cap) (w' : World) : (Instr.slice 64 (.slice (some ⟨B, o, none⟩) 8 cap) none (some (.int .i8 a)) none).run Tryz.prog w' = .ok (.slice (some ⟨B, o, none⟩) a cap) w' := by
  have h1 : (sizeOf (Tryz.prog.elem 64)).run Tryz.prog w' = .ok 1 w' := by kernel_rfl
  have hu : Tryz.prog.underlying 64 = some (.slice (Tryz.prog.elem 64)) := by kernel_rfl
  rw [run_slice_h w' 64 (some ⟨B, o, none⟩) 8 cap hu .i8 (a : Int) (by omega) (by omega), h1]
  simp [Result.andThen, sliced, Addr.add]
  try omega
end Go.Proofs.YtekfmjddlemboaaGreatDoor

/-! The text of a plate, as the program makes it, and the law on PlateText. -/
set_option linter.unusedVariables false
set_option linter.unusedSimpArgs false
namespace Go.Proofs.YtekfmjddlemboaaGreatDoor
open Go.RowKit Go.Lib

theorem allZ_ex {G : Nat → Nat} {n : Nat} (h : allZ G n = false) : ∃ k, k < n ∧ G k ≠ 0 := by
  induction n with
  | zero => simp [allZ] at h
  | succ m ih =>
    unfold allZ at h
    by_cases e : G m = 0
    · simp [e] at h
      obtain ⟨k, h1, h2⟩ := ih h
      exact ⟨k, by omega, h2⟩
    · exact ⟨m, by omega, e⟩

set_option maxHeartbeats 4000000 in
set_option maxRecDepth 100000 in
theorem implPlateTx (a b : Nat) (F : Nat → Nat) (ha1 : 1 ≤ a) (ha : a < 9) (hb1 : 1 ≤ b) (hb : b < 9) (hF : ∀ i, i < 64 → F i < 2 ^ 32) (hz : ∀ i, i < 64 → isC a b i = false → F i = 0 ∨ F i = 2147483648) (hv : plateB a b F = true) (w : World) (hdb : w.cell? ⟨8, 15, none⟩ = some (.int .u8 4)) (V : ByteArray) (hV : V = ⟨(if bareTo a b F 64 then plateTx a b F else []).toArray⟩) :
    Calls Tryz.prog 7 #[.agg (plate a b F)] w fun e w' => e = .returned (.string V) ∧ Below w.heap.size w w' := by
  have hDlt : 8 < w.heap.size := World.block_lt_of_cell? _ _ hdb
  have itoaC : ∀ n, n < 100 → ∃ D : ByteArray, D = ⟨(Lib.decDigits n).toArray⟩ ∧ D.size ≤ 2 ∧ ∀ w, Calls Tryz.prog 40 #[.int .i64 n] w fun e w' => ∃ v, e = .returned v ∧ v = .string D ∧ Below w.heap.size w w' :=
    fun n hn => ⟨_, rfl, (dec_len n hn).1, fun w => (Tryz.strconv_Itoa_small n hn w).mono fun e w' ⟨h1, h2⟩ => ⟨_, h1, rfl, by rw [h2]; exact Below.refl _ _⟩⟩
  obtain ⟨D1, e1, z1, h1⟩ := itoaC a (by omega)
  obtain ⟨D2, e2, z2, h2⟩ := itoaC b (by omega)
  have zB : (⟨#[32]⟩ : ByteArray).size = 1 := rfl
  have zN : (⟨#[10]⟩ : ByteArray).size = 1 := rfl
  have l1 : D1.size + (⟨#[32]⟩ : ByteArray).size ≤ maxLen := by unfold maxLen; omega
  have l2 : (D1 ++ ⟨#[32]⟩).size + D2.size ≤ maxLen := by simp only [ByteArray.size_append]; unfold maxLen; omega
  have l3 : (D1 ++ ⟨#[32]⟩ ++ D2).size + (⟨#[10]⟩ : ByteArray).size ≤ maxLen := by simp only [ByteArray.size_append]; unfold maxLen; omega
  have hT : (D1 ++ ⟨#[32]⟩ ++ D2 ++ ⟨#[10]⟩) = ⟨(Lib.decDigits a ++ (32 :: Lib.decDigits b) ++ [10]).toArray⟩ := by
    rw [e1, e2, show (⟨#[32]⟩ : ByteArray) = ⟨[(32 : UInt8)].toArray⟩ from rfl, show (⟨#[10]⟩ : ByteArray) = ⟨[(10 : UInt8)].toArray⟩ from rfl, str_app, str_app, str_app]
    congr 2
    simp
  have na : IntKind.i64.wrap (a : Int) = a := by rw [IntKind.wrap_i64]; omega
  have nb : IntKind.i64.wrap (b : Int) = b := by rw [IntKind.wrap_i64]; omega
  have HT := Lib.hid hT
  have HVV := Lib.hid hV
  have HZ := Lib.hid hz
  have HF := Lib.hid hF
  have HV := Lib.hid hv
  have HDB := Lib.hid hdb
  clear e1 e2 hT hV hz hF hv hdb itoaC
  go_enter Tryz.func7, Tryz.ntmps7
  go_upto_region 3 with (first | ((with_reducible refine at_load 29 ?_); refine wpList_load_part rfl 29 _ rfl _ 0 66 rfl _ _ _ _ (by repeat (first | (with_reducible assumption) | ((with_reducible refine blk_new _ _ _ ?_); focus (simp; done)) | ((with_reducible refine blk_old _ _ _ ?_ ?_); focus (simp; done)) | ((with_reducible refine blk_old _ _ _ ?_ ?_); focus (first | omega | (simp; omega))) | ((with_reducible apply blk_set); focus (simp; done)) | ((with_reducible refine blk_off _ _ _ _ ?_ ?_); focus (simp; done)) | ((with_reducible refine blk_offc _ _ _ _ ?_ ?_); focus (first | (simp; done) | omega | (simp; omega))) | ((with_reducible refine blk_off _ _ _ _ ?_ ?_); focus (first | omega | (simp; omega))) | (with_reducible refine blk_drew _ _ ?_) | ((with_reducible refine blk_below (by assumption) ?_ ?_); focus (simp; done)) | ((with_reducible refine blk_below (by assumption) ?_ ?_); focus (first | omega | (simp; omega))))) Tryz.underlying29 rfl (by kernel_rfl) (by simp [row_size]) _ (row_all [_, _] 64 _) ?_) | (go_at_call 16; (with_reducible refine (implPOk_any a b F _ (by omega) (by omega) (by omega) (by omega)).mono ?_); rintro e w1 ⟨rfl, hb1⟩; have hz1 := hb1.size; (try simp at hz1); obtain ⟨hc1, hf1⟩ := bcell hb1; rw [HV.out]))
  refine wp_nm (S := fun W => W.heap[w.heap.size]? = some (.cells (plate a b F) 29 (0, 0)) ∧ Below w.heap.size w W ∧ w.heap.size + 1 ≤ W.heap.size) ⟨(by repeat (first | (with_reducible assumption) | ((with_reducible refine blk_new _ _ _ ?_); focus (simp; done)) | ((with_reducible refine blk_old _ _ _ ?_ ?_); focus (simp; done)) | ((with_reducible refine blk_old _ _ _ ?_ ?_); focus (first | omega | (simp; omega))) | ((with_reducible apply blk_set); focus (simp; done)) | ((with_reducible refine blk_off _ _ _ _ ?_ ?_); focus (simp; done)) | ((with_reducible refine blk_offc _ _ _ _ ?_ ?_); focus (first | (simp; done) | omega | (simp; omega))) | ((with_reducible refine blk_off _ _ _ _ ?_ ?_); focus (first | omega | (simp; omega))) | (with_reducible refine blk_drew _ _ ?_) | ((with_reducible refine blk_below (by assumption) ?_ ?_); focus (simp; done)) | ((with_reducible refine blk_below (by assumption) ?_ ?_); focus (first | omega | (simp; omega))))), (by repeat (first | (with_reducible assumption) | (with_reducible exact Below.refl _ _) | ((with_reducible refine bel_alloc _ ?_ ?_); focus (first | omega | (simp; done) | (simp; omega))) | ((with_reducible refine bel_row _ ?_ ?_); focus (first | omega | (simp; done) | (simp; omega))) | ((with_reducible refine bel_cell _ ?_ ?_); focus (first | omega | (simp; done) | (simp; omega))) | (with_reducible refine Below.drew ?_) | (with_reducible refine below_wideW _ ?_) | ((with_reducible refine bel_next (by assumption) ?_ ?_); focus (first | omega | (simp; done) | (simp; omega))))), (by first | omega | (simp; done) | (simp; omega) | (simp at *; omega))⟩ ?_
  rintro W ⟨hB, hbW, hsW⟩
  have c0 : W.cell? ⟨w.heap.size, 0, none⟩ = some (.int .i8 a) := (cell_of_row W _ 0 _ _ _ hB).trans rfl
  have c1 : W.cell? ⟨w.heap.size, 1, none⟩ = some (.int .i8 b) := (cell_of_row W _ 1 _ _ _ hB).trans rfl
  have hBlt : w.heap.size < W.heap.size := by omega
  have hBB : w.heap.size ≤ W.heap.size := by omega
  have hK : KeptS w.heap.size w W W := KeptS.refl hbW
  refine region_merge (fun a0 a' W' => a' = ({ tmps := ((Value.agg (plate a b F)) :: (Value.pointer (some ⟨w.heap.size, 0, none⟩)) :: (Value.string { data := #[] }) :: (Value.string (D1 ++ ⟨#[32]⟩ ++ D2 ++ ⟨#[10]⟩)) :: undef :: undef :: undef :: (Value.agg (plate a b F)) :: (Value.bool true) :: (Value.bool false) :: (Value.pointer (some ⟨w.heap.size, 0, none⟩)) :: (Value.int .i8 a) :: (Value.int .i64 a) :: (Value.string D1) :: (Value.string (D1 ++ ⟨#[32]⟩)) :: (Value.pointer (some ⟨w.heap.size, 1, none⟩)) :: (Value.int .i8 b) :: (Value.int .i64 b) :: (Value.string D2) :: (Value.string (D1 ++ ⟨#[32]⟩ ++ D2)) :: (Value.string (D1 ++ ⟨#[32]⟩ ++ D2 ++ ⟨#[10]⟩)) :: undef :: undef :: undef :: undef :: undef :: undef :: undef :: undef :: undef :: undef :: undef :: undef :: undef :: undef :: undef :: undef :: undef :: undef :: undef :: undef :: undef :: undef :: undef :: undef :: undef :: undef :: undef :: undef :: undef :: undef :: undef :: undef :: undef :: []).toArray, defers := [] } : Act) ∧ W'.heap[w.heap.size]? = some (.cells (plate a b F) 29 (0, 0)) ∧ Below w.heap.size w W') ?_ ?_
  · refine wp_region_held_drew (S := fun w' => KeptS w.heap.size w W w') (by kernel_rfl) hK.drew (fun hS => ?_)
    refine held_yield 0 rfl rfl (by kernel_rfl) (by kernel_rfl) (by kernel_rfl) (fun _ _ _ _ h => nomatch h.1) (.pointer (some ⟨w.heap.size, 0, none⟩)) (fun w' hw' => by go_simp) hS ?_
    refine held_yield 1 rfl rfl (by kernel_rfl) (by kernel_rfl) (by kernel_rfl) (fun _ _ _ _ h => nomatch h.1) (.int .i8 a) (fun w' hw' => by (have c := (hw'.cell (p := ⟨w.heap.size, 0, none⟩) hBlt).trans c0; go_simp)) hS ?_
    refine held_yield 2 rfl rfl (by kernel_rfl) (by kernel_rfl) (by kernel_rfl) (fun _ _ _ _ h => nomatch h.1) (.int .i64 a) (fun w' hw' => by go_simp) hS ?_
    refine held_yield 5 rfl rfl (by kernel_rfl) (by kernel_rfl) (by kernel_rfl) (fun _ _ _ _ h => nomatch h.1) (.pointer (some ⟨w.heap.size, 1, none⟩)) (fun w' hw' => by go_simp) hS ?_
    refine held_yield 6 rfl rfl (by kernel_rfl) (by kernel_rfl) (by kernel_rfl) (fun _ _ _ _ h => nomatch h.1) (.int .i8 b) (fun w' hw' => by (have c := (hw'.cell (p := ⟨w.heap.size, 1, none⟩) hBlt).trans c1; go_simp)) hS ?_
    refine held_yield 7 rfl rfl (by kernel_rfl) (by kernel_rfl) (by kernel_rfl) (fun _ _ _ _ h => nomatch h.1) (.int .i64 b) (fun w' hw' => by go_simp) hS ?_
    refine held_one 3 (by kernel_rfl) rfl rfl ?_
    with_reducible refine oper_call 40 #[.int .i64 a] ?he (h1 _) (fun v0 W0 hR => ?_)
    case he => first | kernel_rfl | go_simp
    obtain ⟨rfl, hb0⟩ := hR
    have hk0 := hS.call hBB hb0
    have hs0 := hb0.size
    refine ⟨hk0, ?_⟩
    refine held_yield 4 rfl rfl (by kernel_rfl) (by kernel_rfl) (by kernel_rfl) (fun _ _ _ _ h => nomatch h.1) (.string (D1 ++ ⟨#[32]⟩)) (fun w' hw' => by exact exec_cat 9 9 (.tmp 13) (.const (.string ⟨#[32]⟩)) (by kernel_rfl) (D1) (⟨#[32]⟩) (by kernel_rfl) (by kernel_rfl) l1 w') hk0 ?_
    refine held_one 8 (by kernel_rfl) rfl rfl ?_
    with_reducible refine oper_call 40 #[.int .i64 b] ?he (h2 _) (fun v0 W1 hR => ?_)
    case he => first | kernel_rfl | go_simp
    obtain ⟨rfl, hb1⟩ := hR
    have hk1 := hk0.call hBB hb1
    have hs1 := hb1.size
    refine ⟨hk1, ?_⟩
    refine held_yield 9 rfl rfl (by kernel_rfl) (by kernel_rfl) (by kernel_rfl) (fun _ _ _ _ h => nomatch h.1) (.string (D1 ++ ⟨#[32]⟩ ++ D2)) (fun w' hw' => by exact exec_cat 9 9 (.tmp 14) (.tmp 18) (by kernel_rfl) (D1 ++ ⟨#[32]⟩) (D2) (by kernel_rfl) (by kernel_rfl) l2 w') hk1 ?_
    refine held_yield 10 rfl rfl (by kernel_rfl) (by kernel_rfl) (by kernel_rfl) (fun _ _ _ _ h => nomatch h.1) (.string (D1 ++ ⟨#[32]⟩ ++ D2 ++ ⟨#[10]⟩)) (fun w' hw' => by exact exec_cat 9 9 (.tmp 19) (.const (.string ⟨#[10]⟩)) (by kernel_rfl) (D1 ++ ⟨#[32]⟩ ++ D2) (⟨#[10]⟩) (by kernel_rfl) (by kernel_rfl) l3 w') hk1 ?_
    refine held_yield 11 rfl rfl (by kernel_rfl) (by kernel_rfl) (by kernel_rfl) (fun _ _ _ _ h => nomatch h.1) (.string (D1 ++ ⟨#[32]⟩ ++ D2 ++ ⟨#[10]⟩)) (fun w' hw' => by (first | kernel_rfl | go_simp)) hk1 ?_
    refine wpAnyH_done (by kernel_rfl) ⟨rfl, by kernel_rfl, (hk1.1 _ hBlt).trans hB, hk1.2.2⟩ _
  · rintro a' W' ⟨rfl, hB', hb'⟩
    obtain ⟨A0, hA0⟩ : ∃ A0, A0 = D1 ++ ⟨#[32]⟩ ++ D2 ++ ⟨#[10]⟩ := ⟨_, rfl⟩
    have hT := HT.out
    rw [← hA0] at hT ⊢
    have HA0 := Lib.hid hT
    have HB' := Lib.hid hB'
    have Hb' := Lib.hid hb'
    clear HT hA0 l1 l2 l3 hT hB hbW hsW c0 c1 hBlt hBB hK h1 h2 hB' hb' na nb
    have hda := dec_len a (by omega)
    have hdb2 := dec_len b (by omega)
    have hap : plate a b F = row [.int .i8 a, .int .i8 b] 64 F := rfl
    go_wp2
    go_loopw [3, 21] (fun v i wr => ∃ (k : Nat) (A : ByteArray), k ≤ 8 ∧ i = .int .i64 k ∧ v = .string A ∧ Hid (A = ⟨(Lib.decDigits a ++ (32 :: Lib.decDigits b) ++ [10] ++ rowsT a F (min k b)).toArray⟩ ∧ ∀ j, j < 8 * k → isC a b j = true ∨ F j = 0) ∧ wr.heap[w.heap.size]? = some (.cells (plate a b F) 29 (0, 0)) ∧ Below w.heap.size w wr) (fun _ i _ => 9 - (RowKit.intOf i).toNat)
    case atStart => exact ⟨0, A0, by omega, rfl, rfl, Lib.hid ⟨by rw [HA0.out]; simp [rowsT], fun j hj => by omega⟩, HB'.out, Hb'.out⟩
    case round =>
      clear HA0 HB' Hb'
      obtain ⟨k, A, hk, rfl, rfl, hAA, hBr, hbr⟩ := hrel
      have hsz := hbr.size
      have hBlt : w.heap.size < wr.heap.size := World.block_lt_of_cell? _ _ ((cell_of_row wr _ 0 _ _ _ hBr).trans rfl : wr.cell? ⟨w.heap.size, 0, none⟩ = some (.int .i8 a))
      have g0 : wr.cell? ⟨w.heap.size, 0, none⟩ = some (.int .i8 a) := (cell_of_row wr _ 0 _ _ _ hBr).trans rfl
      have g1 : wr.cell? ⟨w.heap.size, 1, none⟩ = some (.int .i8 b) := (cell_of_row wr _ 1 _ _ _ hBr).trans rfl
      by_cases hlt : k < 8
      · have g2 : ∀ i, i < 64 → wr.cell? ⟨w.heap.size, 2 + i, none⟩ = some (.float .f32 (F i)) := fun i hi => (cell_of_row wr _ (2 + i) _ _ _ hBr).trans (row_k2 _ _ _ _ hi)
        have gd : wr.cell? ⟨8, 15, none⟩ = some (.int .u8 4) := (hbr.cell (p := ⟨8, 15, none⟩) hDlt).trans HDB.out
        have k8 : (k : Int) < 8 := by omega
        have hsl : ∀ w', (Instr.sliceAt 27 (.pointer (some ⟨w.heap.size, 2, none⟩)) (some (.int .i64 (8 * (k : Int)))) (some (.int .i64 (8 * ((k : Int) + 1)))) none).run Tryz.prog w' = .ok (.slice (some ⟨w.heap.size, 2 + 8 * k, none⟩) 8 (64 - 8 * k)) w' := fun w' => by
          have h := run_sliceAt_lh (P := Tryz.prog) w' 27 25 64 w.heap.size 2 Tryz.underlying27 (by kernel_rfl) .i64 .i64 (8 * k) (8 * (k + 1)) (by omega) (by omega) (by omega)
          rw [show 8 * (k + 1) - 8 * k = 8 by omega] at h
          rw [show (8 * (k : Int)) = ((8 * k : Nat) : Int) by omega, show (8 * ((k : Int) + 1)) = ((8 * (k + 1) : Nat) : Int) by omega]
          exact h
        have zA : A.size ≤ 700 := by
          have e := hAA.out.1
          rw [e, size_of_list]
          have := rowsT_small (F := F) ha (show min k b < 9 by omega)
          simp only [List.length_append, List.length_cons, List.length_nil]
          omega
        obtain ⟨q, hq⟩ : ∃ q, A.size = q := ⟨_, rfl⟩
        have hq2 : q ≤ 700 := by omega
        have w8k : IntKind.i64.wrap (8 * (k : Int)) = 8 * (k : Int) := by rw [IntKind.wrap_i64]; omega
        by_cases hkb : k < b
        · obtain ⟨AN, hAN, hs1⟩ := row_from w.heap.size (2 + 8 * k) (64 - 8 * k) a (by omega) (by omega)
          have hs2 := fun w' => row_upto w.heap.size (2 + 8 * k) (64 - 8 * k) a (by omega) (by omega) w'
          have hNT := numbersText_any w.heap.size (2 + 8 * k) a (64 - 8 * k) (rowG F k) wr (by omega) (by omega) (fun x hx => HF.out _ (by omega)) (fun x hx => by
            have e := g2 (x + 8 * k) (by omega)
            rw [show 2 + (x + 8 * k) = 2 + 8 * k + x by omega] at e
            exact e) gd
          obtain ⟨J, hJ⟩ : ∃ J : ByteArray, J = ⟨(joinT (rowG F k) a).toArray⟩ := ⟨_, rfl⟩
          rw [← hJ] at hNT
          obtain ⟨qj, hqj⟩ : ∃ q, J.size = q := ⟨_, rfl⟩
          have hqj2 : qj ≤ 72 := by
            have := joinT_le (rowG F k) a
            rw [← hqj, hJ, size_of_list]
            omega
          have zJ : (J ++ ⟨#[10]⟩ : ByteArray).size = qj + 1 := by rw [ByteArray.size_append, hqj, zN]
          have hNM := fun (w' : World) (hw : ∀ i, i < 64 → w'.cell? ⟨w.heap.size, 2 + i, none⟩ = some (.float .f32 (F i))) => noMinus_any w.heap.size (2 + 8 * k + a) (8 - a) (64 - 8 * k - a) (fun j => F (a + j + 8 * k)) w' (by omega) (fun j hj => HZ.out _ (by omega) (isC_no.2 (by omega))) (fun j hj => by
            have e := hw (a + j + 8 * k) (by omega)
            rw [show 2 + (a + j + 8 * k) = 2 + 8 * k + a + j by omega] at e
            exact e) AN hAN
          obtain ⟨m, hm⟩ : ∃ m, m = 8 - a := ⟨_, rfl⟩
          obtain ⟨cp, hcp⟩ : ∃ c, c = 64 - 8 * k - a := ⟨_, rfl⟩
          obtain ⟨o, ho⟩ : ∃ o, o = 2 + 8 * k := ⟨_, rfl⟩
          obtain ⟨c8, hc8⟩ : ∃ c, c = 64 - 8 * k := ⟨_, rfl⟩
          rw [← ho, ← hc8] at hsl hs2 hNT
          rw [← ho, ← hc8, ← hm] at hs1
          rw [← hm, ← hcp] at hNM
          rw [show c8 - a = cp by omega] at hs1
          have i1 : (k : Int) < b := by omega
          have HBr := Lib.hid hBr
          have Hbr := Lib.hid hbr
          have HN1 : Hid (A ++ (J ++ ⟨#[10]⟩) = ⟨(Lib.decDigits a ++ (32 :: Lib.decDigits b) ++ [10] ++ rowsT a F (min (k + 1) b)).toArray⟩) := Lib.hid (by
            rw [hAA.out.1, hJ, show (⟨#[10]⟩ : ByteArray) = ⟨[(10 : UInt8)].toArray⟩ from rfl, str_app, str_app, show min k b = k by omega, show min (k + 1) b = k + 1 by omega]
            simp [rowsT])
          cases hal : allZ (fun j => F (a + j + 8 * k)) m
          · rw [hal] at hNM
            have HR : Hid (V = ⟨#[]⟩) := Lib.hid (by
              obtain ⟨j, hj, hne⟩ := allZ_ex hal
              rw [HVV.out, bareTo_no (k := a + j + 8 * k) (by omega) (isC_no.2 (by omega)) hne]
              rfl)
            clear hAA hJ hal hAN zA hm hcp ho hc8 hBr hbr
            go_wp2_with (first | (go_at_call 41; with_reducible refine hNT.mono ?_; rintro e w1 ⟨rfl, hb1⟩) | (go_at_call 42; with_reducible refine (hNM _ (fun i hi => (hb1.cell (p := ⟨w.heap.size, 2 + i, none⟩) hBlt).trans (g2 i hi))).mono ?_; rintro e w2 ⟨rfl, rfl⟩))
            go_ret
            exact ⟨by rw [HR.out]; rfl, Hbr.out.trans (hb1.mono hsz)⟩
          · rw [hal] at hNM
            have HC : Hid (∀ j, j < 8 * (k + 1) → isC a b j = true ∨ F j = 0) := Lib.hid (fun j hj => by
              by_cases hj8 : j < 8 * k
              · exact hAA.out.2 j hj8
              · by_cases hja : j - 8 * k < a
                · exact Or.inl (isC_iff.2 (by omega))
                · right
                  have e := allZ_le hal (j - 8 * k - a) (by omega)
                  have e2 : a + (j - 8 * k - a) + 8 * k = j := by omega
                  rw [e2] at e
                  exact e)
            clear hAA hJ hal hAN zA hm hcp ho hc8 hBr hbr
            go_wp2_with (first | (go_at_call 41; with_reducible refine hNT.mono ?_; rintro e w1 ⟨rfl, hb1⟩) | (go_at_call 42; with_reducible refine (hNM _ (fun i hi => (hb1.cell (p := ⟨w.heap.size, 2 + i, none⟩) hBlt).trans (g2 i hi))).mono ?_; rintro e w2 ⟨rfl, rfl⟩))
            go_roundw
            case rel => exact ⟨k + 1, _, by omega, by first | rfl | go_num, rfl, Lib.hid ⟨HN1.out, HC.out⟩, (hb1.block _ hBlt).trans HBr.out, Hbr.out.trans (hb1.mono hsz)⟩
            case measure => simp [RowKit.intOf]; omega
        · have hNM := fun (w' : World) (hw : ∀ i, i < 64 → w'.cell? ⟨w.heap.size, 2 + i, none⟩ = some (.float .f32 (F i))) => noMinus_any w.heap.size (2 + 8 * k) 8 (64 - 8 * k) (fun j => F (j + 8 * k)) w' (by omega) (fun j hj => HZ.out _ (by omega) (isC_no.2 (by omega))) (fun j hj => by
            have e := hw (j + 8 * k) (by omega)
            rw [show 2 + (j + 8 * k) = 2 + 8 * k + j by omega] at e
            exact e) (some ⟨w.heap.size, 2 + 8 * k, none⟩) (fun _ => rfl)
          obtain ⟨o, ho⟩ : ∃ o, o = 2 + 8 * k := ⟨_, rfl⟩
          obtain ⟨c8, hc8⟩ : ∃ c, c = 64 - 8 * k := ⟨_, rfl⟩
          rw [← ho, ← hc8] at hsl hNM
          have i1 : (b : Int) ≤ k := by omega
          have HBr := Lib.hid hBr
          have Hbr := Lib.hid hbr
          have HN1 : Hid (A = ⟨(Lib.decDigits a ++ (32 :: Lib.decDigits b) ++ [10] ++ rowsT a F (min (k + 1) b)).toArray⟩) := Lib.hid (by
            rw [hAA.out.1, show min k b = b by omega, show min (k + 1) b = b by omega])
          cases hal : allZ (fun j => F (j + 8 * k)) 8
          · rw [hal] at hNM
            have HR : Hid (V = ⟨#[]⟩) := Lib.hid (by
              obtain ⟨j, hj, hne⟩ := allZ_ex hal
              rw [HVV.out, bareTo_no (k := j + 8 * k) (by omega) (isC_no.2 (by omega)) hne]
              rfl)
            clear hAA hal zA ho hc8 hBr hbr
            go_wp2_with (go_at_call 42; with_reducible refine (hNM _ g2).mono ?_; rintro e w2 ⟨rfl, rfl⟩)
            go_ret
            exact ⟨by rw [HR.out]; rfl, Hbr.out⟩
          · rw [hal] at hNM
            have HC : Hid (∀ j, j < 8 * (k + 1) → isC a b j = true ∨ F j = 0) := Lib.hid (fun j hj => by
              by_cases hj8 : j < 8 * k
              · exact hAA.out.2 j hj8
              · right
                have e := allZ_le hal (j - 8 * k) (by omega)
                have e2 : (j - 8 * k) + 8 * k = j := by omega
                rw [e2] at e
                exact e)
            clear hAA hal zA ho hc8 hBr hbr
            go_wp2_with (go_at_call 42; with_reducible refine (hNM _ g2).mono ?_; rintro e w2 ⟨rfl, rfl⟩)
            go_roundw
            case rel => exact ⟨k + 1, _, by omega, by first | rfl | go_num, rfl, Lib.hid ⟨HN1.out, HC.out⟩, HBr.out, Hbr.out⟩
            case measure => simp [RowKit.intOf]; omega
      · obtain rfl : k = 8 := by omega
        have HR : Hid (V = A) := Lib.hid (by
          rw [HVV.out, bareTo_all (fun j hj => hAA.out.2 j (by omega)), hAA.out.1, show min 8 b = b by omega]
          rfl)
        have Hbr := Lib.hid hbr
        clear hAA hBr hbr
        go_wp2
        go_ret
        exact ⟨by rw [HR.out]; rfl, Hbr.out⟩

set_option maxHeartbeats 2000000 in
set_option maxRecDepth 100000 in
theorem implPlateText_any (x y : Int) (F : Nat → Nat) (lx : -128 ≤ x) (ux : x ≤ 127) (ly : -128 ≤ y) (uy : y ≤ 127) (hF : ∀ i, i < 64 → F i < 2 ^ 32) (w : World) (hdb : w.cell? ⟨8, 15, none⟩ = some (.int .u8 4)) :
    Calls Tryz.prog 7 #[.agg (plate x y F)] w fun e w' => e = .returned (.string ⟨(plateText x y F).toArray⟩) ∧ Below w.heap.size w w' := by
  cases hv : plateB x y F
  · have hT : plateText x y F = [] := by unfold plateText; rw [hv]; rfl
    rw [hT]
    clear hdb
    go_enter Tryz.func7, Tryz.ntmps7
    go_wp2_with (first | ((with_reducible refine at_load 29 ?_); refine wpList_load_part rfl 29 _ rfl _ 0 66 rfl _ _ _ _ (by repeat (first | (with_reducible assumption) | ((with_reducible refine blk_new _ _ _ ?_); focus (simp; done)) | ((with_reducible refine blk_old _ _ _ ?_ ?_); focus (simp; done)) | ((with_reducible refine blk_old _ _ _ ?_ ?_); focus (first | omega | (simp; omega))) | ((with_reducible apply blk_set); focus (simp; done)) | ((with_reducible refine blk_off _ _ _ _ ?_ ?_); focus (simp; done)) | ((with_reducible refine blk_offc _ _ _ _ ?_ ?_); focus (first | (simp; done) | omega | (simp; omega))) | ((with_reducible refine blk_off _ _ _ _ ?_ ?_); focus (first | omega | (simp; omega))) | (with_reducible refine blk_drew _ _ ?_) | ((with_reducible refine blk_below (by assumption) ?_ ?_); focus (simp; done)) | ((with_reducible refine blk_below (by assumption) ?_ ?_); focus (first | omega | (simp; omega))))) Tryz.underlying29 rfl (by kernel_rfl) (by simp [row_size]) _ (row_all [_, _] 64 _) ?_) | (go_at_call 16; (with_reducible refine (implPOk_any x y F _ (by omega) (by omega) (by omega) (by omega)).mono ?_); rintro e w1 ⟨rfl, hb1⟩; have hz1 := hb1.size; (try simp at hz1); obtain ⟨hc1, hf1⟩ := bcell hb1; rw [hv]))
    go_ret
    exact ⟨rfl, (by repeat (first | (with_reducible assumption) | (with_reducible exact Below.refl _ _) | ((with_reducible refine bel_alloc _ ?_ ?_); focus (first | omega | (simp; done) | (simp; omega))) | ((with_reducible refine bel_row _ ?_ ?_); focus (first | omega | (simp; done) | (simp; omega))) | ((with_reducible refine bel_cell _ ?_ ?_); focus (first | omega | (simp; done) | (simp; omega))) | (with_reducible refine Below.drew ?_) | (with_reducible refine below_wideW _ ?_) | ((with_reducible refine bel_next (by assumption) ?_ ?_); focus (first | omega | (simp; done) | (simp; omega)))))⟩
  · obtain ⟨a, b, rfl, rfl, ha1, ha, hb1, hb, hp, hz⟩ := plateB_size hv
    have hT : plateText a b F = if bareTo a b F 64 then plateTx a b F else [] := by unfold plateText; rw [hv]; rfl
    rw [hT]
    exact implPlateTx a b F ha1 ha hb1 hb hF (fun i hi hc => zero_bits (hF i hi) (hz i hi hc)) hv w hdb _ rfl

end Go.Proofs.YtekfmjddlemboaaGreatDoor
