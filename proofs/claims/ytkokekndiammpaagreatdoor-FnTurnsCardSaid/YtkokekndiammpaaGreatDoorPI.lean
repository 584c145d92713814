/- Parts of a proof, merged; each under its own premises. -/
import Derived.Test.YtkokekndiammpaaGreatDoorPH
import Derived.Shelf.Strings.OnBuilder
import Derived.Shelf.Strconv.ParseIntEmpty
import Derived.Shelf.Strconv.SyntaxError
import Derived.Shelf.Strconv.ParseUint10
import Derived.Shelf.Strconv.ParseUint10Empty
import Derived.Shelf.Strconv.ParseUint10Any
import Derived.Shelf.Strconv.ParseInt10
import Derived.Shelf.Strconv.ParseUint10b64
import Derived.Shelf.Strconv.ParseUint10b32
import Derived.Shelf.Strconv.ParseUint10b16
import Derived.Shelf.Strconv.ParseUint10b8
import Derived.Shelf.Strconv.ParseUint10At
import Derived.Shelf.Strconv.ParseInt10At64
import Derived.Shelf.Strconv.ParseInt10At32
import Derived.Shelf.Strconv.ParseInt10At16
import Derived.Shelf.Strconv.ParseInt10At8
import Derived.Shelf.Strconv.ParseInt10All
import Derived.Shelf.Strconv.ParseIntPublic10
import Derived.Shelf.Strconv.ErrVarParseInt
import Derived.Shelf.Strings.Split
import Derived.Shelf.Strings.SplitShaped
import Derived.Test.YtkokekndiammpaaGreatDoorPF
import Derived.Lib.LaidTab
import Derived.LaidMore
import Derived.LaidHandle
import Derived.OpenShut
import Derived.Stop.Joined
import Derived.Stop.LaidErr
import Derived.Lib.ItoaNum
import Derived.Lib.Join
import Derived.OwnWalk
import Derived.Test.YtkokekndiammpaaGreatDoorPE
import Derived.Test.YtkokekndiammpaaGreatDoorPA
import Derived.Test.YtkokekndiammpaaGreatDoorPB

/-! More contracts of the shelf at this translation, in plain words: written by the kit's lay-plain. -/
namespace Go.Proofs
open Go.Shelf
def Tryz.lays156_ren : Go.Shelf.Ren := ⟨fun | 156 => 60 | 165 => 82 | 166 => 83 | 169 => 84 | 240 => 105 | 241 => 106 | 276 => 124 | 277 => 125 | n => n, fun | 31 => 87 | 9 => 9 | 3 => 3 | 4 => 4 | 0 => 0 | 20 => 20 | 72 => 112 | 76 => 114 | 70 => 110 | 37 => 22 | 75 => 83 | 127 => 134 | 164 => 154 | 5 => 5 | 80 => 116 | n => n, fun | n => n⟩
theorem Tryz.lays156 : Go.Proofs.Lays.n156 Tryz.prog Tryz.lays156_ren := {
  mixed := by kernel_rfl
  f156 := Tryz.func60.trans (congrArg some (by kernel_rfl))
  f165 := Tryz.func82.trans (congrArg some (by kernel_rfl))
  f166 := Tryz.func83.trans (congrArg some (by kernel_rfl))
  f169 := Tryz.func84.trans (congrArg some (by kernel_rfl))
  f240 := Tryz.func105.trans (congrArg some (by kernel_rfl))
  f241 := Tryz.func106.trans (congrArg some (by kernel_rfl))
  f276 := Tryz.func124.trans (congrArg some (by kernel_rfl))
  f277 := Tryz.func125.trans (congrArg some (by kernel_rfl))
  t0 := Tryz.underlying0
  a0 := Tryz.isAgg0
  z0 := Tryz.sizeOf0
  v0 := Tryz.zeroValue0
  t3 := Tryz.underlying3
  a3 := Tryz.isAgg3
  z3 := Tryz.sizeOf3
  v3 := Tryz.zeroValue3
  t4 := Tryz.underlying4
  a4 := Tryz.isAgg4
  z4 := Tryz.sizeOf4
  v4 := Tryz.zeroValue4
  t9 := Tryz.underlying9
  a9 := Tryz.isAgg9
  z9 := Tryz.sizeOf9
  v9 := Tryz.zeroValue9
  t20 := Tryz.underlying20
  a20 := Tryz.isAgg20
  z20 := Tryz.sizeOf20
  v20 := Tryz.zeroValue20
  t31 := Tryz.underlying87
  a31 := Tryz.isAgg87
  z31 := Tryz.sizeOf87
  v31 := Tryz.zeroValue87
  t37 := Tryz.underlying22
  a37 := Tryz.isAgg22
  z37 := Tryz.sizeOf22
  v37 := Tryz.zeroValue22
  t70 := Tryz.underlying110
  a70 := Tryz.isAgg110
  z70 := Tryz.sizeOf110
  v70 := Tryz.zeroValue110
  t72 := Tryz.underlying112
  a72 := Tryz.isAgg112
  z72 := Tryz.sizeOf112
  v72 := Tryz.zeroValue112
  t75 := Tryz.underlying83
  a75 := Tryz.isAgg83
  z75 := Tryz.sizeOf83
  v75 := Tryz.zeroValue83
  t76 := Tryz.underlying114
  a76 := Tryz.isAgg114
  z76 := Tryz.sizeOf114
  v76 := Tryz.zeroValue114
  t127 := Tryz.underlying134
  a127 := Tryz.isAgg134
  z127 := Tryz.sizeOf134
  v127 := Tryz.zeroValue134
  t164 := Tryz.underlying154
  a164 := Tryz.isAgg154
  z164 := Tryz.sizeOf154
  v164 := Tryz.zeroValue154 }
theorem Tryz.Builder_Extra_156 : Builder.Extra Tryz.prog Tryz.lays156_ren := {
  sizeBuilder := by kernel_rfl
  liesBuilder := by kernel_rfl
  t5 := Tryz.underlying5
  a5 := Tryz.isAgg5
  z5 := Tryz.sizeOf5
  v5 := Tryz.zeroValue5
  infoByte := by kernel_rfl
  cellsByte := by kernel_rfl
  sizeByte := by kernel_rfl
  neB5 := by decide }
open Go.RowKit in
theorem Tryz.strings_Join (bk o c : Nat) (xs : List ByteArray) (sep : ByteArray) (w : World) (hcells : ∀ (j : Nat) x, xs[j]? = some x → w.cell? ⟨bk, o + j, none⟩ = some (.string x)) (hbk : bk < w.heap.size) (hN : xs.length ≤ 140737488355328) (hcap : xs.length ≤ c) (hlen : (Lib.join (xs.map (·.data.toList)) sep.data.toList).length ≤ 140737488355328) :
    Calls Tryz.prog 60 #[.slice (some ⟨bk, o, none⟩) xs.length c, .string sep] w fun e w' => e = .returned (.string ⟨(Lib.join (xs.map (·.data.toList)) sep.data.toList).toArray⟩) ∧ Below w.heap.size w w' := Any.strings_Join Tryz.lays156 Tryz.Builder_Extra_156 bk o c xs sep w hcells hbk hN hcap hlen
open Go.RowKit in
theorem Tryz.strconv_toError_syntax (fn s : ByteArray) (base bits : Int) (ev : Value) (w : World) (hlim : s.size ≤ 281474976710656) (hv : w.cell? ⟨2, 0, none⟩ = some ev) (hev : ev = .nilIface ∨ ∃ te pe, ev = .iface te pe) :
    Calls Tryz.prog 74 #[.string fn, .string s, .int .i64 base, .int .i64 bits, .iface 120 (.int .i64 2)] w fun e w' => ∃ N, e = .returned (.iface 121 (.pointer (some ⟨N, 0, none⟩))) ∧ w.heap.size ≤ N ∧ w'.heap[N]? = some (.cells #[.string fn, .string s, ev] 141 (0, 0)) ∧ Below w.heap.size w w' := Any.strconv_toError_syntax Tryz.laysC245 fn s base bits ev w hlim hv hev
def Tryz.laysC174_ren : Go.Shelf.Ren := ⟨fun | 174 => 53 | 247 => 73 | 245 => 74 | 287 => 89 | 279 => 90 | 280 => 91 | 281 => 92 | 282 => 93 | 321 => 109 | 322 => 110 | 316 => 111 | 171 => 33 | 205 => 112 | 243 => 58 | 246 => 75 | 283 => 94 | 284 => 95 | 285 => 96 | 286 => 97 | 129 => 114 | 317 => 113 | 318 => 115 | 319 => 116 | 320 => 117 | 337 => 126 | 338 => 127 | n => n, fun | 9 => 9 | 3 => 3 | 2 => 2 | 75 => 83 | 85 => 84 | 4 => 4 | 167 => 120 | 5 => 5 | 53 => 79 | 175 => 104 | 46 => 117 | 168 => 121 | 37 => 22 | 0 => 0 | 210 => 141 | 21 => 21 | 127 => 134 | 145 => 159 | 143 => 157 | 171 => 124 | 173 => 127 | 212 => 144 | 51 => 95 | 20 => 20 | 213 => 145 | 232 => 161 | 233 => 162 | 80 => 116 | n => n, fun | 15 => 2 | 16 => 3 | 17 => 4 | 18 => 5 | 19 => 6 | n => n⟩
theorem Tryz.laysC174 : Go.Proofs.LaysC.n174 Tryz.prog Tryz.laysC174_ren := {
  mixed := by kernel_rfl
  f129 := Tryz.func114.trans (congrArg some (by kernel_rfl))
  f171 := Tryz.func33.trans (congrArg some (by kernel_rfl))
  f174 := Tryz.func53.trans (congrArg some (by kernel_rfl))
  f205 := Tryz.func112.trans (congrArg some (by kernel_rfl))
  f243 := Tryz.func58.trans (congrArg some (by kernel_rfl))
  f245 := Tryz.func74.trans (congrArg some (by kernel_rfl))
  f246 := Tryz.func75.trans (congrArg some (by kernel_rfl))
  f247 := Tryz.func73.trans (congrArg some (by kernel_rfl))
  f279 := Tryz.func90.trans (congrArg some (by kernel_rfl))
  f280 := Tryz.func91.trans (congrArg some (by kernel_rfl))
  f281 := Tryz.func92.trans (congrArg some (by kernel_rfl))
  f282 := Tryz.func93.trans (congrArg some (by kernel_rfl))
  f283 := Tryz.func94.trans (congrArg some (by kernel_rfl))
  f284 := Tryz.func95.trans (congrArg some (by kernel_rfl))
  f285 := Tryz.func96.trans (congrArg some (by kernel_rfl))
  f286 := Tryz.func97.trans (congrArg some (by kernel_rfl))
  f287 := Tryz.func89.trans (congrArg some (by kernel_rfl))
  f316 := Tryz.func111.trans (congrArg some (by kernel_rfl))
  f317 := Tryz.func113.trans (congrArg some (by kernel_rfl))
  f318 := Tryz.func115.trans (congrArg some (by kernel_rfl))
  f319 := Tryz.func116.trans (congrArg some (by kernel_rfl))
  f320 := Tryz.func117.trans (congrArg some (by kernel_rfl))
  f321 := Tryz.func109.trans (congrArg some (by kernel_rfl))
  f322 := Tryz.func110.trans (congrArg some (by kernel_rfl))
  f337 := Tryz.func126.trans (congrArg some (by kernel_rfl))
  f338 := Tryz.func127.trans (congrArg some (by kernel_rfl))
  t0 := Tryz.underlying0
  a0 := Tryz.isAgg0
  z0 := Tryz.sizeOf0
  v0 := Tryz.zeroValue0
  t2 := Tryz.underlying2
  a2 := Tryz.isAgg2
  z2 := Tryz.sizeOf2
  v2 := Tryz.zeroValue2
  t3 := Tryz.underlying3
  a3 := Tryz.isAgg3
  z3 := Tryz.sizeOf3
  v3 := Tryz.zeroValue3
  t4 := Tryz.underlying4
  a4 := Tryz.isAgg4
  z4 := Tryz.sizeOf4
  v4 := Tryz.zeroValue4
  t5 := Tryz.underlying5
  a5 := Tryz.isAgg5
  z5 := Tryz.sizeOf5
  v5 := Tryz.zeroValue5
  t9 := Tryz.underlying9
  a9 := Tryz.isAgg9
  z9 := Tryz.sizeOf9
  v9 := Tryz.zeroValue9
  t20 := Tryz.underlying20
  a20 := Tryz.isAgg20
  z20 := Tryz.sizeOf20
  v20 := Tryz.zeroValue20
  t21 := Tryz.underlying21
  a21 := Tryz.isAgg21
  z21 := Tryz.sizeOf21
  v21 := Tryz.zeroValue21
  t37 := Tryz.underlying22
  a37 := Tryz.isAgg22
  z37 := Tryz.sizeOf22
  v37 := Tryz.zeroValue22
  t46 := Tryz.underlying117
  a46 := Tryz.isAgg117
  z46 := Tryz.sizeOf117
  v46 := Tryz.zeroValue117
  t51 := Tryz.underlying95
  a51 := Tryz.isAgg95
  z51 := Tryz.sizeOf95
  v51 := Tryz.zeroValue95
  t53 := Tryz.underlying79
  a53 := Tryz.isAgg79
  z53 := Tryz.sizeOf79
  v53 := Tryz.zeroValue79
  t75 := Tryz.underlying83
  a75 := Tryz.isAgg83
  z75 := Tryz.sizeOf83
  v75 := Tryz.zeroValue83
  t85 := Tryz.underlying84
  a85 := Tryz.isAgg84
  z85 := Tryz.sizeOf84
  v85 := Tryz.zeroValue84
  t127 := Tryz.underlying134
  a127 := Tryz.isAgg134
  z127 := Tryz.sizeOf134
  v127 := Tryz.zeroValue134
  t143 := Tryz.underlying157
  a143 := Tryz.isAgg157
  z143 := Tryz.sizeOf157
  v143 := Tryz.zeroValue157
  t145 := Tryz.underlying159
  a145 := Tryz.isAgg159
  z145 := Tryz.sizeOf159
  v145 := Tryz.zeroValue159
  t167 := Tryz.underlying120
  a167 := Tryz.isAgg120
  z167 := Tryz.sizeOf120
  v167 := Tryz.zeroValue120
  t168 := Tryz.underlying121
  a168 := Tryz.isAgg121
  z168 := Tryz.sizeOf121
  v168 := Tryz.zeroValue121
  t171 := Tryz.underlying124
  a171 := Tryz.isAgg124
  z171 := Tryz.sizeOf124
  v171 := Tryz.zeroValue124
  t173 := Tryz.underlying127
  a173 := Tryz.isAgg127
  z173 := Tryz.sizeOf127
  v173 := Tryz.zeroValue127
  t175 := Tryz.underlying104
  a175 := Tryz.isAgg104
  z175 := Tryz.sizeOf104
  v175 := Tryz.zeroValue104
  t210 := Tryz.underlying141
  a210 := Tryz.isAgg141
  z210 := Tryz.sizeOf141
  v210 := Tryz.zeroValue141
  t212 := Tryz.underlying144
  a212 := Tryz.isAgg144
  z212 := Tryz.sizeOf144
  v212 := Tryz.zeroValue144
  t213 := Tryz.underlying145
  a213 := Tryz.isAgg145
  z213 := Tryz.sizeOf145
  t232 := Tryz.underlying161
  a232 := Tryz.isAgg161
  z232 := Tryz.sizeOf161
  v232 := Tryz.zeroValue161
  t233 := Tryz.underlying162
  a233 := Tryz.isAgg162
  z233 := Tryz.sizeOf162
  v233 := Tryz.zeroValue162
  g15 := by kernel_rfl
  g16 := by kernel_rfl
  g17 := by kernel_rfl
  g18 := by kernel_rfl
  g19 := by kernel_rfl
  t80 := Tryz.underlying116
  a80 := Tryz.isAgg116
  z80 := Tryz.sizeOf116
  v80 := Tryz.zeroValue116
  i0 := by kernel_rfl
  i2 := by kernel_rfl
  i3 := by kernel_rfl
  i4 := by kernel_rfl
  i5 := by kernel_rfl
  i9 := by kernel_rfl
  i20 := by kernel_rfl
  i21 := by kernel_rfl
  i37 := by kernel_rfl
  i46 := by kernel_rfl
  i51 := by kernel_rfl
  i53 := by kernel_rfl
  i75 := by kernel_rfl
  i80 := by kernel_rfl
  i85 := by kernel_rfl
  i127 := by kernel_rfl
  i143 := by kernel_rfl
  i145 := by kernel_rfl
  i167 := by kernel_rfl
  i168 := by kernel_rfl
  i171 := by kernel_rfl
  i173 := by kernel_rfl
  i175 := by kernel_rfl
  i210 := by kernel_rfl
  i212 := by kernel_rfl
  i232 := by kernel_rfl
  i233 := by kernel_rfl
  m15 := by kernel_rfl
  m16 := by kernel_rfl
  m17 := by kernel_rfl
  m18 := by kernel_rfl
  m19 := by kernel_rfl
  c0 := by kernel_rfl
  c2 := by kernel_rfl
  c3 := by kernel_rfl
  c4 := by kernel_rfl
  c5 := by kernel_rfl
  c9 := by kernel_rfl
  c20 := by kernel_rfl
  c21 := by kernel_rfl
  c37 := by kernel_rfl
  c46 := by kernel_rfl
  c51 := by kernel_rfl
  c53 := by kernel_rfl
  c75 := by kernel_rfl
  c80 := by kernel_rfl
  c85 := by kernel_rfl
  c127 := by kernel_rfl
  c143 := by kernel_rfl
  c145 := by kernel_rfl
  c167 := by kernel_rfl
  c168 := by kernel_rfl
  c171 := by kernel_rfl
  c173 := by kernel_rfl
  c175 := by kernel_rfl
  c210 := by kernel_rfl
  c212 := by kernel_rfl
  c213 := by kernel_rfl
  c232 := by kernel_rfl
  c233 := by kernel_rfl }
open Go.RowKit in
theorem Tryz.strconv_ParseInt_10_at8_ok (s : ByteArray) (hmax : s.size ≤ 9223372036854775806) (v : Int) (h : Lib.parseIntB 8 s.data.toList = .ok v) (w : World) :
    Calls Tryz.prog 53 #[.string s, .int .i64 10, .int .i64 8] w fun e w' => e = .returned (.tuple #[.int .i64 v, .nilIface]) ∧ (w' = w ∨ ∃ t, w' = Lib.bytesWorld w 5 t) := Any.strconv_ParseInt_10_at8_ok Tryz.laysC174 s hmax v h w
open Go.RowKit in
theorem Tryz.strconv_ParseInt_10_at8_range (s : ByteArray) (hlim : s.size ≤ 281474976710656) (h : Lib.parseIntB 8 s.data.toList = .range) (ev : Value) (w : World) (hv : w.cell? ⟨3, 0, none⟩ = some ev) (hev : ev = .nilIface ∨ ∃ te pe, ev = .iface te pe) :
    Calls Tryz.prog 53 #[.string s, .int .i64 10, .int .i64 8] w fun e w' => ∃ N, e = .returned (.tuple #[.int .i64 (Lib.intSat 8 s.data.toList), .iface 121 (.pointer (some ⟨N, 0, none⟩))]) ∧ w.heap.size ≤ N ∧ w'.heap[N]? = some (.cells #[.string ⟨#[80, 97, 114, 115, 101, 73, 110, 116]⟩, .string s, ev] 141 (0, 0)) ∧ Below w.heap.size w w' := Any.strconv_ParseInt_10_at8_range Tryz.laysC174 s hlim h ev w hv hev
def Tryz.lays146_ren : Go.Shelf.Ren := ⟨fun | 146 => 55 | 221 => 76 | 268 => 98 | 138 => 99 | 143 => 100 | 195 => 118 | 197 => 119 | 218 => 120 | 219 => 72 | 260 => 128 | 217 => 85 | 225 => 86 | 224 => 87 | 267 => 88 | 266 => 107 | 314 => 108 | n => n, fun | 9 => 9 | 31 => 87 | 3 => 3 | 4 => 4 | 0 => 0 | 105 => 149 | 21 => 21 | 5 => 5 | 46 => 117 | 119 => 163 | 139 => 166 | 138 => 165 | 146 => 135 | 51 => 95 | n => n, fun | 1 => 1 | 3 => 7 | 4 => 8 | n => n⟩
theorem Tryz.lays146 : Go.Proofs.Lays.n146 Tryz.prog Tryz.lays146_ren := {
  mixed := by kernel_rfl
  f138 := Tryz.func99.trans (congrArg some (by kernel_rfl))
  f143 := Tryz.func100.trans (congrArg some (by kernel_rfl))
  f146 := Tryz.func55.trans (congrArg some (by kernel_rfl))
  f195 := Tryz.func118.trans (congrArg some (by kernel_rfl))
  f197 := Tryz.func119.trans (congrArg some (by kernel_rfl))
  f217 := Tryz.func85.trans (congrArg some (by kernel_rfl))
  f218 := Tryz.func120.trans (congrArg some (by kernel_rfl))
  f219 := Tryz.func72.trans (congrArg some (by kernel_rfl))
  f221 := Tryz.func76.trans (congrArg some (by kernel_rfl))
  f224 := Tryz.func87.trans (congrArg some (by kernel_rfl))
  f225 := Tryz.func86.trans (congrArg some (by kernel_rfl))
  f260 := Tryz.func128.trans (congrArg some (by kernel_rfl))
  f266 := Tryz.func107.trans (congrArg some (by kernel_rfl))
  f267 := Tryz.func88.trans (congrArg some (by kernel_rfl))
  f268 := Tryz.func98.trans (congrArg some (by kernel_rfl))
  f314 := Tryz.func108.trans (congrArg some (by kernel_rfl))
  t0 := Tryz.underlying0
  a0 := Tryz.isAgg0
  z0 := Tryz.sizeOf0
  v0 := Tryz.zeroValue0
  t3 := Tryz.underlying3
  a3 := Tryz.isAgg3
  z3 := Tryz.sizeOf3
  v3 := Tryz.zeroValue3
  t4 := Tryz.underlying4
  a4 := Tryz.isAgg4
  z4 := Tryz.sizeOf4
  v4 := Tryz.zeroValue4
  t5 := Tryz.underlying5
  a5 := Tryz.isAgg5
  z5 := Tryz.sizeOf5
  v5 := Tryz.zeroValue5
  t9 := Tryz.underlying9
  a9 := Tryz.isAgg9
  z9 := Tryz.sizeOf9
  v9 := Tryz.zeroValue9
  t21 := Tryz.underlying21
  a21 := Tryz.isAgg21
  z21 := Tryz.sizeOf21
  v21 := Tryz.zeroValue21
  t31 := Tryz.underlying87
  a31 := Tryz.isAgg87
  z31 := Tryz.sizeOf87
  v31 := Tryz.zeroValue87
  t46 := Tryz.underlying117
  a46 := Tryz.isAgg117
  z46 := Tryz.sizeOf117
  v46 := Tryz.zeroValue117
  t51 := Tryz.underlying95
  a51 := Tryz.isAgg95
  z51 := Tryz.sizeOf95
  v51 := Tryz.zeroValue95
  t105 := Tryz.underlying149
  a105 := Tryz.isAgg149
  z105 := Tryz.sizeOf149
  v105 := Tryz.zeroValue149
  t119 := Tryz.underlying163
  a119 := Tryz.isAgg163
  z119 := Tryz.sizeOf163
  t138 := Tryz.underlying165
  a138 := Tryz.isAgg165
  z138 := Tryz.sizeOf165
  v138 := Tryz.zeroValue165
  t139 := Tryz.underlying166
  a139 := Tryz.isAgg166
  z139 := Tryz.sizeOf166
  v139 := Tryz.zeroValue166
  t146 := Tryz.underlying135
  a146 := Tryz.isAgg135
  z146 := Tryz.sizeOf135
  v146 := Tryz.zeroValue135
  g1 := by kernel_rfl
  g3 := by kernel_rfl
  g4 := by kernel_rfl }
open Go.RowKit Go.Lib in
theorem Tryz.strings_Split (s sep : ByteArray) (m : Int) (w : World) (hs : s.size < 4294967281) (hm : w.cell? ⟨1, 0, none⟩ = some (.int .i64 m)) (h1 : 1 ≤ sep.size) :
    Calls Tryz.prog 55 #[.string s, .string sep] w fun e w' =>
      e = .returned (.slice (some ⟨w.heap.size, 0, none⟩) (Lib.countB s sep + 1) (Lib.countB s sep + 1)) ∧ w' = w.alloc (.cells ((Lib.splitB sep 0 (Lib.countB s sep) s).map Value.string).toArray 9) := Any.strings_Split Tryz.lays146 (by kernel_rfl) s sep m w hs hm h1
end Go.Proofs

/-! Numbers that are read from texts; plain, no program in sight. -/
set_option linter.unusedVariables false
set_option linter.unusedSimpArgs false
namespace Go.Proofs.YtkokekndiammpaaGreatDoor
open Go.RowKit Go.Lib

/-- The bits of the number with a text. -/
def readOf (l : List UInt8) : Option Nat := if l.length = 8 then (hexV 0 l).bind fun v => if canonB v = v then some v else none else none
/-- The value of digits of 32 bits at most, one digit at least. -/
def hexUE (l : List UInt8) : Option Nat := if l = [] then none else hexU 0 l

theorem canonB_idem (a : Nat) : canonB (canonB a) = canonB a := by
  unfold canonB
  split
  · rw [if_pos]
    decide +kernel
  · rfl
theorem canonB_lt {a : Nat} (h : a < 2 ^ 32) : canonB a < 2 ^ 32 := by
  unfold canonB
  split
  · decide
  · exact h
theorem digU_of_digOf {c d : Nat} (h : digOf c = some d) : digU c = some d := by
  unfold digOf at h
  unfold digU
  split at h
  · rename_i h1
    rw [if_pos h1]; exact h
  · rename_i h1
    rw [if_neg h1]
    split at h
    · rename_i h2
      rw [if_pos h2]; exact h
    · exact absurd h (by simp)
theorem hexV_le : ∀ (l : List UInt8) (a v : Nat), hexV a l = some v → a ≤ v
  | [], a, v, h => by simp [hexV] at h; omega
  | c :: l, a, v, h => by
    rw [hexV_cons] at h
    cases hd : digOf c.toNat with
    | none => rw [hd] at h; simp at h
    | some d =>
      rw [hd] at h
      have := hexV_le l _ _ h
      omega
theorem hexU_of_hexV : ∀ (l : List UInt8) (a v : Nat), hexV a l = some v → v ≤ 4294967295 → hexU a l = some v
  | [], a, v, h, _ => h
  | c :: l, a, v, h, hv => by
    rw [hexV_cons] at h
    cases hd : digOf c.toNat with
    | none => rw [hd] at h; simp at h
    | some d =>
      rw [hd] at h
      have h' : hexV (a * 16 + d) l = some v := h
      have := hexV_le l _ _ h'
      show (match digU c.toNat with | some d => if a * 16 + d ≤ 4294967295 then hexU (a * 16 + d) l else none | none => none) = some v
      rw [digU_of_digOf hd]
      show (if a * 16 + d ≤ 4294967295 then hexU (a * 16 + d) l else none) = some v
      rw [if_pos (by omega)]
      exact hexU_of_hexV l _ _ h' hv
theorem hexU_le : ∀ (l : List UInt8) (a v : Nat), hexU a l = some v → a ≤ 4294967295 → v ≤ 4294967295
  | [], a, v, h, ha => by simp [hexU] at h; omega
  | c :: l, a, v, h, ha => by
    have h' : (match digU c.toNat with | some d => if a * 16 + d ≤ 4294967295 then hexU (a * 16 + d) l else none | none => none) = some v := h
    cases hd : digU c.toNat with
    | none => rw [hd] at h'; simp at h'
    | some d =>
      rw [hd] at h'
      have h2 : (if a * 16 + d ≤ 4294967295 then hexU (a * 16 + d) l else none) = some v := h'
      split at h2
      · exact hexU_le l _ _ h2 (by assumption)
      · exact absurd h2 (by simp)
theorem hexUE_lt {l : List UInt8} {v : Nat} (h : hexUE l = some v) : v < 2 ^ 32 := by
  unfold hexUE at h
  split at h
  · exact absurd h (by simp)
  · have := hexU_le _ _ _ h (by omega)
    omega
theorem hexUE_hexL {v : Nat} (h : v < 2 ^ 32) : hexUE (hexL 8 v) = some v := by
  have h0 : hexL 8 v ≠ [] := fun e => by have := hexL_length 8 v; rw [e] at this; simp at this
  unfold hexUE
  rw [if_neg h0]
  have hv := hexV_hexL 8 v 0 (by simpa using h)
  simp at hv
  exact hexU_of_hexV _ _ _ hv (by omega)
theorem readOf_some {l : List UInt8} {v : Nat} (h : readOf l = some v) : l = numText v ∧ v < 2 ^ 32 ∧ canonB v = v := by
  unfold readOf at h
  split at h
  · rename_i hl
    cases hx : hexV 0 l with
    | none => rw [hx] at h; simp at h
    | some b =>
      rw [hx] at h
      simp only [Option.bind] at h
      split at h
      · rename_i hc
        injection h with h
        subst h
        obtain ⟨h1, h2⟩ := hexL_hexV l b hx
        rw [hl] at h1 h2
        refine ⟨?_, by simpa using h1, hc⟩
        unfold numText
        rw [hc]
        exact h2
      · exact absurd h (by simp)
  · exact absurd h (by simp)
theorem readOf_numText {a : Nat} (h : a < 2 ^ 32) : readOf (numText a) = some (canonB a) := by
  have hv := hexV_hexL 8 (canonB a) 0 (by simpa using canonB_lt h)
  simp at hv
  unfold readOf
  rw [if_pos (numText_length a)]
  show (hexV 0 (hexL 8 (canonB a))).bind _ = _
  rw [hv]
  show (if canonB (canonB a) = canonB a then some (canonB a) else none) = _
  rw [if_pos (canonB_idem a)]
/-- What the program makes of it: the value of the digits, and the text of that number held against the text. -/
theorem readOf_by (l : List UInt8) : readOf l = match hexUE l with | some n => if numText n = l then some n else none | none => none := by
  cases hx : hexUE l with
  | none =>
    cases hr : readOf l with
    | none => rfl
    | some v =>
      obtain ⟨h1, h2, h3⟩ := readOf_some hr
      rw [h1] at hx
      unfold numText at hx
      rw [h3, hexUE_hexL h2] at hx
      exact absurd hx (by simp)
  | some n =>
    show _ = if numText n = l then some n else none
    have hn := hexUE_lt hx
    split
    · rename_i h
      subst h
      rw [readOf_numText hn]
      unfold numText at hx
      rw [hexUE_hexL (canonB_lt hn)] at hx
      exact hx
    · rename_i h
      cases hr : readOf l with
      | none => rfl
      | some v =>
        obtain ⟨h1, h2, h3⟩ := readOf_some hr
        exfalso
        apply h
        have : hexUE l = some v := by
          rw [h1]
          unfold numText
          rw [h3, hexUE_hexL h2]
        rw [this] at hx
        injection hx with hx
        rw [← hx, ← h1]
theorem readOf_len {l : List UInt8} (h : l.length ≠ 8) : readOf l = none := if_neg h
end Go.Proofs.YtkokekndiammpaaGreatDoor

/-! The number of a text: the program's and the reference's. -/
set_option linter.unusedVariables false
set_option linter.unusedSimpArgs false
namespace Go.Proofs.YtkokekndiammpaaGreatDoor
open Go.RowKit Go.Lib

theorem strNe {a b : ByteArray} (h : ¬ a = b) : (a.toList == b.toList) = false := by
  rw [ByteArray.toList_eq, ByteArray.toList_eq]
  simp only [beq_eq_false_iff_ne, ne_eq]
  exact fun e => h (ByteArray.ext (Array.toList_inj.1 e))
/-- What of Go's library is read. -/
structure Libs (w : World) : Prop where
  db : w.cell? ⟨6, 15, none⟩ = some (.int .u8 4)
  es : ∃ tp p, w.cell? ⟨2, 0, none⟩ = some (.iface tp p)
  er : ∃ tp p, w.cell? ⟨3, 0, none⟩ = some (.iface tp p)
theorem Libs.on {w w' : World} {B : Nat} (h : Libs w) (hb : Below B w w') (hB : w.heap.size ≤ B) : Libs w' := by
  obtain ⟨tp, p, e1⟩ := h.es
  obtain ⟨tq, q, e2⟩ := h.er
  exact ⟨(hb.cell (Nat.lt_of_lt_of_le (World.block_lt_of_cell? _ _ h.db) hB)).trans h.db,
    ⟨tp, p, (hb.cell (Nat.lt_of_lt_of_le (World.block_lt_of_cell? _ _ e1) hB)).trans e1⟩,
    ⟨tq, q, (hb.cell (Nat.lt_of_lt_of_le (World.block_lt_of_cell? _ _ e2) hB)).trans e2⟩⟩

theorem parseUintIn (t : ByteArray) (hmax : t.size ≤ 1048576) (w : World) :
    Calls Tryz.prog 89 #[.string t, .int .i64 16, .int .i64 32] w fun e w' => (∃ v, e = .returned v ∧ uintEnd 120 (hexUE t.data.toList) v) ∧ Below w.heap.size w w' := by
  by_cases h0 : t.size = 0
  · have ht : t = ⟨#[]⟩ := by
      apply ByteArray.ext
      exact Array.eq_empty_of_size_eq_zero h0
    subst ht
    refine (Tryz.internal_strconv_ParseUint_empty 16 32 w).mono fun e w' ⟨he, hw⟩ => ⟨⟨_, he, ?_⟩, by rw [hw]; exact Below.refl _ _⟩
    exact ⟨0, 2, Or.inr rfl, rfl⟩
  · have hne : t.data.toList ≠ [] := fun h => h0 (by rw [Lib.size_eq, h]; rfl)
    refine (parseUint16 (P := Tryz.prog) { Tryz.lays287 with } t h0 (by omega) w).mono fun e w' ⟨he, hw⟩ => ⟨?_, by rw [hw]; exact Lib.bytesWorld_below _ _ _⟩
    unfold hexUE
    rw [if_neg hne]
    exact he

set_option maxHeartbeats 1000000 in
set_option maxRecDepth 100000 in
theorem parseUintPub (t : ByteArray) (hmax : t.size ≤ 1048576) (w : World) (hL : Libs w) :
    Calls Tryz.prog 77 #[.string t, .int .i64 16, .int .i64 32] w fun e w' => (∃ v, e = .returned v ∧ match hexUE t.data.toList with | some n => v = .tuple #[.int .u64 n, .nilIface] | none => ∃ M T p, v = .tuple #[.int .u64 M, .iface T p]) ∧ Below w.heap.size w w' := by
  have hI := parseUintIn t hmax w
  cases hx : hexUE t.data.toList with
  | some n =>
    rw [hx] at hI
    have hI' : Calls Tryz.prog 89 #[.string t, .int .i64 16, .int .i64 32] w fun e w' => e = .returned (.tuple #[.int .u64 n, .nilIface]) ∧ Below w.heap.size w w' := hI.mono fun e w' ⟨⟨v, h1, h2⟩, h3⟩ => ⟨by rw [h1]; exact congrArg _ h2, h3⟩
    clear hI hx
    go_enter Tryz.func77, Tryz.ntmps77
    go_wp2_with (go_at_call 89; with_reducible refine hI'.mono ?_; rintro e w1 ⟨rfl, hb1⟩)
    go_ret2
    exact ⟨⟨_, rfl, rfl⟩, hb1⟩
  | none =>
    rw [hx] at hI
    have hI' : Calls Tryz.prog 89 #[.string t, .int .i64 16, .int .i64 32] w fun e w' => (∃ M, e = .returned (.tuple #[.int .u64 M, .iface 120 (.int .i64 1)]) ∨ e = .returned (.tuple #[.int .u64 M, .iface 120 (.int .i64 2)])) ∧ Below w.heap.size w w' := hI.mono fun e w' ⟨⟨v, h1, M, c, hc, h2⟩, h3⟩ => ⟨⟨M, by
      rcases hc with rfl | rfl
      · exact Or.inl (by rw [h1, h2])
      · exact Or.inr (by rw [h1, h2])⟩, h3⟩
    clear hI hx
    go_enter Tryz.func77, Tryz.ntmps77
    go_wp2_with fail
    go_at_call 89
    with_reducible refine hI'.mono ?_
    rintro e w1 ⟨⟨M, rfl | rfl⟩, hb1⟩
    · obtain ⟨tp, p, hev⟩ := (hL.on hb1 (Nat.le_refl _)).er
      have hT := Tryz.strconv_toError_range ⟨#[80, 97, 114, 115, 101, 85, 105, 110, 116]⟩ t 16 32 (.iface tp p) w1 (by omega) hev (Or.inr ⟨tp, p, rfl⟩)
      go_wp2_with fail
      go_at_call 74
      with_reducible refine calls_args (b := #[.string ⟨#[80, 97, 114, 115, 101, 85, 105, 110, 116]⟩, .string t, .int .i64 16, .int .i64 32, .iface 120 (.int .i64 1)]) (by kernel_rfl) ?_
      with_reducible refine hT.mono ?_
      rintro e w2 ⟨N, rfl, _, _, hb2⟩
      go_wp2
      go_ret2
      exact ⟨⟨_, rfl, _, _, _, rfl⟩, hb1.trans (hb2.mono hb1.size)⟩
    · obtain ⟨tp, p, hev⟩ := (hL.on hb1 (Nat.le_refl _)).es
      have hT := Tryz.strconv_toError_syntax ⟨#[80, 97, 114, 115, 101, 85, 105, 110, 116]⟩ t 16 32 (.iface tp p) w1 (by omega) hev (Or.inr ⟨tp, p, rfl⟩)
      go_wp2_with fail
      go_at_call 74
      with_reducible refine calls_args (b := #[.string ⟨#[80, 97, 114, 115, 101, 85, 105, 110, 116]⟩, .string t, .int .i64 16, .int .i64 32, .iface 120 (.int .i64 2)]) (by kernel_rfl) ?_
      with_reducible refine hT.mono ?_
      rintro e w2 ⟨N, rfl, _, _, hb2⟩
      go_wp2
      go_ret2
      exact ⟨⟨_, rfl, _, _, _, rfl⟩, hb1.trans (hb2.mono hb1.size)⟩

/-- What ReadNumber hands back. -/
def readRes (o : Option Nat) : Value := match o with | some v => .tuple #[.float .f32 v, .int .i64 0] | none => .tuple #[.float .f32 0, .int .i64 5]

set_option maxHeartbeats 1000000 in
set_option maxRecDepth 100000 in
theorem implReadNumber (t : ByteArray) (hmax : t.size ≤ 1048576) (w : World) (hL : Libs w) :
    Calls Tryz.prog 56 #[.string t] w fun e w' => e = .returned (readRes (readOf t.data.toList)) ∧ Below w.heap.size w w' := by
  have hfrom : ∀ x w, (callFunc 78 #[.int .u32 x]).run Tryz.prog w = .ok (.value (.float .f32 x.toNat)) w := fun x w => by kernel_rfl
  have hI := parseUintPub t hmax w hL
  cases hx : hexUE t.data.toList with
  | none =>
    have hG : readOf t.data.toList = none := by rw [readOf_by, hx]
    rw [hG]
    rw [hx] at hI
    clear hG
    clear hx
    go_enter Tryz.func56, Tryz.ntmps56
    go_wp2_with (go_at_call 77; with_reducible refine hI.mono ?_; rintro e w1 ⟨⟨v, rfl, M, T, p, rfl⟩, hb1⟩)
    go_ret2
    exact ⟨rfl, hb1⟩
  | some n =>
    rw [hx] at hI
    have hI' : Calls Tryz.prog 77 #[.string t, .int .i64 16, .int .i64 32] w fun e w' => e = .returned (.tuple #[.int .u64 n, .nilIface]) ∧ Below w.heap.size w w' := hI.mono fun e w' ⟨⟨v, h1, h2⟩, h3⟩ => ⟨by rw [h1]; exact congrArg _ h2, h3⟩
    have hn := hexUE_lt hx
    have hn2 : n < 4294967296 := by simpa using hn
    have hN := fun w1 h => implNumberText n hn w1 h
    clear hI
    obtain ⟨S, hS⟩ : ∃ S : ByteArray, S = ⟨(numText n).toArray⟩ := ⟨_, rfl⟩
    simp only [← hS] at hN
    have hSl : S.data.toList = numText n := by rw [hS]
    by_cases hq : numText n = t.data.toList
    · have hst : S = t := by
        apply ByteArray.ext
        apply Array.toList_inj.1
        rw [hSl, hq]
      have hG : readOf t.data.toList = some n := by rw [readOf_by, hx]; exact if_pos hq
      rw [hG]
      subst hst
      have HL := Lib.hid hL
      clear hS hSl hq hn hG hL hx
      go_enter Tryz.func56, Tryz.ntmps56
      go_wp2_with (first
        | (go_at_call 77; with_reducible refine hI'.mono ?_; rintro e w1 ⟨rfl, hb1⟩)
        | (go_at_call 59; with_reducible refine (hN _ (HL.out.on hb1 (Nat.le_refl _)).db).mono ?_; rintro e w2 ⟨rfl, hb2⟩))
      go_ret2
      exact ⟨rfl, hb1.trans (hb2.mono hb1.size)⟩
    · have hst : ¬ S = t := fun e => hq (by rw [← hSl, e])
      have hG : readOf t.data.toList = none := by rw [readOf_by, hx]; exact if_neg hq
      rw [hG]
      have HL := Lib.hid hL
      clear hS hSl hq hn hG hL hx
      go_enter Tryz.func56, Tryz.ntmps56
      go_wp2_with (first
        | (go_at_call 77; with_reducible refine hI'.mono ?_; rintro e w1 ⟨rfl, hb1⟩)
        | (go_at_call 59; with_reducible refine (hN _ (HL.out.on hb1 (Nat.le_refl _)).db).mono ?_; rintro e w2 ⟨rfl, hb2⟩))
      · go_ret2
        exact ⟨rfl, hb1.trans (hb2.mono hb1.size)⟩
      · rename_i hbad
        exact absurd (strNe hst) (by rw [Bool.not_eq_false'] at hbad; rw [hbad]; simp)
end Go.Proofs.YtkokekndiammpaaGreatDoor

/-! What a row's listed tables give: a number's table of bits/TrailingZeros holds 4 at place 15; the powers of ten. -/
namespace Go.Proofs.YtkokekndiammpaaGreatDoor
open Go.ChangeShapes Go.WideShapes Go.ChangeAt Go.RowKit

theorem debruijn_cell {W : World} {x : String × DataW Unit} {rest : List (String × DataW Unit)} (h : laidMet Tryz.prog (x :: ("math/bits.deBruijn64tab", Rows.laid_math_bits_deBruijn64tab) :: rest) W) :
    W.cell? ⟨6, 15, none⟩ = some (.int .u8 4) := by
  have h1 : Lib.TabIs Tryz.prog W "math/bits.deBruijn64tab" .u8 deBruijn64 :=
    Lib.tabIs_of_head (g := 6) (t := 162) (e := 5) (n := 64) (rest := rest) (by kernel_rfl) (by kernel_rfl) (by kernel_rfl) (by kernel_rfl) (by kernel_rfl) (by kernel_rfl) h.tail
  exact h1.cell (by kernel_rfl) 15 (by decide)
end Go.Proofs.YtkokekndiammpaaGreatDoor

/-! What a row's listed variables give the readers of texts: the table, the two errors; the powers of ten. -/
namespace Go.Proofs.YtkokekndiammpaaGreatDoor
open Go.ChangeShapes Go.WideShapes Go.ChangeAt Go.RowKit

theorem star_es : "*" ++ "errors.errorString" = "*errors.errorString" := by decide
theorem row_es : ∀ u, Tryz.prog.typeName? 3 u = some "*errors.errorString" → u = 157 := fun u h =>
  typeName_ptr_named (nm := "errors.errorString") (by rw [star_es]; kernel_rfl) (by kernel_rfl) (by decide) u (by rw [star_es]; exact h)
theorem es_cell {W : World} {rest : List (String × DataW Unit)} (h : laidMet Tryz.prog (("strconv.ErrSyntax", Rows.laid_strconv_ErrSyntax) :: rest) W) : ∃ tp p, W.cell? ⟨2, 0, none⟩ = some (.iface tp p) := by
  obtain ⟨a0, s0, hv0, -, -, -⟩ := laid_sentinel (g := 2) (ti := 83) (tp := 157) (te := 159) (ts := 9) h (by kernel_rfl) (by kernel_rfl) Tryz.underlying83 row_es Tryz.underlying157 Tryz.underlying159 rfl rfl Tryz.underlying9 (by kernel_rfl) (by kernel_rfl)
  have h0 := World.var?_cell (g := 2) (by kernel_rfl) hv0 0
  exact ⟨_, _, by simpa using h0⟩
theorem er_cell {W : World} {rest : List (String × DataW Unit)} (h : laidMet Tryz.prog (("strconv.ErrRange", Rows.laid_strconv_ErrRange) :: rest) W) : ∃ tp p, W.cell? ⟨3, 0, none⟩ = some (.iface tp p) := by
  obtain ⟨a0, s0, hv0, -, -, -⟩ := laid_sentinel (g := 3) (ti := 83) (tp := 157) (te := 159) (ts := 9) h (by kernel_rfl) (by kernel_rfl) Tryz.underlying83 row_es Tryz.underlying157 Tryz.underlying159 rfl rfl Tryz.underlying9 (by kernel_rfl) (by kernel_rfl)
  have h0 := World.var?_cell (g := 3) (by kernel_rfl) hv0 0
  exact ⟨_, _, by simpa using h0⟩
theorem pow10_tab {W : World} {rest : List (String × DataW Unit)} (h : laidMet Tryz.prog (("internal/strconv.uint64pow10", Rows.laid_internal_strconv_uint64pow10) :: rest) W) : Lib.TabIs Tryz.prog W "internal/strconv.uint64pow10" .u64 Lib.pow10Tab :=
  Lib.tabIs_of_head (g := 4) (t := 144) (e := 79) (n := 20) (rest := rest) (by kernel_rfl) (by kernel_rfl) (by kernel_rfl) (by kernel_rfl) (by kernel_rfl) (by kernel_rfl) h
end Go.Proofs.YtkokekndiammpaaGreatDoor

/-! Texts of lists of numbers; plain, no program in sight. -/
set_option linter.unusedVariables false
set_option linter.unusedSimpArgs false
namespace Go.Proofs.YtkokekndiammpaaGreatDoor
open Go.RowKit Go.Lib

/-- The texts of n numbers, a blank ahead of each. -/
def tailT (G : Nat → Nat) : Nat → List UInt8
  | 0 => []
  | k + 1 => tailT G k ++ 32 :: numText (G k)
/-- The texts of n numbers, a blank between them. -/
def joinT (G : Nat → Nat) (n : Nat) : List UInt8 := Lib.join ((List.range n).map fun k => numText (G k)) [32]
theorem tail_flat (G : Nat → Nat) : ∀ n, Lib.joinTail [32] ((List.range n).map fun k => numText (G k)) = tailT G n
  | 0 => rfl
  | n + 1 => by
    have ih := tail_flat G n
    unfold Lib.joinTail at ih ⊢
    rw [List.range_succ, List.map_append, List.map_append, List.flatten_append, ih]
    simp [tailT]
theorem tail_join (G : Nat → Nat) (n : Nat) (h : 0 < n) : 32 :: joinT G n = tailT G n := by
  rw [← tail_flat]
  unfold joinT
  obtain ⟨m, rfl⟩ : ∃ m, n = m + 1 := ⟨n - 1, by omega⟩
  rw [List.range_succ_eq_map, List.map_cons, Lib.join_cons]
  simp [Lib.joinTail]
theorem tailT_length (G : Nat → Nat) : ∀ n, (tailT G n).length = 9 * n
  | 0 => rfl
  | n + 1 => by
    show (tailT G n ++ 32 :: numText (G n)).length = _
    rw [List.length_append, tailT_length G n, List.length_cons, numText_length]
    omega
theorem joinT_length (G : Nat → Nat) (n : Nat) (h : 0 < n) : (joinT G n).length + 1 = 9 * n := by
  rw [← tailT_length G n, ← tail_join G n h, List.length_cons]
theorem dec_small {n : Nat} (h : n < 10) : Lib.decDigits n = [UInt8.ofNat (48 + n)] := by
  rw [Lib.decDigits, dif_pos h]
theorem dec_step {n : Nat} (h : ¬ n < 10) : Lib.decDigits n = Lib.decDigits (n / 10) ++ [UInt8.ofNat (48 + n % 10)] := by
  rw [Lib.decDigits, dif_neg h]
theorem dec_two {n : Nat} (h1 : 10 ≤ n) (h2 : n < 100) : Lib.decDigits n = [UInt8.ofNat (48 + n / 10), UInt8.ofNat (48 + n % 10)] := by
  rw [dec_step (by omega), dec_small (by omega)]
  rfl
/-- The cells of the strings of n numbers. -/
def textsV (G : Nat → Nat) (n : Nat) : List Value := (List.range n).map fun k => Value.string ⟨(numText (G k)).toArray⟩
theorem textsV_snoc (G : Nat → Nat) (n : Nat) : textsV G n ++ [.string ⟨(numText (G n)).toArray⟩] = textsV G (n + 1) := by simp [textsV, List.range_succ]
theorem textsV_at {G : Nat → Nat} {n k : Nat} (h : k < n) : (textsV G n)[k]? = some (.string ⟨(numText (G k)).toArray⟩) := by simp [textsV, h]
end Go.Proofs.YtkokekndiammpaaGreatDoor

/-! The text of a list of numbers, as the program makes it; decimals of small numbers; which lists have no -0. -/
set_option linter.unusedVariables false
set_option linter.unusedSimpArgs false
namespace Go.Proofs.YtkokekndiammpaaGreatDoor
open Go.RowKit Go.Lib

theorem Tryz.info_str : (Tryz.prog.info? 9).map (fun i => (i.zero, i.size, i.bytes)) = some (some (.string ByteArray.empty), 1, 16) := by kernel_rfl
section
variable {w W : World} {base n g : Nat} {e t : TypeId} {v : Value} {xs : List Value}
theorem ownS_carry (h : w.ownsRow base e 1 v n xs) (hk : ∀ i, base ≤ i → i < w.heap.size → W.heap[i]? = w.heap[i]?) : W.ownsRow base e 1 v n xs := by
  refine ⟨h.1, ?_⟩
  rcases h.2 with h2 | ⟨g, cap, cur, hv, hb, hh, h3⟩
  · exact Or.inl h2
  · refine Or.inr ⟨g, cap, cur, hv, hb, ?_, h3⟩
    have hl := (h.lt g (by rw [hv]; rfl)).2
    rw [hk g hb hl]; exact hh
theorem ownS_shape (h : w.ownsRow base e 1 v n xs) (hn : 0 < n) : ∃ g c, v = .slice (some ⟨g, 0, none⟩) n c ∧ base ≤ g ∧ g < w.heap.size ∧ n ≤ c := by
  have hl := h.lt
  obtain ⟨_, h2⟩ := h
  rcases h2 with ⟨_, h0⟩ | ⟨g, cap, cur, hv, hg, hh, hc, _⟩
  · omega
  · exact ⟨g, cap, hv, hg, (hl g (by rw [hv]; rfl)).2, hc⟩
theorem ownS_below {w0 wr w1 : World} {B : Nat} {o : Obj} (hown : wr.ownsRow base e 1 v n xs) (hBb : B ≤ base) (hB : B ≤ wr.heap.size) (hb : Below B w0 wr) (hg : (wr.alloc o).grownBy w1 v.ownBlock) : Below B w0 w1 := by
  have h1 : Below B w0 (wr.alloc o) := hb.alloc hB o
  refine h1.grown hg (by simp; omega) ?_
  intro k hk
  have := (hown.lt k hk).1
  omega
end

/-- Are all of n numbers +0? -/
def allZ (G : Nat → Nat) : Nat → Bool
  | 0 => true
  | k + 1 => allZ G k && (G k == 0)
theorem allZ_no {G : Nat → Nat} {k n : Nat} (hk : k < n) (h : G k ≠ 0) : allZ G n = false := by
  induction n with
  | zero => omega
  | succ m ih =>
    unfold allZ
    by_cases e : k = m
    · subst e; simp [h]
    · rw [ih (by omega)]; rfl
theorem allZ_step {G : Nat → Nat} {k : Nat} (h : allZ G k = true) (h0 : G k = 0) : allZ G (k + 1) = true := by simp [allZ, h, h0]

set_option maxHeartbeats 1000000 in
set_option maxRecDepth 100000 in
theorem noMinus_any (B off n cap : Nat) (G : Nat → Nat) (w : World) (hn : n ≤ 64) (hz : ∀ k, k < n → G k = 0 ∨ G k = 2147483648)
    (hcells : ∀ k, k < n → w.cell? ⟨B, off + k, none⟩ = some (.float .f32 (G k))) (a : Option Addr) (ha : 0 < n → a = some ⟨B, off, none⟩) :
    Calls Tryz.prog 32 #[.slice a n cap] w fun e w' => e = .returned (.bool (allZ G n)) ∧ w = w' := by
  have hcv := fun x w h => run_wide (P := Tryz.prog) 25 91 x w (by kernel_rfl) (by kernel_rfl) h
  have hcv0 := fun w => hcv 0 w (by decide +kernel)
  have hcv1 := fun w => hcv 2147483648 w (by decide +kernel)
  have n0 : Flt.neg Ieee.double (Flt.widen 0) = false := by decide +kernel
  have n1 : Flt.neg Ieee.double (Flt.widen 2147483648) = true := by decide +kernel
  have z0 : FloatKind.f32.format.order 0 0 = some .eq := by decide +kernel
  have z1 : FloatKind.f32.format.order 2147483648 0 = some .eq := by decide +kernel
  have l0 := widen_lt 0
  have l1 := widen_lt 2147483648
  generalize Flt.widen 0 = W0 at hcv0 n0 l0
  generalize Flt.widen 2147483648 = W1 at hcv1 n1 l1
  clear hcv
  go_enter Tryz.func32, Tryz.ntmps32
  go_wp2
  go_loop [7] (fun i => ∃ k : Nat, k ≤ n ∧ i = .int .i64 k ∧ Hid (allZ G k = true)) (fun i => 65 - (RowKit.intOf i).toNat)
  case atStart => exact ⟨0, by omega, rfl, rfl⟩
  case round =>
    obtain ⟨k, hk, rfl, hA⟩ := hrel
    by_cases hlt : k < n
    · obtain rfl := ha (by omega)
      have hc := hcells k hlt
      have i1 : (k : Int) < n := by omega
      rcases hz k hlt with h0 | h0
      · rw [h0] at hc
        have HN : Hid (allZ G (k + 1) = true) := Lib.hid (allZ_step hA.out h0)
        have Hz := Lib.hid hz
        have Hcells := Lib.hid hcells
        clear hz hcells h0 hA ha
        go_wp2_with (go_at_call 57; with_reducible refine (signbit_any W0 _ l0).mono ?_; rintro e w1 ⟨rfl, rfl⟩; rw [n0])
        refine ⟨⟨k + 1, by omega, by first | rfl | go_num, HN⟩, by simp [RowKit.intOf]; omega⟩
      · rw [h0] at hc
        have HN : Hid (allZ G n = false) := Lib.hid (allZ_no hlt (by rw [h0]; decide))
        have Hz := Lib.hid hz
        have Hcells := Lib.hid hcells
        clear hz hcells h0 hA ha
        go_wp2_with (go_at_call 57; with_reducible refine (signbit_any W1 _ l1).mono ?_; rintro e w1 ⟨rfl, rfl⟩; rw [n1])
        go_ret
        exact ⟨by rw [HN.out]; rfl, rfl⟩
    · have hkn : k = n := by omega
      subst hkn
      clear ha hz hcells
      go_wp2
      go_ret
      exact ⟨by rw [hA.out]; rfl, rfl⟩

set_option maxHeartbeats 1000000 in
set_option maxRecDepth 100000 in
theorem numbersText_any (B off n cap : Nat) (G : Nat → Nat) (w : World) (hn : n ≤ 64) (hn0 : 0 < n) (hG : ∀ k, k < n → G k < 2 ^ 32)
    (hcells : ∀ k, k < n → w.cell? ⟨B, off + k, none⟩ = some (.float .f32 (G k))) (hdb : w.cell? ⟨6, 15, none⟩ = some (.int .u8 4)) :
    Calls Tryz.prog 34 #[.slice (some ⟨B, off, none⟩) n cap] w fun e w' => e = .returned (.string ⟨(joinT G n).toArray⟩) ∧ Below w.heap.size w w' := by
  obtain ⟨i0, ih, iz0, iz1, iz2⟩ := info_parts Tryz.info_str
  have hB : B < w.heap.size := World.block_lt_of_cell? _ _ (hcells 0 hn0)
  have hDB : 6 < w.heap.size := World.block_lt_of_cell? _ _ hdb
  have HC := Lib.hid hcells
  have HG := Lib.hid hG
  have HD := Lib.hid hdb
  clear hcells hG hdb
  go_enter Tryz.func34, Tryz.ntmps34
  go_wp2
  have k0 : (w.alloc (.cells #[] 9)).ownsRow w.heap.size 9 1 (.slice (some ⟨w.heap.size, 0, none⟩) 0 0) 0 (textsV G 0) :=
    ⟨rfl, Or.inr ⟨w.heap.size, 0, #[], rfl, Nat.le_refl _, heap_alloc_new w _, by omega, by simp [maxLen], rfl, rfl⟩⟩
  have b0 : Below w.heap.size w (w.alloc (.cells #[] 9)) := Below.alloc (Below.refl _ w) (Nat.le_refl _) _
  go_loopw [3, 9] (fun v i wr => ∃ k : Nat, k ≤ n ∧ i = .int .i64 k ∧ wr.ownsRow w.heap.size 9 1 v k (textsV G k) ∧ Below w.heap.size w wr) (fun _ i _ => 65 - (RowKit.intOf i).toNat)
  case atStart => exact ⟨0, by omega, rfl, k0, b0⟩
  case round =>
    clear k0 b0
    obtain ⟨k, hk, rfl, hown, hb⟩ := hrel
    have hsz := hb.size
    by_cases hlt : k < n
    · have hc : wr.cell? ⟨B, off + k, none⟩ = some (.float .f32 (G k)) := (hb.cell (p := ⟨B, off + k, none⟩) hB).trans (HC.out k hlt)
      have hd : wr.cell? ⟨6, 15, none⟩ = some (.int .u8 4) := (hb.cell (p := ⟨6, 15, none⟩) hDB).trans HD.out
      have hN := implNumberText (G k) (HG.out k hlt) wr hd
      have hsnoc := textsV_snoc G k
      obtain ⟨S, hS⟩ : ∃ S : ByteArray, S = ⟨(numText (G k)).toArray⟩ := ⟨_, rfl⟩
      rw [← hS] at hN hsnoc
      generalize G k = x at hc hN
      have i1 : (k : Int) < n := by omega
      have HO := Lib.hid hown
      have HB := Lib.hid hb
      have HS := Lib.hid hsnoc
      clear hown hb hd hS hsnoc
      go_wp2_with (go_at_call 59; with_reducible refine hN.mono ?_; rintro e w1 ⟨rfl, hb1⟩; refine Hid.out ?_)
      refine Lib.hid ?_
      have hown1 : w1.ownsRow w.heap.size 9 1 _ k (textsV G k) := ownS_carry HO.out (fun i _ h2 => hb1.block i h2)
      have hb2 : Below w.heap.size w w1 := HB.out.trans (hb1.mono hsz)
      have hsz1 : w.heap.size ≤ w1.heap.size := hb2.size
      have HB2 := Lib.hid hb2
      clear hN hc hb1 HB HO hb2
      go_wp2_with (at_builtin; refine wpList_append_own _ rfl _ _ 87 rfl w.heap.size 9 i0 (.string ByteArray.empty) 1 16 Tryz.underlying87 ih iz0 iz1 iz2 rfl (by decide) _ _ _ rfl (hown1.alloc _) ⟨w1.heap.size, 0, none⟩ 1 1 [.string S] rfl rfl ?c1 ?c2 ?c3 ?c4 ?c5 ?_)
      case c1 =>
        intro j u hj
        match j, hj with
        | 0, hj => simp at hj; subst hj; simp [Addr.add]
      case c2 => intro u hu; simp at hu; subst hu; rfl
      case c3 => unfold maxLen; omega
      case c4 => omega
      case c5 => simp; omega
      intro v' w3 hown' hgrow _
      have n5 := ownS_below hown1 (Nat.le_refl _) hsz1 HB2.out hgrow
      rw [HS.out] at hown'
      have N5 := Lib.hid n5
      have NO := Lib.hid hown'
      clear n5 hown' hown1 hgrow
      go_wp2
      go_roundw
      case rel => exact ⟨k + 1, by omega, by go_num, NO.out, N5.out⟩
      case measure => simp [RowKit.intOf]; omega
    · have hkn : k = n := by omega
      subst hkn
      obtain ⟨g1, c1, hv, _, hg1, hc1⟩ := ownS_shape hown hn0
      subst hv
      have hJ : Calls Tryz.prog 60 #[.slice (some ⟨g1, 0, none⟩) k c1, .string ⟨#[32]⟩] wr fun e w' => e = .returned (.string ⟨(joinT G k).toArray⟩) ∧ Below wr.heap.size wr w' := by
        have hlen : ((List.range k).map fun j => (⟨(numText (G j)).toArray⟩ : ByteArray)).length = k := by simp
        have hjo : Lib.join (((List.range k).map fun j => (⟨(numText (G j)).toArray⟩ : ByteArray)).map (·.data.toList)) (⟨#[32]⟩ : ByteArray).data.toList = joinT G k := by
          unfold joinT
          congr 1
          rw [List.map_map]
          apply List.map_congr_left
          intro j _
          rfl
        have h := Tryz.strings_Join g1 0 c1 ((List.range k).map fun j => (⟨(numText (G j)).toArray⟩ : ByteArray)) ⟨#[32]⟩ wr (fun j x hx => by
            have hj : j < k := by
              have := (List.getElem?_eq_some_iff.1 hx).1
              simpa using this
            rw [Nat.zero_add, hown.cellAt j (by omega), textsV_at hj]
            rw [List.getElem?_map, List.getElem?_range hj] at hx
            simpa using hx) hg1 (by rw [hlen]; omega) (by rw [hlen]; exact hc1) (by rw [hjo]; have := joinT_length G k hn0; omega)
        rw [hjo, hlen] at h
        exact h
      have HB := Lib.hid hb
      clear hown hb
      go_wp2_with (go_at_call 60; with_reducible refine calls_args (b := #[.slice (some ⟨g1, 0, none⟩) k c1, .string ⟨#[32]⟩]) (by kernel_rfl) ?_; with_reducible refine hJ.mono ?_; rintro e w4 ⟨rfl, hb4⟩)
      go_ret
      exact ⟨rfl, HB.out.trans (hb4.mono hsz)⟩
end Go.Proofs.YtkokekndiammpaaGreatDoor

/-! Behind a piece of a walk all older blocks are as they were. -/
set_option linter.unusedVariables false
namespace Go.Proofs.YtkokekndiammpaaGreatDoor
open Go.RowKit

/-- Behind a piece of a walk all older blocks are as they were. -/
def KeptS (B : Nat) (w0 wr w' : World) : Prop := (∀ i, i < wr.heap.size → w'.heap[i]? = wr.heap[i]?) ∧ wr.heap.size ≤ w'.heap.size ∧ Below B w0 w'
section
variable {B : Nat} {w0 wr w' W W2 : World}
theorem KeptS.refl (h : Below B w0 wr) : KeptS B w0 wr wr := ⟨fun _ _ => rfl, Nat.le_refl _, h⟩
theorem KeptS.drew (h : KeptS B w0 wr w') : KeptS B w0 wr w'.drew := ⟨h.1, h.2.1, Below.drew h.2.2⟩
theorem KeptS.call (h : KeptS B w0 wr W) (hB : B ≤ wr.heap.size) (hb : Below W.heap.size W W2) : KeptS B w0 wr W2 :=
  ⟨fun i hi => (hb.block i (Nat.lt_of_lt_of_le hi h.2.1)).trans (h.1 i hi), Nat.le_trans h.2.1 hb.size, h.2.2.trans (hb.mono (Nat.le_trans hB h.2.1))⟩
theorem KeptS.alloc (h : KeptS B w0 wr W) (hB : B ≤ wr.heap.size) (o : Obj) : KeptS B w0 wr (W.alloc o) :=
  ⟨fun i hi => (Below.heap_alloc W o i (Nat.lt_of_lt_of_le hi h.2.1)).trans (h.1 i hi), by have := h.2.1; simp; omega, h.2.2.alloc (Nat.le_trans hB h.2.1) o⟩
theorem KeptS.cell (h : KeptS B w0 wr w') {p : Addr} (hp : p.block < wr.heap.size) : w'.cell? p = wr.cell? p := World.cell?_of_block (w := wr) (h.1 p.block hp)
end
end Go.Proofs.YtkokekndiammpaaGreatDoor

/-! Decimals of numbers below 100, as the reference makes them. -/
set_option linter.unusedVariables false
set_option linter.unusedSimpArgs false
namespace Go.Proofs.YtkokekndiammpaaGreatDoor
open Go.RowKit Go.Lib

theorem run_cat {P : Program} (t : TypeId) (a b : ByteArray) (h : a.size + b.size ≤ maxLen) (w : World) : (binOp .add t (.string a) (.string b)).run P w = .ok (.string (a ++ b)) w := by
  rw [binOp_string_add]
  unfold Op.stringOp
  have h' : ¬ maxLen < a.size + b.size := by omega
  have h2 : (a.size : Int) + (b.size : Int) ≤ 9223372036854775807 := by unfold maxLen at h; omega
  simp [h', h2]
theorem exec_cat {P : Program} {o : Oper} {a : Act} (t u : TypeId) (x y : Operand) (ho : o.op = .binOp .add t x y u) (sx sy : ByteArray) (hx : a.eval x = .string sx) (hy : a.eval y = .string sy) (hl : sx.size + sy.size ≤ maxLen) (w : World) :
    (execOp a.eval o).run P w = .ok (.value (.string (sx ++ sy))) w := by
  unfold execOp
  have hg : (eqGuard .add t x y (.string sx) (.string sy)).run P w = .ok () w := by simp [eqGuard]
  simp only [ho, hx, hy, hg, run_cat t sx sy hl w, Sem.run_bind, Sem.run_pure, Result.andThen_ok]
end Go.Proofs.YtkokekndiammpaaGreatDoor

/-! The text of a train; plain. -/
set_option linter.unusedVariables false
set_option linter.unusedSimpArgs false
namespace Go.Proofs.YtkokekndiammpaaGreatDoor
open Go.RowKit Go.Lib

/-- The text of a train that has one. -/
def trainTx (n s t : Nat) (F : Nat → Nat) : List UInt8 := Lib.decDigits n ++ (32 :: numText s) ++ (32 :: numText t) ++ tailT F n
/-- Are all numbers from n on +0? -/
def bareT (n : Nat) (F : Nat → Nat) : Bool := allZ (fun j => F (n + j)) (12 - n)
/-- The text of a train, empty if it has none. -/
def trainText (r : Int) (s t : Nat) (F : Nat → Nat) : List UInt8 := if trainB r s t F && bareT r.toNat F then trainTx r.toNat s t F else []

theorem zero_bits {x : Nat} (hx : x < 2 ^ 32) (h : zeroB x = true) : x = 0 ∨ x = 2147483648 := by
  have ho := zero_yes h
  have hn : ¬ Flt.NaN Ieee.single x := fun hn => by
    rw [order_nan .f32 (Or.inl hn)] at ho
    exact absurd ho (by simp)
  have hz : Flt.Z Ieee.single x = Flt.Z Ieee.single 0 := by
    rw [show FloatKind.f32.format.order x 0 = Ieee.single.order x 0 from rfl, Flt.order_num Ieee.single (by decide) hn (by decide +kernel)] at ho
    simpa [Int.compare_eq_eq] using ho
  have hs : 2 * Ieee.single.signWeight = 2 ^ 32 := by decide
  by_cases hg : Flt.neg Ieee.single x = false
  · left
    exact Flt.word_inj Ieee.single (by omega) (by rw [hs]; decide) (hg.trans (by decide +kernel)) hz
  · right
    refine Flt.word_inj Ieee.single (by omega) (by rw [hs]; decide) ?_ (hz.trans (by decide +kernel))
    rw [show Flt.neg Ieee.single 2147483648 = true by decide +kernel]
    simpa using hg
theorem dec_len (n : Nat) (h : n < 100) : (Lib.decDigits n).length ≤ 2 ∧ 1 ≤ (Lib.decDigits n).length := by
  by_cases h10 : n < 10
  · rw [dec_small h10]; simp
  · rw [dec_two (by omega) h]; simp
end Go.Proofs.YtkokekndiammpaaGreatDoor

/-! The text of a train, as the program makes it, and the law on TrainText. -/
set_option linter.unusedVariables false
set_option linter.unusedSimpArgs false
namespace Go.Proofs.YtkokekndiammpaaGreatDoor
open Go.RowKit Go.Lib

theorem run_sliceAt_endS {P : Program} (w : World) (t e : TypeId) (n b o : Nat) (ht : P.underlying t = some (.array n e)) (hs : (P.info? e).map (·.size) = some 1) (kl : IntKind) : (Instr.sliceAt t (.pointer (some ⟨b, o, none⟩)) (some (.int kl n)) none none).run P w = .ok (.slice (some ⟨b, o, none⟩) 0 0) w := by
  cases hq : P.info? e with
  | none => simp [hq] at hs
  | some i =>
    have hi : i.size = 1 := by simpa [hq] using hs
    have h1 : (0 : Int) ≤ n ∧ (n : Int) ≤ n := ⟨by omega, by omega⟩
    simp [Instr.sliceAt, run_underlying ht, sizeOf, typeInfo, hq, hi, Instr.sliceBounds, Instr.sureAddr, run_sliceBound w kl n n _ h1.1 h1.2]
theorem nums_two (s t : Nat) (hs : s < 2 ^ 32) (ht : t < 2 ^ 32) (w : World) (b : Nat) (hb : w.heap[b]? = some (.cells #[.float .f32 s, .float .f32 t] 25 (0, 0))) (hdb : w.cell? ⟨6, 15, none⟩ = some (.int .u8 4)) :
    Calls Tryz.prog 34 #[.slice (some ⟨b, 0, none⟩) 2 2] w fun e w' => e = .returned (.string ⟨(numText s ++ 32 :: numText t).toArray⟩) ∧ Below w.heap.size w w' := by
  have h := numbersText_any b 0 2 2 (fun k => if k = 0 then s else t) w (by omega) (by omega) (fun k _ => by split <;> assumption) (fun k hk => by
    obtain rfl | rfl : k = 0 ∨ k = 1 := by omega
    · exact cell_of_row w b 0 _ _ _ hb
    · exact cell_of_row w b 1 _ _ _ hb) hdb
  have e : joinT (fun k => if k = 0 then s else t) 2 = numText s ++ 32 :: numText t := by
    have h2 := tail_join (fun k => if k = 0 then s else t) 2 (by omega)
    have h3 : tailT (fun k => if k = 0 then s else t) 2 = 32 :: (numText s ++ 32 :: numText t) := by simp [tailT]
    rw [h3] at h2
    exact (List.cons.inj h2).2
  rw [e] at h
  exact h

set_option maxHeartbeats 2000000 in
set_option maxRecDepth 100000 in
theorem implTrainTx (n s t : Nat) (F : Nat → Nat) (h2 : 2 ≤ n) (h12 : n ≤ 12) (hs : s < 2 ^ 32) (ht : t < 2 ^ 32) (hF : ∀ i, i < 12 → F i < 2 ^ 32) (hv : trainB n s t F = true) (w : World) (hdb : w.cell? ⟨6, 15, none⟩ = some (.int .u8 4)) :
    Calls Tryz.prog 10 #[.agg (train n s t F)] w fun e w' => e = .returned (.string ⟨(if bareT n F then trainTx n s t F else []).toArray⟩) ∧ Below w.heap.size w w' := by
  obtain ⟨_, _, hps, hpt, hfl, hze⟩ := trainB_facts hv
  have hz : ∀ k, k < 12 - n → F (n + k) = 0 ∨ F (n + k) = 2147483648 := fun k hk => zero_bits (hF _ (by omega)) (hze _ (by omega) (by omega))
  obtain ⟨AO, hAO, hsl⟩ : ∃ AO : Addr, (0 < 12 - n → (some AO : Option Addr) = some ⟨w.heap.size, 3 + n, none⟩) ∧ ∀ w', (Instr.sliceAt 26 (.pointer (some ⟨w.heap.size, 3, none⟩)) (some (.int .i8 n)) none none).run Tryz.prog w' = .ok (.slice (some AO) (12 - n) (12 - n)) w' := by
    by_cases h : n < 12
    · exact ⟨_, fun _ => rfl, fun w' => run_sliceAt_l (P := Tryz.prog) w' 26 25 12 w.heap.size 3 Tryz.underlying26 (by kernel_rfl) .i8 n h⟩
    · obtain rfl : n = 12 := by omega
      exact ⟨⟨w.heap.size, 3, none⟩, fun h => by omega, fun w' => run_sliceAt_endS (P := Tryz.prog) w' 26 25 12 w.heap.size 3 Tryz.underlying26 (by kernel_rfl) .i8⟩
  have hsl2 : ∀ w', (Instr.sliceAt 26 (.pointer (some ⟨w.heap.size, 3, none⟩)) none (some (.int .i8 n)) none).run Tryz.prog w' = .ok (.slice (some ⟨w.heap.size, 3, none⟩) n 12) w' := fun w' =>
    run_sliceAt_h (P := Tryz.prog) w' 26 25 12 w.heap.size 3 Tryz.underlying26 (by kernel_rfl) .i8 n h12
  have hNM : ∀ w' : World, w'.heap[w.heap.size]? = some (.cells (train n s t F) 28 (0, 0)) → Calls Tryz.prog 32 #[.slice (some AO) (12 - n : Nat) (12 - n : Nat)] w' fun e w1 => e = .returned (.bool (bareT n F)) ∧ w' = w1 := fun w' hw => by
    have h := noMinus_any w.heap.size (3 + n) (12 - n) (12 - n) (fun k => F (n + k)) w' (by omega) hz (fun k hk => by
      have e := (cell_of_row w' w.heap.size (3 + (n + k)) _ _ _ hw).trans (row_k3 _ _ _ _ _ (show n + k < 12 by omega))
      rw [← Nat.add_assoc] at e
      exact e) (some AO) hAO
    exact h
  have hDlt : 6 < w.heap.size := World.block_lt_of_cell? _ _ hdb
  obtain ⟨m, hm⟩ : ∃ m, m = 12 - n := ⟨_, rfl⟩
  rw [← hm] at hsl hNM
  have HZ := Lib.hid hz
  have HFL := Lib.hid hfl
  have HZE := Lib.hid hze
  have HV := Lib.hid hv
  have HDB := Lib.hid hdb
  have HAO := Lib.hid hAO
  clear hz hfl hze hm hv hdb hAO
  cases hbare : bareT n F
  · rw [hbare] at hNM
    simp only [Bool.false_eq_true, if_false]
    clear hbare
    go_enter Tryz.func10, Tryz.ntmps10
    go_wp2_with (first | ((with_reducible refine at_load 28 ?_); refine wpList_load_part rfl 28 _ rfl _ 0 15 rfl _ _ _ _ (by repeat (first | (with_reducible assumption) | ((with_reducible refine blk_new _ _ _ ?_); focus (simp; done)) | ((with_reducible refine blk_old _ _ _ ?_ ?_); focus (simp; done)) | ((with_reducible refine blk_old _ _ _ ?_ ?_); focus (first | omega | (simp; omega))) | ((with_reducible apply blk_set); focus (simp; done)) | ((with_reducible refine blk_off _ _ _ _ ?_ ?_); focus (simp; done)) | ((with_reducible refine blk_offc _ _ _ _ ?_ ?_); focus (first | (simp; done) | omega | (simp; omega))) | ((with_reducible refine blk_off _ _ _ _ ?_ ?_); focus (first | omega | (simp; omega))) | (with_reducible refine blk_drew _ _ ?_) | ((with_reducible refine blk_below (by assumption) ?_ ?_); focus (simp; done)) | ((with_reducible refine blk_below (by assumption) ?_ ?_); focus (first | omega | (simp; omega))))) Tryz.underlying28 rfl (by kernel_rfl) (by simp [row_size]) _ (row_all [_, _, _] 12 _) ?_) | (go_at_call 18; (with_reducible refine (implOk_any n s t F _ (by omega) (by omega)).mono ?_); rintro e w1 ⟨rfl, hb1⟩; have hz1 := hb1.size; (try simp at hz1); obtain ⟨hc1, hf1⟩ := bcell hb1) | (go_at_call 32; (with_reducible refine (hNM _ (by repeat (first | (with_reducible assumption) | ((with_reducible refine blk_new _ _ _ ?_); focus (simp; done)) | ((with_reducible refine blk_old _ _ _ ?_ ?_); focus (simp; done)) | ((with_reducible refine blk_old _ _ _ ?_ ?_); focus (first | omega | (simp; omega))) | ((with_reducible apply blk_set); focus (simp; done)) | ((with_reducible refine blk_off _ _ _ _ ?_ ?_); focus (simp; done)) | ((with_reducible refine blk_offc _ _ _ _ ?_ ?_); focus (first | (simp; done) | omega | (simp; omega))) | ((with_reducible refine blk_off _ _ _ _ ?_ ?_); focus (first | omega | (simp; omega))) | (with_reducible refine blk_drew _ _ ?_) | ((with_reducible refine blk_below (by assumption) ?_ ?_); focus (simp; done)) | ((with_reducible refine blk_below (by assumption) ?_ ?_); focus (first | omega | (simp; omega)))))).mono ?_); rintro e w2 ⟨rfl, rfl⟩))
    go_ret
    exact ⟨rfl, (by repeat (first | (with_reducible assumption) | (with_reducible exact Below.refl _ _) | ((with_reducible refine bel_alloc _ ?_ ?_); focus (first | omega | (simp; done) | (simp; omega))) | ((with_reducible refine bel_row _ ?_ ?_); focus (first | omega | (simp; done) | (simp; omega))) | ((with_reducible refine bel_cell _ ?_ ?_); focus (first | omega | (simp; done) | (simp; omega))) | (with_reducible refine Below.drew ?_) | (with_reducible refine below_wideW _ ?_) | ((with_reducible refine bel_next (by assumption) ?_ ?_); focus (first | omega | (simp; done) | (simp; omega)))))⟩
  · rw [hbare] at hNM
    simp only [if_true]
    have hJ1x := fun w' b h1 h2 => nums_two s t hs ht w' b h1 h2
    obtain ⟨D, hDe, hDz, hD⟩ : ∃ D : ByteArray, D = ⟨(Lib.decDigits n).toArray⟩ ∧ D.size ≤ 2 ∧ ∀ w, Calls Tryz.prog 33 #[.int .i64 n] w fun e w' => ∃ v, e = .returned v ∧ v = .string D ∧ Below w.heap.size w w' :=
      ⟨_, rfl, (dec_len n (by omega)).1, fun w => (Tryz.strconv_Itoa_small n (by omega) w).mono fun e w' ⟨h1, h2⟩ => ⟨_, h1, rfl, by rw [h2]; exact Below.refl _ _⟩⟩
    obtain ⟨J1, hJ1e, zJ1, hJ1⟩ : ∃ J : ByteArray, J = ⟨(numText s ++ 32 :: numText t).toArray⟩ ∧ J.size = 17 ∧ ∀ (w' : World) (b : Nat), w'.heap[b]? = some (.cells #[.float .f32 s, .float .f32 t] 25 (0, 0)) → w'.cell? ⟨6, 15, none⟩ = some (.int .u8 4) →
        Calls Tryz.prog 34 #[.slice (some ⟨b, 0, none⟩) 2 2] w' fun e w'' => ∃ v, e = .returned v ∧ v = .string J ∧ Below w'.heap.size w' w'' :=
      ⟨_, rfl, by rw [size_of_list]; simp [numText_length], fun w' b h1 h2 => (hJ1x w' b h1 h2).mono fun e w' ⟨h1, h2⟩ => ⟨_, h1, rfl, h2⟩⟩
    obtain ⟨J2, hJ2e, zJ2, hJ2x⟩ : ∃ J : ByteArray, J = ⟨(joinT F n).toArray⟩ ∧ J.size ≤ 200 ∧ ∀ (w' : World), (∀ k, k < 12 → w'.cell? ⟨w.heap.size, 3 + k, none⟩ = some (.float .f32 (F k))) → w'.cell? ⟨6, 15, none⟩ = some (.int .u8 4) →
        Calls Tryz.prog 34 #[.slice (some ⟨w.heap.size, 3, none⟩) n 12] w' fun e w'' => ∃ v, e = .returned v ∧ v = .string J ∧ Below w'.heap.size w' w'' :=
      ⟨_, rfl, by rw [size_of_list]; have := joinT_length F n (by omega); omega, fun w' h1 h2 => (numbersText_any w.heap.size 3 n 12 F w' (by omega) (by omega) (fun k hk => hF k (by omega)) (fun k hk => h1 k (by omega)) h2).mono fun e w' ⟨h1, h2⟩ => ⟨_, h1, rfl, h2⟩⟩
    have zB : (⟨#[32]⟩ : ByteArray).size = 1 := rfl
    have l1 : D.size + (⟨#[32]⟩ : ByteArray).size ≤ maxLen := by unfold maxLen; omega
    have l2 : (D ++ ⟨#[32]⟩).size + J1.size ≤ maxLen := by simp only [ByteArray.size_append]; unfold maxLen; omega
    have l3 : (D ++ ⟨#[32]⟩ ++ J1).size + (⟨#[32]⟩ : ByteArray).size ≤ maxLen := by simp only [ByteArray.size_append]; unfold maxLen; omega
    have l4 : (D ++ ⟨#[32]⟩ ++ J1 ++ ⟨#[32]⟩).size + J2.size ≤ maxLen := by simp only [ByteArray.size_append]; unfold maxLen; omega
    have hT : (⟨(trainTx n s t F).toArray⟩ : ByteArray) = (D ++ ⟨#[32]⟩ ++ J1 ++ ⟨#[32]⟩ ++ J2) := by
      rw [hDe, hJ1e, hJ2e, show (⟨#[32]⟩ : ByteArray) = ⟨[(32 : UInt8)].toArray⟩ from rfl, str_app, str_app, str_app, str_app]
      congr 2
      unfold trainTx
      rw [← tail_join F n (by omega)]
      simp
    rw [hT]
    have n8 : IntKind.i64.wrap (n : Int) = n := by rw [IntKind.wrap_i64]; omega
    clear hbare hDe hJ1e hJ2e hT hJ1x
    go_enter Tryz.func10, Tryz.ntmps10
    go_upto_region 3 with (first | ((with_reducible refine at_load 28 ?_); refine wpList_load_part rfl 28 _ rfl _ 0 15 rfl _ _ _ _ (by repeat (first | (with_reducible assumption) | ((with_reducible refine blk_new _ _ _ ?_); focus (simp; done)) | ((with_reducible refine blk_old _ _ _ ?_ ?_); focus (simp; done)) | ((with_reducible refine blk_old _ _ _ ?_ ?_); focus (first | omega | (simp; omega))) | ((with_reducible apply blk_set); focus (simp; done)) | ((with_reducible refine blk_off _ _ _ _ ?_ ?_); focus (simp; done)) | ((with_reducible refine blk_offc _ _ _ _ ?_ ?_); focus (first | (simp; done) | omega | (simp; omega))) | ((with_reducible refine blk_off _ _ _ _ ?_ ?_); focus (first | omega | (simp; omega))) | (with_reducible refine blk_drew _ _ ?_) | ((with_reducible refine blk_below (by assumption) ?_ ?_); focus (simp; done)) | ((with_reducible refine blk_below (by assumption) ?_ ?_); focus (first | omega | (simp; omega))))) Tryz.underlying28 rfl (by kernel_rfl) (by simp [row_size]) _ (row_all [_, _, _] 12 _) ?_) | (go_at_call 18; (with_reducible refine (implOk_any n s t F _ (by omega) (by omega)).mono ?_); rintro e w1 ⟨rfl, hb1⟩; have hz1 := hb1.size; (try simp at hz1); obtain ⟨hc1, hf1⟩ := bcell hb1) | (go_at_call 32; (with_reducible refine (hNM _ (by repeat (first | (with_reducible assumption) | ((with_reducible refine blk_new _ _ _ ?_); focus (simp; done)) | ((with_reducible refine blk_old _ _ _ ?_ ?_); focus (simp; done)) | ((with_reducible refine blk_old _ _ _ ?_ ?_); focus (first | omega | (simp; omega))) | ((with_reducible apply blk_set); focus (simp; done)) | ((with_reducible refine blk_off _ _ _ _ ?_ ?_); focus (simp; done)) | ((with_reducible refine blk_offc _ _ _ _ ?_ ?_); focus (first | (simp; done) | omega | (simp; omega))) | ((with_reducible refine blk_off _ _ _ _ ?_ ?_); focus (first | omega | (simp; omega))) | (with_reducible refine blk_drew _ _ ?_) | ((with_reducible refine blk_below (by assumption) ?_ ?_); focus (simp; done)) | ((with_reducible refine blk_below (by assumption) ?_ ?_); focus (first | omega | (simp; omega)))))).mono ?_); rintro e w2 ⟨rfl, rfl⟩))
    refine wp_nm (S := fun W => W.heap[w.heap.size]? = some (.cells (train n s t F) 28 (0, 0)) ∧ Below w.heap.size w W ∧ w.heap.size + 1 ≤ W.heap.size) ⟨(by repeat (first | (with_reducible assumption) | ((with_reducible refine blk_new _ _ _ ?_); focus (simp; done)) | ((with_reducible refine blk_old _ _ _ ?_ ?_); focus (simp; done)) | ((with_reducible refine blk_old _ _ _ ?_ ?_); focus (first | omega | (simp; omega))) | ((with_reducible apply blk_set); focus (simp; done)) | ((with_reducible refine blk_off _ _ _ _ ?_ ?_); focus (simp; done)) | ((with_reducible refine blk_offc _ _ _ _ ?_ ?_); focus (first | (simp; done) | omega | (simp; omega))) | ((with_reducible refine blk_off _ _ _ _ ?_ ?_); focus (first | omega | (simp; omega))) | (with_reducible refine blk_drew _ _ ?_) | ((with_reducible refine blk_below (by assumption) ?_ ?_); focus (simp; done)) | ((with_reducible refine blk_below (by assumption) ?_ ?_); focus (first | omega | (simp; omega))))), (by repeat (first | (with_reducible assumption) | (with_reducible exact Below.refl _ _) | ((with_reducible refine bel_alloc _ ?_ ?_); focus (first | omega | (simp; done) | (simp; omega))) | ((with_reducible refine bel_row _ ?_ ?_); focus (first | omega | (simp; done) | (simp; omega))) | ((with_reducible refine bel_cell _ ?_ ?_); focus (first | omega | (simp; done) | (simp; omega))) | (with_reducible refine Below.drew ?_) | (with_reducible refine below_wideW _ ?_) | ((with_reducible refine bel_next (by assumption) ?_ ?_); focus (first | omega | (simp; done) | (simp; omega))))), (by first | omega | (simp; done) | (simp; omega) | (simp at *; omega))⟩ ?_
    rintro W ⟨hB, hbW, hsW⟩
    have c0 : W.cell? ⟨w.heap.size, 0, none⟩ = some (.int .i8 n) := (cell_of_row W _ 0 _ _ _ hB).trans rfl
    have c1 : W.cell? ⟨w.heap.size, 1, none⟩ = some (.float .f32 s) := (cell_of_row W _ 1 _ _ _ hB).trans rfl
    have c2 : W.cell? ⟨w.heap.size, 2, none⟩ = some (.float .f32 t) := (cell_of_row W _ 2 _ _ _ hB).trans rfl
    have c3 : ∀ k, k < 12 → W.cell? ⟨w.heap.size, 3 + k, none⟩ = some (.float .f32 (F k)) := fun k hk => (cell_of_row W _ (3 + k) _ _ _ hB).trans (row_k3 _ _ _ _ _ hk)
    have hBlt : w.heap.size < W.heap.size := by omega
    have hDlt' : 6 < W.heap.size := by omega
    have cd : W.cell? ⟨6, 15, none⟩ = some (.int .u8 4) := (hbW.cell (p := ⟨6, 15, none⟩) hDlt).trans HDB.out
    have hBB : w.heap.size ≤ W.heap.size := by omega
    have hK : KeptS w.heap.size w W W := KeptS.refl hbW
    have hJ2 : ∀ w', KeptS w.heap.size w W w' → Calls Tryz.prog 34 #[.slice (some ⟨w.heap.size, 3, none⟩) n 12] w' fun e w'' => ∃ v, e = .returned v ∧ v = .string J2 ∧ Below w'.heap.size w' w'' := fun w' hk =>
      hJ2x w' (fun k hk' => (hk.cell (p := ⟨w.heap.size, 3 + k, none⟩) hBlt).trans (c3 k hk')) ((hk.cell (p := ⟨6, 15, none⟩) hDlt').trans cd)
    refine region_merge (fun a0 a' W' => a'.tmps.getD 2 undef = .string (D ++ ⟨#[32]⟩ ++ J1 ++ ⟨#[32]⟩ ++ J2) ∧ a'.defers = [] ∧ Below w.heap.size w W') ?_ ?_
    · refine wp_region_held_drew (S := fun w' => KeptS w.heap.size w W w') (by kernel_rfl) hK.drew (fun hS => ?_)
      refine held_yield 0 rfl rfl (by kernel_rfl) (by kernel_rfl) (by kernel_rfl) (fun _ _ _ _ h => nomatch h.1) (.pointer (some ⟨w.heap.size, 0, none⟩)) (fun w' hw' => by go_simp) hS ?_
      refine held_yield 1 rfl rfl (by kernel_rfl) (by kernel_rfl) (by kernel_rfl) (fun _ _ _ _ h => nomatch h.1) (.int .i8 n) (fun w' hw' => by (have c := (hw'.cell (p := ⟨w.heap.size, 0, none⟩) hBlt).trans c0; go_simp)) hS ?_
      refine held_yield 2 rfl rfl (by kernel_rfl) (by kernel_rfl) (by kernel_rfl) (fun _ _ _ _ h => nomatch h.1) (.int .i64 n) (fun w' hw' => by go_simp) hS ?_
      refine held_yield 5 rfl rfl (by kernel_rfl) (by kernel_rfl) (by kernel_rfl) (fun _ _ _ _ h => nomatch h.1) (.pointer (some ⟨w.heap.size, 1, none⟩)) (fun w' hw' => by go_simp) hS ?_
      refine held_yield 6 rfl rfl (by kernel_rfl) (by kernel_rfl) (by kernel_rfl) (fun _ _ _ _ h => nomatch h.1) (.float .f32 s) (fun w' hw' => by (have c := (hw'.cell (p := ⟨w.heap.size, 1, none⟩) hBlt).trans c1; go_simp)) hS ?_
      refine held_yield 7 rfl rfl (by kernel_rfl) (by kernel_rfl) (by kernel_rfl) (fun _ _ _ _ h => nomatch h.1) (.pointer (some ⟨w.heap.size, 2, none⟩)) (fun w' hw' => by go_simp) hS ?_
      refine held_yield 8 rfl rfl (by kernel_rfl) (by kernel_rfl) (by kernel_rfl) (fun _ _ _ _ h => nomatch h.1) (.float .f32 t) (fun w' hw' => by (have c := (hw'.cell (p := ⟨w.heap.size, 2, none⟩) hBlt).trans c2; go_simp)) hS ?_
      refine held_yield 13 rfl rfl (by kernel_rfl) (by kernel_rfl) (by kernel_rfl) (fun _ _ _ _ h => nomatch h.1) (.pointer (some ⟨w.heap.size, 3, none⟩)) (fun w' hw' => by go_simp) hS ?_
      refine held_yield 14 rfl rfl (by kernel_rfl) (by kernel_rfl) (by kernel_rfl) (fun _ _ _ _ h => nomatch h.1) (.pointer (some ⟨w.heap.size, 0, none⟩)) (fun w' hw' => by go_simp) hS ?_
      refine held_yield 15 rfl rfl (by kernel_rfl) (by kernel_rfl) (by kernel_rfl) (fun _ _ _ _ h => nomatch h.1) (.int .i8 n) (fun w' hw' => by (have c := (hw'.cell (p := ⟨w.heap.size, 0, none⟩) hBlt).trans c0; go_simp)) hS ?_
      refine held_yield 16 rfl rfl (by kernel_rfl) (by kernel_rfl) (by kernel_rfl) (fun _ _ _ _ h => nomatch h.1) (.slice (some ⟨w.heap.size, 3, none⟩) n 12) (fun w' hw' => by (have h := hsl2 w'; go_simp)) hS ?_
      refine held_two 3 9 (by kernel_rfl) rfl rfl rfl rfl ?_ ?_
      · with_reducible refine oper_call 33 #[.int .i64 n] ?he (hD _) (fun v0 W0 hR => ?_)
        case he => first | kernel_rfl | go_simp
        obtain ⟨rfl, hb0⟩ := hR
        have hk0 := hS.call hBB hb0
        have hs0 := hb0.size
        refine ⟨hk0, ?_⟩
        refine held_yield 4 rfl rfl (by kernel_rfl) (by kernel_rfl) (by kernel_rfl) (fun _ _ _ _ h => nomatch h.1) (.string (D ++ ⟨#[32]⟩)) (fun w' hw' => by exact exec_cat 9 9 (.tmp 17) (.const (.string ⟨#[32]⟩)) (by kernel_rfl) (D) (⟨#[32]⟩) (by kernel_rfl) (by kernel_rfl) l1 w') hk0 ?_
        refine held_one 9 (by kernel_rfl) rfl rfl ?_
        with_reducible refine oper_value (.slice (some ⟨W0.heap.size, 0, none⟩) 2 2) (w1 := W0.alloc (.cells #[.float .f32 s, .float .f32 t] 25)) ?he ?_
        case he => first | kernel_rfl | go_simp
        have hk1 := hk0.alloc hBB (.cells #[.float .f32 s, .float .f32 t] 25)
        obtain ⟨bk1, hbk1⟩ : ∃ b, b = W0.heap.size := ⟨_, rfl⟩
        obtain ⟨V1, hV1⟩ : ∃ V, V = W0.alloc (.cells #[.float .f32 s, .float .f32 t] 25) := ⟨_, rfl⟩
        have hn1 : V1.heap[bk1]? = some (.cells #[.float .f32 s, .float .f32 t] 25) := by rw [hV1, hbk1]; exact heap_alloc_new _ _
        have hz1 : bk1 < V1.heap.size := by rw [hV1, hbk1]; simp
        rw [← hV1] at hk1 ⊢
        rw [← hbk1]
        clear hV1 hbk1
        refine ⟨hk1, ?_⟩
        refine held_one 10 (by kernel_rfl) rfl rfl ?_
        with_reducible refine oper_call 34 #[.slice (some ⟨bk1, 0, none⟩) 2 2] ?he (hJ1 _ _ hn1 ((hk1.cell (p := ⟨6, 15, none⟩) hDlt').trans cd)) (fun v0 W2 hR => ?_)
        case he => first | kernel_rfl | go_simp
        obtain ⟨rfl, hb2⟩ := hR
        have hk2 := hk1.call hBB hb2
        have hs2 := hb2.size
        have hn1_2 := (hb2.block bk1 (by first | omega | (simp; omega) | simp)).trans hn1
        refine ⟨hk2, ?_⟩
        refine held_yield 11 rfl rfl (by kernel_rfl) (by kernel_rfl) (by kernel_rfl) (fun _ _ _ _ h => nomatch h.1) (.string (D ++ ⟨#[32]⟩ ++ J1)) (fun w' hw' => by exact exec_cat 9 9 (.tmp 18) (.tmp 24) (by kernel_rfl) (D ++ ⟨#[32]⟩) (J1) (by kernel_rfl) (by kernel_rfl) l2 w') hk2 ?_
        refine held_yield 12 rfl rfl (by kernel_rfl) (by kernel_rfl) (by kernel_rfl) (fun _ _ _ _ h => nomatch h.1) (.string (D ++ ⟨#[32]⟩ ++ J1 ++ ⟨#[32]⟩)) (fun w' hw' => by exact exec_cat 9 9 (.tmp 25) (.const (.string ⟨#[32]⟩)) (by kernel_rfl) (D ++ ⟨#[32]⟩ ++ J1) (⟨#[32]⟩) (by kernel_rfl) (by kernel_rfl) l3 w') hk2 ?_
        refine held_one 17 (by kernel_rfl) rfl rfl ?_
        with_reducible refine oper_call 34 #[.slice (some ⟨w.heap.size, 3, none⟩) n 12] ?he (hJ2 _ hk2) (fun v0 W3 hR => ?_)
        case he => first | kernel_rfl | go_simp
        obtain ⟨rfl, hb3⟩ := hR
        have hk3 := hk2.call hBB hb3
        have hs3 := hb3.size
        have hn1_3 := (hb3.block bk1 (by first | omega | (simp; omega) | simp)).trans hn1_2
        refine ⟨hk3, ?_⟩
        refine held_yield 18 rfl rfl (by kernel_rfl) (by kernel_rfl) (by kernel_rfl) (fun _ _ _ _ h => nomatch h.1) (.string (D ++ ⟨#[32]⟩ ++ J1 ++ ⟨#[32]⟩ ++ J2)) (fun w' hw' => by exact exec_cat 9 9 (.tmp 26) (.tmp 31) (by kernel_rfl) (D ++ ⟨#[32]⟩ ++ J1 ++ ⟨#[32]⟩) (J2) (by kernel_rfl) (by kernel_rfl) l4 w') hk3 ?_
        refine held_yield 19 rfl rfl (by kernel_rfl) (by kernel_rfl) (by kernel_rfl) (fun _ _ _ _ h => nomatch h.1) (.string (D ++ ⟨#[32]⟩ ++ J1 ++ ⟨#[32]⟩ ++ J2)) (fun w' hw' => by (first | kernel_rfl | go_simp)) hk3 ?_
        refine wpAnyH_done (by kernel_rfl) ⟨rfl, by kernel_rfl, by kernel_rfl, hk3.2.2⟩ _
      · with_reducible refine oper_value (.slice (some ⟨W.drew.heap.size, 0, none⟩) 2 2) (w1 := W.drew.alloc (.cells #[.float .f32 s, .float .f32 t] 25)) ?he ?_
        case he => first | kernel_rfl | go_simp
        have hk0 := hS.alloc hBB (.cells #[.float .f32 s, .float .f32 t] 25)
        obtain ⟨bk0, hbk0⟩ : ∃ b, b = W.drew.heap.size := ⟨_, rfl⟩
        obtain ⟨V0, hV0⟩ : ∃ V, V = W.drew.alloc (.cells #[.float .f32 s, .float .f32 t] 25) := ⟨_, rfl⟩
        have hn0 : V0.heap[bk0]? = some (.cells #[.float .f32 s, .float .f32 t] 25) := by rw [hV0, hbk0]; exact heap_alloc_new _ _
        have hz0 : bk0 < V0.heap.size := by rw [hV0, hbk0]; simp
        rw [← hV0] at hk0 ⊢
        rw [← hbk0]
        clear hV0 hbk0
        refine ⟨hk0, ?_⟩
        refine held_one 3 (by kernel_rfl) rfl rfl ?_
        with_reducible refine oper_call 33 #[.int .i64 n] ?he (hD _) (fun v0 W1 hR => ?_)
        case he => first | kernel_rfl | go_simp
        obtain ⟨rfl, hb1⟩ := hR
        have hk1 := hk0.call hBB hb1
        have hs1 := hb1.size
        have hn0_1 := (hb1.block bk0 (by first | omega | (simp; omega) | simp)).trans hn0
        refine ⟨hk1, ?_⟩
        refine held_yield 4 rfl rfl (by kernel_rfl) (by kernel_rfl) (by kernel_rfl) (fun _ _ _ _ h => nomatch h.1) (.string (D ++ ⟨#[32]⟩)) (fun w' hw' => by exact exec_cat 9 9 (.tmp 17) (.const (.string ⟨#[32]⟩)) (by kernel_rfl) (D) (⟨#[32]⟩) (by kernel_rfl) (by kernel_rfl) l1 w') hk1 ?_
        refine held_one 10 (by kernel_rfl) rfl rfl ?_
        with_reducible refine oper_call 34 #[.slice (some ⟨bk0, 0, none⟩) 2 2] ?he (hJ1 _ _ hn0_1 ((hk1.cell (p := ⟨6, 15, none⟩) hDlt').trans cd)) (fun v0 W2 hR => ?_)
        case he => first | kernel_rfl | go_simp
        obtain ⟨rfl, hb2⟩ := hR
        have hk2 := hk1.call hBB hb2
        have hs2 := hb2.size
        have hn0_2 := (hb2.block bk0 (by first | omega | (simp; omega) | simp)).trans hn0_1
        refine ⟨hk2, ?_⟩
        refine held_yield 11 rfl rfl (by kernel_rfl) (by kernel_rfl) (by kernel_rfl) (fun _ _ _ _ h => nomatch h.1) (.string (D ++ ⟨#[32]⟩ ++ J1)) (fun w' hw' => by exact exec_cat 9 9 (.tmp 18) (.tmp 24) (by kernel_rfl) (D ++ ⟨#[32]⟩) (J1) (by kernel_rfl) (by kernel_rfl) l2 w') hk2 ?_
        refine held_yield 12 rfl rfl (by kernel_rfl) (by kernel_rfl) (by kernel_rfl) (fun _ _ _ _ h => nomatch h.1) (.string (D ++ ⟨#[32]⟩ ++ J1 ++ ⟨#[32]⟩)) (fun w' hw' => by exact exec_cat 9 9 (.tmp 25) (.const (.string ⟨#[32]⟩)) (by kernel_rfl) (D ++ ⟨#[32]⟩ ++ J1) (⟨#[32]⟩) (by kernel_rfl) (by kernel_rfl) l3 w') hk2 ?_
        refine held_one 17 (by kernel_rfl) rfl rfl ?_
        with_reducible refine oper_call 34 #[.slice (some ⟨w.heap.size, 3, none⟩) n 12] ?he (hJ2 _ hk2) (fun v0 W3 hR => ?_)
        case he => first | kernel_rfl | go_simp
        obtain ⟨rfl, hb3⟩ := hR
        have hk3 := hk2.call hBB hb3
        have hs3 := hb3.size
        have hn0_3 := (hb3.block bk0 (by first | omega | (simp; omega) | simp)).trans hn0_2
        refine ⟨hk3, ?_⟩
        refine held_yield 18 rfl rfl (by kernel_rfl) (by kernel_rfl) (by kernel_rfl) (fun _ _ _ _ h => nomatch h.1) (.string (D ++ ⟨#[32]⟩ ++ J1 ++ ⟨#[32]⟩ ++ J2)) (fun w' hw' => by exact exec_cat 9 9 (.tmp 26) (.tmp 31) (by kernel_rfl) (D ++ ⟨#[32]⟩ ++ J1 ++ ⟨#[32]⟩) (J2) (by kernel_rfl) (by kernel_rfl) l4 w') hk3 ?_
        refine held_yield 19 rfl rfl (by kernel_rfl) (by kernel_rfl) (by kernel_rfl) (fun _ _ _ _ h => nomatch h.1) (.string (D ++ ⟨#[32]⟩ ++ J1 ++ ⟨#[32]⟩ ++ J2)) (fun w' hw' => by (first | kernel_rfl | go_simp)) hk3 ?_
        refine wpAnyH_done (by kernel_rfl) ⟨rfl, by kernel_rfl, by kernel_rfl, hk3.2.2⟩ _
    · rintro a' W' ⟨hv, hd, hb⟩
      go_wp2
      exact bodyPost_ret (results_tmp Tryz.results10 _ _ _) hd ⟨by rw [hv], hb⟩
end Go.Proofs.YtkokekndiammpaaGreatDoor

/-! The law on TrainText. -/
set_option linter.unusedVariables false
set_option linter.unusedSimpArgs false
namespace Go.Proofs.YtkokekndiammpaaGreatDoor
open Go.RowKit Go.Lib

set_option maxHeartbeats 2000000 in
set_option maxRecDepth 100000 in
theorem implTrainText_any (r : Int) (s t : Nat) (F : Nat → Nat) (lr : -128 ≤ r) (ur : r ≤ 127) (hs : s < 2 ^ 32) (ht : t < 2 ^ 32) (hF : ∀ i, i < 12 → F i < 2 ^ 32) (w : World) (hdb : w.cell? ⟨6, 15, none⟩ = some (.int .u8 4)) :
    Calls Tryz.prog 10 #[.agg (train r s t F)] w fun e w' => e = .returned (.string ⟨(trainText r s t F).toArray⟩) ∧ Below w.heap.size w w' := by
  cases hv : trainB r s t F
  · have hT : trainText r s t F = [] := by unfold trainText; rw [hv]; rfl
    rw [hT]
    clear hdb
    go_enter Tryz.func10, Tryz.ntmps10
    go_wp2_with (first | ((with_reducible refine at_load 28 ?_); refine wpList_load_part rfl 28 _ rfl _ 0 15 rfl _ _ _ _ (by repeat (first | (with_reducible assumption) | ((with_reducible refine blk_new _ _ _ ?_); focus (simp; done)) | ((with_reducible refine blk_old _ _ _ ?_ ?_); focus (simp; done)) | ((with_reducible refine blk_old _ _ _ ?_ ?_); focus (first | omega | (simp; omega))) | ((with_reducible apply blk_set); focus (simp; done)) | ((with_reducible refine blk_off _ _ _ _ ?_ ?_); focus (simp; done)) | ((with_reducible refine blk_offc _ _ _ _ ?_ ?_); focus (first | (simp; done) | omega | (simp; omega))) | ((with_reducible refine blk_off _ _ _ _ ?_ ?_); focus (first | omega | (simp; omega))) | (with_reducible refine blk_drew _ _ ?_) | ((with_reducible refine blk_below (by assumption) ?_ ?_); focus (simp; done)) | ((with_reducible refine blk_below (by assumption) ?_ ?_); focus (first | omega | (simp; omega))))) Tryz.underlying28 rfl (by kernel_rfl) (by simp [row_size]) _ (row_all [_, _, _] 12 _) ?_) | (go_at_call 18; (with_reducible refine (implOk_any r s t F _ (by omega) (by omega)).mono ?_); rintro e w1 ⟨rfl, hb1⟩; have hz1 := hb1.size; (try simp at hz1); obtain ⟨hc1, hf1⟩ := bcell hb1))
    go_ret
    exact ⟨rfl, (by repeat (first | (with_reducible assumption) | (with_reducible exact Below.refl _ _) | ((with_reducible refine bel_alloc _ ?_ ?_); focus (first | omega | (simp; done) | (simp; omega))) | ((with_reducible refine bel_row _ ?_ ?_); focus (first | omega | (simp; done) | (simp; omega))) | ((with_reducible refine bel_cell _ ?_ ?_); focus (first | omega | (simp; done) | (simp; omega))) | (with_reducible refine Below.drew ?_) | (with_reducible refine below_wideW _ ?_) | ((with_reducible refine bel_next (by assumption) ?_ ?_); focus (first | omega | (simp; done) | (simp; omega)))))⟩
  · obtain ⟨h2, h12, _⟩ := trainB_facts hv
    obtain ⟨n, rfl⟩ : ∃ n : Nat, r = n := ⟨r.toNat, by omega⟩
    have hT : trainText n s t F = if bareT n F then trainTx n s t F else [] := by unfold trainText; rw [hv]; rfl
    rw [hT]
    exact implTrainTx n s t F (by omega) (by omega) hs ht hF hv w hdb

end Go.Proofs.YtkokekndiammpaaGreatDoor
