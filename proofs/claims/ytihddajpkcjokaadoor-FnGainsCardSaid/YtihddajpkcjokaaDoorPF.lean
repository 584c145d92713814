/- Parts of a proof, merged; each under its own premises. -/
import Derived.Test.YtihddajpkcjokaaDoorPE
import Derived.Test.YtihddajpkcjokaaDoorPD
import Derived.Deep.CutRange

/-! What FnGains tests of a dot and its gain; under its own premises. -/
set_option linter.unusedVariables false
set_option linter.unusedSimpArgs false
namespace Go.Proofs.YtihddajpkcjokaaDoor
open Go.RowKit Ieee

set_option maxRecDepth 100000 in
set_option maxHeartbeats 6400000 in
theorem gains_first {dot due kn home none : Nat} (hp : partB kn = true) (f1 : (FloatKind.f32.format.order due dot == some .lt) = false) (f2 : (FloatKind.f32.format.order due 1065353216 == some .gt) = false) (f3 : (FloatKind.f32.format.order home dot == some .lt) = false) (f4 : FloatKind.f32.format.order none dot = some .eq) (n1 : Fin32 home) (n2 : Fin32 dot) (n3 : Fin32 (fsub home dot)) (n4 : leF (absN (fsub home dot)) 981668463 = true) {w w1 : World} (hB : Below w.heap.size w w1)
    {Q : Exit → Act → World → Prop} {K : Act → World → Prop} {x0 x1 x2 x3 x4 x6 x19 x20 x21 x22 x23 x24 x25 x26 x27 x28 x29 x30 x31 x32 x33 x34 x35 x36 x37 x38 x39 x40 x41 x42 x43 x44 x45 x46 x47 x48 x49 x50 x51 x52 x53 x54 x55 x56 x57 x58 x59 x60 x61 x62 x63 x64 x65 x66 x67 x68 x69 x70 x71 x72 x73 x74 x75 x76 x77 x78 x79 x80 x81 x82 x83 x84 x85 x86 x87 x88 x89 x90 x91 x92 x93 x94 x95 x96 x97 x98 x99 x100 x101 x102 x103 x104 x105 x106 x107 x108 x109 x110 x111 x112 x113 x114 x115 x116 x117 x118 x119 x120 x121 x122 x123 x124 x125 x126 x127 x128 x129 x130 x131 x132 x133 x134 x135 x136 x137 x138 x139 x140 x141 x142 x143 x144 x145 x146 x147 x148 x149 x150 x151 x152 x153 x154 x155 x156 x157 x158 x159 x160 x161 x162 x163 x164 x165 x166 x167 x168 x169 x170 x171 x172 x173 x174 x175 x176 x177 x178 x179 x180 x181 x182 x183 x184 x185 x186 x187 x188 x189 x190 x191 x192 x193 x194 x195 x196 x197 x198 x199 x200 x201 x202 x203 x204 x205 x206 x207 x208 x209 x210 x211 x212 x213 x214 x215 x216 x217 x218 x219 x220 x221 x222 x223 x224 x225 x226 x227 x228 x229 x230 x231 x232 x233 x234 x235 x236 x237 x238 x239 x240 x241 x242 x243 x244 x245 x246 x247 x248 x249 x250 x251 x252 x253 x254 x255 x256 x257 x258 x259 x260 x261 x262 x263 x264 x265 x266 x267 x268 x269 x270 x271 x272 x273 x274 x275 x276 x277 x278 x279 x280 x281 x282 : Value}
    (hK : ∀ a' w', Met (fun a' w' => ∃ u78 u79 u80 u81 u82 u83 u84 u85 u86 u87 u88 u89 u90 u91 u92 u93 u94 u95 u96 u97 u98 u99 u100 u101 u102 u103 u104 u105 u106 u107 u108 u109 u110 u111 u112 u113 u114 u115 u116 u117 u118 u119 u120 u121 u122 u123 u124 u125 u126 u127 u128 u129 u130 u131 u132 u133 u134 u135 u136 u137 u138 u139 u140 u141 u142 u143, (u143 = .bool false ∧ Below w.heap.size w w' ∧ w1.heap.size ≤ w'.heap.size) ∧ a' = ⟨#[x0, x1, x2, x3, x4, .float .f32 dot, x6, .float .f32 due, .int .i64 0, .float .f32 due, .int .i64 0, .float .f32 kn, .int .i64 0, .float .f32 kn, .int .i64 0, .float .f32 home, .int .i64 0, .float .f32 none, .int .i64 0, x19, x20, x21, x22, x23, x24, x25, x26, x27, x28, x29, x30, x31, x32, x33, x34, x35, x36, x37, x38, x39, x40, x41, x42, x43, x44, x45, x46, x47, x48, x49, x50, x51, x52, x53, x54, x55, x56, x57, x58, x59, x60, x61, x62, x63, x64, x65, x66, x67, x68, x69, x70, x71, x72, x73, x74, x75, x76, x77, u78, u79, u80, u81, u82, u83, u84, u85, u86, u87, u88, u89, u90, u91, u92, u93, u94, u95, u96, u97, u98, u99, u100, u101, u102, u103, u104, u105, u106, u107, u108, u109, u110, u111, u112, u113, u114, u115, u116, u117, u118, u119, u120, u121, u122, u123, u124, u125, u126, u127, u128, u129, u130, u131, u132, u133, u134, u135, u136, u137, u138, u139, u140, u141, u142, u143, x144, x145, x146, x147, x148, x149, x150, x151, x152, x153, x154, x155, x156, x157, x158, x159, x160, x161, x162, x163, x164, x165, x166, x167, x168, x169, x170, x171, x172, x173, x174, x175, x176, x177, x178, x179, x180, x181, x182, x183, x184, x185, x186, x187, x188, x189, x190, x191, x192, x193, x194, x195, x196, x197, x198, x199, x200, x201, x202, x203, x204, x205, x206, x207, x208, x209, x210, x211, x212, x213, x214, x215, x216, x217, x218, x219, x220, x221, x222, x223, x224, x225, x226, x227, x228, x229, x230, x231, x232, x233, x234, x235, x236, x237, x238, x239, x240, x241, x242, x243, x244, x245, x246, x247, x248, x249, x250, x251, x252, x253, x254, x255, x256, x257, x258, x259, x260, x261, x262, x263, x264, x265, x266, x267, x268, x269, x270, x271, x272, x273, x274, x275, x276, x277, x278, x279, x280, x281, x282], []⟩) a' w' → K a' w') :
    (cL (cL (cRn 10 (bodyOf Tryd.f3)))).wp Tryd.prog (Exit.then K Q) ⟨#[x0, x1, x2, x3, x4, .float .f32 dot, x6, .float .f32 due, .int .i64 0, .float .f32 due, .int .i64 0, .float .f32 kn, .int .i64 0, .float .f32 kn, .int .i64 0, .float .f32 home, .int .i64 0, .float .f32 none, .int .i64 0, x19, x20, x21, x22, x23, x24, x25, x26, x27, x28, x29, x30, x31, x32, x33, x34, x35, x36, x37, x38, x39, x40, x41, x42, x43, x44, x45, x46, x47, x48, x49, x50, x51, x52, x53, x54, x55, x56, x57, x58, x59, x60, x61, x62, x63, x64, x65, x66, x67, x68, x69, x70, x71, x72, x73, x74, x75, x76, x77, x78, x79, x80, x81, x82, x83, x84, x85, x86, x87, x88, x89, x90, x91, x92, x93, x94, x95, x96, x97, x98, x99, x100, x101, x102, x103, x104, x105, x106, x107, x108, x109, x110, x111, x112, x113, x114, x115, x116, x117, x118, x119, x120, x121, x122, x123, x124, x125, x126, x127, x128, x129, x130, x131, x132, x133, x134, x135, x136, x137, x138, x139, x140, x141, x142, x143, x144, x145, x146, x147, x148, x149, x150, x151, x152, x153, x154, x155, x156, x157, x158, x159, x160, x161, x162, x163, x164, x165, x166, x167, x168, x169, x170, x171, x172, x173, x174, x175, x176, x177, x178, x179, x180, x181, x182, x183, x184, x185, x186, x187, x188, x189, x190, x191, x192, x193, x194, x195, x196, x197, x198, x199, x200, x201, x202, x203, x204, x205, x206, x207, x208, x209, x210, x211, x212, x213, x214, x215, x216, x217, x218, x219, x220, x221, x222, x223, x224, x225, x226, x227, x228, x229, x230, x231, x232, x233, x234, x235, x236, x237, x238, x239, x240, x241, x242, x243, x244, x245, x246, x247, x248, x249, x250, x251, x252, x253, x254, x255, x256, x257, x258, x259, x260, x261, x262, x263, x264, x265, x266, x267, x268, x269, x270, x271, x272, x273, x274, x275, x276, x277, x278, x279, x280, x281, x282], []⟩ w1 := by
  conv => arg 2; whnf
  dsimp only [List.append]
  obtain ⟨z0, hz0⟩ : ∃ z, z = w1.heap.size := ⟨_, rfl⟩
  go_wp2_with (first | ((with_reducible refine at_load 35 ?_); refine wpList_load_part rfl 35 _ rfl _ 0 66 rfl _ _ _ _ (by first | (with_reducible assumption) | (with_reducible exact blk_new _ _ _ rfl) | (with_reducible exact chainN _ _ _ _) | (with_reducible exact chain1 (by assumption)) | (with_reducible exact old0 (by assumption) (by assumption)) | (with_reducible exact old1 (by assumption) (by assumption)) | (with_reducible exact new1 (by assumption))) Tryd.underlying35 rfl (by kernel_rfl) (by simp [row_size]) _ (row_all [_, _] 64 _) ?_) | ((with_reducible refine at_load 35 ?_); refine wpList_load_partg (by first | rfl | (simp only [hff]; rfl) | (go_simp; done)) 35 _ rfl _ 0 66 rfl _ _ _ _ (by first | (with_reducible assumption) | (with_reducible exact blk_new _ _ _ rfl) | (with_reducible exact chainN _ _ _ _) | (with_reducible exact chain1 (by assumption)) | (with_reducible exact old0 (by assumption) (by assumption)) | (with_reducible exact old1 (by assumption) (by assumption)) | (with_reducible exact new1 (by assumption))) Tryd.underlying35 rfl (by kernel_rfl) (by simp [row_size]) _ (row_all [_, _] 64 _) ?_) | ((with_reducible refine at_store 35 ?_); refine wpList_store_part rfl 35 _ _ rfl _ 0 _ rfl rfl _ _ (by first | (with_reducible assumption) | (with_reducible exact blk_new _ _ _ rfl) | (with_reducible exact chainN _ _ _ _) | (with_reducible exact chain1 (by assumption)) | (with_reducible exact old0 (by assumption) (by assumption)) | (with_reducible exact old1 (by assumption) (by assumption)) | (with_reducible exact new1 (by assumption))) (by rw [row_size]; kernel_rfl) (by simp [row_size]) (row_cells _ _ _ rfl) _ (row_over _ _ 64 _ _ (by simp)) ?_))
  refine (sameNum_b _ _).mono ?_
  rintro e w2 ⟨rfl, hb⟩
  have hB' : Below w.heap.size w w2 := (by first | (with_reducible assumption) | (with_reducible exact bel0 (by assumption) (by assumption) hB.size) | (with_reducible exact bel1 (by assumption) (by assumption) hB.size) | (with_reducible exact belr hB hB.size))
  have hz2 := hb.size
  try simp at hz2
  clear hB hb   
  generalize hgz1 : w1.heap.size = z1 at *
  clear hgz1
  have hB := hB'; clear hB'
  go_wp2_with (first | ((with_reducible refine at_load 35 ?_); refine wpList_load_part rfl 35 _ rfl _ 0 66 rfl _ _ _ _ (by first | (with_reducible assumption) | (with_reducible exact blk_new _ _ _ rfl) | (with_reducible exact chainN _ _ _ _) | (with_reducible exact chain1 (by assumption)) | (with_reducible exact old0 (by assumption) (by assumption)) | (with_reducible exact old1 (by assumption) (by assumption)) | (with_reducible exact new1 (by assumption))) Tryd.underlying35 rfl (by kernel_rfl) (by simp [row_size]) _ (row_all [_, _] 64 _) ?_) | ((with_reducible refine at_load 35 ?_); refine wpList_load_partg (by first | rfl | (simp only [hff]; rfl) | (go_simp; done)) 35 _ rfl _ 0 66 rfl _ _ _ _ (by first | (with_reducible assumption) | (with_reducible exact blk_new _ _ _ rfl) | (with_reducible exact chainN _ _ _ _) | (with_reducible exact chain1 (by assumption)) | (with_reducible exact old0 (by assumption) (by assumption)) | (with_reducible exact old1 (by assumption) (by assumption)) | (with_reducible exact new1 (by assumption))) Tryd.underlying35 rfl (by kernel_rfl) (by simp [row_size]) _ (row_all [_, _] 64 _) ?_) | ((with_reducible refine at_store 35 ?_); refine wpList_store_part rfl 35 _ _ rfl _ 0 _ rfl rfl _ _ (by first | (with_reducible assumption) | (with_reducible exact blk_new _ _ _ rfl) | (with_reducible exact chainN _ _ _ _) | (with_reducible exact chain1 (by assumption)) | (with_reducible exact old0 (by assumption) (by assumption)) | (with_reducible exact old1 (by assumption) (by assumption)) | (with_reducible exact new1 (by assumption))) (by rw [row_size]; kernel_rfl) (by simp [row_size]) (row_cells _ _ _ rfl) _ (row_over _ _ 64 _ _ (by simp)) ?_))
  refine (sameNum_b _ _).mono ?_
  rintro e w3 ⟨rfl, hb⟩
  have hB' : Below w.heap.size w w3 := (by first | (with_reducible assumption) | (with_reducible exact bel0 (by assumption) (by assumption) hB.size) | (with_reducible exact bel1 (by assumption) (by assumption) hB.size) | (with_reducible exact belr hB hB.size))
  have hz3 := hb.size
  try simp at hz3
  clear hB hb   
  generalize hgz2 : w2.heap.size = z2 at *
  clear hgz2
  have hB := hB'; clear hB'
  go_wp2_with (first | ((with_reducible refine at_load 35 ?_); refine wpList_load_part rfl 35 _ rfl _ 0 66 rfl _ _ _ _ (by first | (with_reducible assumption) | (with_reducible exact blk_new _ _ _ rfl) | (with_reducible exact chainN _ _ _ _) | (with_reducible exact chain1 (by assumption)) | (with_reducible exact old0 (by assumption) (by assumption)) | (with_reducible exact old1 (by assumption) (by assumption)) | (with_reducible exact new1 (by assumption))) Tryd.underlying35 rfl (by kernel_rfl) (by simp [row_size]) _ (row_all [_, _] 64 _) ?_) | ((with_reducible refine at_load 35 ?_); refine wpList_load_partg (by first | rfl | (simp only [hff]; rfl) | (go_simp; done)) 35 _ rfl _ 0 66 rfl _ _ _ _ (by first | (with_reducible assumption) | (with_reducible exact blk_new _ _ _ rfl) | (with_reducible exact chainN _ _ _ _) | (with_reducible exact chain1 (by assumption)) | (with_reducible exact old0 (by assumption) (by assumption)) | (with_reducible exact old1 (by assumption) (by assumption)) | (with_reducible exact new1 (by assumption))) Tryd.underlying35 rfl (by kernel_rfl) (by simp [row_size]) _ (row_all [_, _] 64 _) ?_) | ((with_reducible refine at_store 35 ?_); refine wpList_store_part rfl 35 _ _ rfl _ 0 _ rfl rfl _ _ (by first | (with_reducible assumption) | (with_reducible exact blk_new _ _ _ rfl) | (with_reducible exact chainN _ _ _ _) | (with_reducible exact chain1 (by assumption)) | (with_reducible exact old0 (by assumption) (by assumption)) | (with_reducible exact old1 (by assumption) (by assumption)) | (with_reducible exact new1 (by assumption))) (by rw [row_size]; kernel_rfl) (by simp [row_size]) (row_cells _ _ _ rfl) _ (row_over _ _ 64 _ _ (by simp)) ?_))
  refine (isPart_b hp _).mono ?_
  rintro e w4 ⟨rfl, hb⟩
  have hB' : Below w.heap.size w w4 := (by first | (with_reducible assumption) | (with_reducible exact bel0 (by assumption) (by assumption) hB.size) | (with_reducible exact bel1 (by assumption) (by assumption) hB.size) | (with_reducible exact belr hB hB.size))
  have hz4 := hb.size
  try simp at hz4
  clear hB hb   
  generalize hgz3 : w3.heap.size = z3 at *
  clear hgz3
  have hB := hB'; clear hB'
  go_wp2_with (first | ((with_reducible refine at_load 35 ?_); refine wpList_load_part rfl 35 _ rfl _ 0 66 rfl _ _ _ _ (by first | (with_reducible assumption) | (with_reducible exact blk_new _ _ _ rfl) | (with_reducible exact chainN _ _ _ _) | (with_reducible exact chain1 (by assumption)) | (with_reducible exact old0 (by assumption) (by assumption)) | (with_reducible exact old1 (by assumption) (by assumption)) | (with_reducible exact new1 (by assumption))) Tryd.underlying35 rfl (by kernel_rfl) (by simp [row_size]) _ (row_all [_, _] 64 _) ?_) | ((with_reducible refine at_load 35 ?_); refine wpList_load_partg (by first | rfl | (simp only [hff]; rfl) | (go_simp; done)) 35 _ rfl _ 0 66 rfl _ _ _ _ (by first | (with_reducible assumption) | (with_reducible exact blk_new _ _ _ rfl) | (with_reducible exact chainN _ _ _ _) | (with_reducible exact chain1 (by assumption)) | (with_reducible exact old0 (by assumption) (by assumption)) | (with_reducible exact old1 (by assumption) (by assumption)) | (with_reducible exact new1 (by assumption))) Tryd.underlying35 rfl (by kernel_rfl) (by simp [row_size]) _ (row_all [_, _] 64 _) ?_) | ((with_reducible refine at_store 35 ?_); refine wpList_store_part rfl 35 _ _ rfl _ 0 _ rfl rfl _ _ (by first | (with_reducible assumption) | (with_reducible exact blk_new _ _ _ rfl) | (with_reducible exact chainN _ _ _ _) | (with_reducible exact chain1 (by assumption)) | (with_reducible exact old0 (by assumption) (by assumption)) | (with_reducible exact old1 (by assumption) (by assumption)) | (with_reducible exact new1 (by assumption))) (by rw [row_size]; kernel_rfl) (by simp [row_size]) (row_cells _ _ _ rfl) _ (row_over _ _ 64 _ _ (by simp)) ?_))
  refine (near_b n1 n2 n3 (by decide) n4 _).mono ?_
  rintro e w5 ⟨rfl, hb⟩
  have hB' : Below w.heap.size w w5 := (by first | (with_reducible assumption) | (with_reducible exact bel0 (by assumption) (by assumption) hB.size) | (with_reducible exact bel1 (by assumption) (by assumption) hB.size) | (with_reducible exact belr hB hB.size))
  have hz5 := hb.size
  try simp at hz5
  clear hB hb   
  generalize hgz4 : w4.heap.size = z4 at *
  clear hgz4
  have hB := hB'; clear hB'
  go_wp2_with (fail)
  refine Met.intro ?_
  (repeat apply Exists.intro)
  refine ⟨⟨?_, hB, by omega⟩, rfl⟩
  first | rfl | (simp; done) | (simp [f4]; done)
end Go.Proofs.YtihddajpkcjokaaDoor

/-! What FnGains tests of a light; under its own premises. -/
set_option linter.unusedVariables false
set_option linter.unusedSimpArgs false
namespace Go.Proofs.YtihddajpkcjokaaDoor
open Go.RowKit Ieee

set_option maxRecDepth 100000 in
set_option maxHeartbeats 6400000 in
theorem gains_light {dot sol md q : Nat} {C : Int} (hd : Fin32 dot) (hp : partB md = true) (hout : LightOut dot sol q C) {w w1 : World} (hB : Below w.heap.size w w1)
    {Q : Exit → Act → World → Prop} {K : Act → World → Prop} {x0 x1 x2 x3 x4 x6 x7 x8 x9 x10 x11 x12 x13 x14 x15 x16 x17 x18 x28 x29 x30 x31 x32 x33 x34 x35 x36 x37 x38 x39 x40 x41 x42 x43 x44 x45 x46 x47 x48 x49 x50 x51 x52 x53 x54 x55 x56 x57 x58 x59 x60 x61 x62 x63 x64 x65 x66 x67 x68 x69 x70 x71 x72 x73 x74 x75 x76 x77 x78 x79 x80 x81 x82 x83 x84 x85 x86 x87 x88 x89 x90 x91 x92 x93 x94 x95 x96 x97 x98 x99 x100 x101 x102 x103 x104 x105 x106 x107 x108 x109 x110 x111 x112 x113 x114 x115 x116 x117 x118 x119 x120 x121 x122 x123 x124 x125 x126 x127 x128 x129 x130 x131 x132 x133 x134 x135 x136 x137 x138 x139 x140 x141 x142 x143 x144 x145 x146 x147 x148 x149 x150 x151 x152 x153 x154 x155 x156 x157 x158 x159 x160 x161 x162 x163 x164 x165 x166 x167 x168 x169 x170 x171 x172 x173 x174 x175 x176 x177 x178 x179 x180 x181 x182 x183 x184 x185 x186 x187 x188 x189 x190 x191 x192 x193 x194 x195 x196 x197 x198 x199 x200 x201 x202 x203 x204 x205 x206 x207 x208 x209 x210 x211 x212 x213 x214 x215 x216 x217 x218 x219 x220 x221 x222 x223 x224 x225 x226 x227 x228 x229 x230 x231 x232 x233 x234 x235 x236 x237 x238 x239 x240 x241 x242 x243 x244 x245 x246 x247 x248 x249 x250 x251 x252 x253 x254 x255 x256 x257 x258 x259 x260 x261 x262 x263 x264 x265 x266 x267 x268 x269 x270 x271 x272 x273 x274 x275 x276 x277 x278 x279 x280 x281 x282 : Value}
    (hK : ∀ a' w', Met (fun a' w' => ∃ u170 u171 u172 u173 u174 u175 u176 u177 u178 u179 u180 u181 u182 u183 u184 u185 u186 u187 u188 u189 u190 u191 u192 u193 u194 u195 u196 u197 u198 u199 u200 u201 u202 u203 u204 u205 u206 u207 u208 u209 u210 u211 u212 u213 u214 u215 u216 u217 u218 u219 u220, (u220 = .bool false ∧ Below w.heap.size w w' ∧ w1.heap.size ≤ w'.heap.size) ∧ a' = ⟨#[x0, x1, x2, x3, x4, .float .f32 dot, x6, x7, x8, x9, x10, x11, x12, x13, x14, x15, x16, x17, x18, .float .f32 sol, .float .f32 md, .int .i64 0, .float .f32 md, .int .i64 0, .float .f32 q, .int .i64 C, .float .f32 q, .int .i64 C, x28, x29, x30, x31, x32, x33, x34, x35, x36, x37, x38, x39, x40, x41, x42, x43, x44, x45, x46, x47, x48, x49, x50, x51, x52, x53, x54, x55, x56, x57, x58, x59, x60, x61, x62, x63, x64, x65, x66, x67, x68, x69, x70, x71, x72, x73, x74, x75, x76, x77, x78, x79, x80, x81, x82, x83, x84, x85, x86, x87, x88, x89, x90, x91, x92, x93, x94, x95, x96, x97, x98, x99, x100, x101, x102, x103, x104, x105, x106, x107, x108, x109, x110, x111, x112, x113, x114, x115, x116, x117, x118, x119, x120, x121, x122, x123, x124, x125, x126, x127, x128, x129, x130, x131, x132, x133, x134, x135, x136, x137, x138, x139, x140, x141, x142, x143, x144, x145, x146, x147, x148, x149, x150, x151, x152, x153, x154, x155, x156, x157, x158, x159, x160, x161, x162, x163, x164, x165, x166, x167, x168, x169, u170, u171, u172, u173, u174, u175, u176, u177, u178, u179, u180, u181, u182, u183, u184, u185, u186, u187, u188, u189, u190, u191, u192, u193, u194, u195, u196, u197, u198, u199, u200, u201, u202, u203, u204, u205, u206, u207, u208, u209, u210, u211, u212, u213, u214, u215, u216, u217, u218, u219, u220, x221, x222, x223, x224, x225, x226, x227, x228, x229, x230, x231, x232, x233, x234, x235, x236, x237, x238, x239, x240, x241, x242, x243, x244, x245, x246, x247, x248, x249, x250, x251, x252, x253, x254, x255, x256, x257, x258, x259, x260, x261, x262, x263, x264, x265, x266, x267, x268, x269, x270, x271, x272, x273, x274, x275, x276, x277, x278, x279, x280, x281, x282], []⟩) a' w' → K a' w') :
    (cL (cL (cRn 16 (bodyOf Tryd.f3)))).wp Tryd.prog (Exit.then K Q) ⟨#[x0, x1, x2, x3, x4, .float .f32 dot, x6, x7, x8, x9, x10, x11, x12, x13, x14, x15, x16, x17, x18, .float .f32 sol, .float .f32 md, .int .i64 0, .float .f32 md, .int .i64 0, .float .f32 q, .int .i64 C, .float .f32 q, .int .i64 C, x28, x29, x30, x31, x32, x33, x34, x35, x36, x37, x38, x39, x40, x41, x42, x43, x44, x45, x46, x47, x48, x49, x50, x51, x52, x53, x54, x55, x56, x57, x58, x59, x60, x61, x62, x63, x64, x65, x66, x67, x68, x69, x70, x71, x72, x73, x74, x75, x76, x77, x78, x79, x80, x81, x82, x83, x84, x85, x86, x87, x88, x89, x90, x91, x92, x93, x94, x95, x96, x97, x98, x99, x100, x101, x102, x103, x104, x105, x106, x107, x108, x109, x110, x111, x112, x113, x114, x115, x116, x117, x118, x119, x120, x121, x122, x123, x124, x125, x126, x127, x128, x129, x130, x131, x132, x133, x134, x135, x136, x137, x138, x139, x140, x141, x142, x143, x144, x145, x146, x147, x148, x149, x150, x151, x152, x153, x154, x155, x156, x157, x158, x159, x160, x161, x162, x163, x164, x165, x166, x167, x168, x169, x170, x171, x172, x173, x174, x175, x176, x177, x178, x179, x180, x181, x182, x183, x184, x185, x186, x187, x188, x189, x190, x191, x192, x193, x194, x195, x196, x197, x198, x199, x200, x201, x202, x203, x204, x205, x206, x207, x208, x209, x210, x211, x212, x213, x214, x215, x216, x217, x218, x219, x220, x221, x222, x223, x224, x225, x226, x227, x228, x229, x230, x231, x232, x233, x234, x235, x236, x237, x238, x239, x240, x241, x242, x243, x244, x245, x246, x247, x248, x249, x250, x251, x252, x253, x254, x255, x256, x257, x258, x259, x260, x261, x262, x263, x264, x265, x266, x267, x268, x269, x270, x271, x272, x273, x274, x275, x276, x277, x278, x279, x280, x281, x282], []⟩ w1 := by
  unfold LightOut isOne at hout
  rcases hout with ⟨h1, rfl⟩ | ⟨h1, rfl⟩ | ⟨h1, rfl, hn⟩
  · conv => arg 2; whnf
    dsimp only [List.append]
    obtain ⟨z0, hz0⟩ : ∃ z, z = w1.heap.size := ⟨_, rfl⟩
    go_wp2_with (first | ((with_reducible refine at_load 35 ?_); refine wpList_load_part rfl 35 _ rfl _ 0 66 rfl _ _ _ _ (by first | (with_reducible assumption) | (with_reducible exact blk_new _ _ _ rfl) | (with_reducible exact chainN _ _ _ _) | (with_reducible exact chain1 (by assumption)) | (with_reducible exact old0 (by assumption) (by assumption)) | (with_reducible exact old1 (by assumption) (by assumption)) | (with_reducible exact new1 (by assumption))) Tryd.underlying35 rfl (by kernel_rfl) (by simp [row_size]) _ (row_all [_, _] 64 _) ?_) | ((with_reducible refine at_load 35 ?_); refine wpList_load_partg (by first | rfl | (simp only [hff]; rfl) | (go_simp; done)) 35 _ rfl _ 0 66 rfl _ _ _ _ (by first | (with_reducible assumption) | (with_reducible exact blk_new _ _ _ rfl) | (with_reducible exact chainN _ _ _ _) | (with_reducible exact chain1 (by assumption)) | (with_reducible exact old0 (by assumption) (by assumption)) | (with_reducible exact old1 (by assumption) (by assumption)) | (with_reducible exact new1 (by assumption))) Tryd.underlying35 rfl (by kernel_rfl) (by simp [row_size]) _ (row_all [_, _] 64 _) ?_) | ((with_reducible refine at_store 35 ?_); refine wpList_store_part rfl 35 _ _ rfl _ 0 _ rfl rfl _ _ (by first | (with_reducible assumption) | (with_reducible exact blk_new _ _ _ rfl) | (with_reducible exact chainN _ _ _ _) | (with_reducible exact chain1 (by assumption)) | (with_reducible exact old0 (by assumption) (by assumption)) | (with_reducible exact old1 (by assumption) (by assumption)) | (with_reducible exact new1 (by assumption))) (by rw [row_size]; kernel_rfl) (by simp [row_size]) (row_cells _ _ _ rfl) _ (row_over _ _ 64 _ _ (by simp)) ?_))
    refine (sameNum_b _ _).mono ?_
    rintro e w2 ⟨rfl, hb⟩
    have hB' : Below w.heap.size w w2 := (by first | (with_reducible assumption) | (with_reducible exact bel0 (by assumption) (by assumption) hB.size) | (with_reducible exact bel1 (by assumption) (by assumption) hB.size) | (with_reducible exact belr hB hB.size))
    have hz2 := hb.size
    try simp at hz2
    clear hB hb   
    generalize hgz1 : w1.heap.size = z1 at *
    clear hgz1
    have hB := hB'; clear hB'
    go_wp2_with (first | ((with_reducible refine at_load 35 ?_); refine wpList_load_part rfl 35 _ rfl _ 0 66 rfl _ _ _ _ (by first | (with_reducible assumption) | (with_reducible exact blk_new _ _ _ rfl) | (with_reducible exact chainN _ _ _ _) | (with_reducible exact chain1 (by assumption)) | (with_reducible exact old0 (by assumption) (by assumption)) | (with_reducible exact old1 (by assumption) (by assumption)) | (with_reducible exact new1 (by assumption))) Tryd.underlying35 rfl (by kernel_rfl) (by simp [row_size]) _ (row_all [_, _] 64 _) ?_) | ((with_reducible refine at_load 35 ?_); refine wpList_load_partg (by first | rfl | (simp only [hff]; rfl) | (go_simp; done)) 35 _ rfl _ 0 66 rfl _ _ _ _ (by first | (with_reducible assumption) | (with_reducible exact blk_new _ _ _ rfl) | (with_reducible exact chainN _ _ _ _) | (with_reducible exact chain1 (by assumption)) | (with_reducible exact old0 (by assumption) (by assumption)) | (with_reducible exact old1 (by assumption) (by assumption)) | (with_reducible exact new1 (by assumption))) Tryd.underlying35 rfl (by kernel_rfl) (by simp [row_size]) _ (row_all [_, _] 64 _) ?_) | ((with_reducible refine at_store 35 ?_); refine wpList_store_part rfl 35 _ _ rfl _ 0 _ rfl rfl _ _ (by first | (with_reducible assumption) | (with_reducible exact blk_new _ _ _ rfl) | (with_reducible exact chainN _ _ _ _) | (with_reducible exact chain1 (by assumption)) | (with_reducible exact old0 (by assumption) (by assumption)) | (with_reducible exact old1 (by assumption) (by assumption)) | (with_reducible exact new1 (by assumption))) (by rw [row_size]; kernel_rfl) (by simp [row_size]) (row_cells _ _ _ rfl) _ (row_over _ _ 64 _ _ (by simp)) ?_))
    refine (isPart_b hp _).mono ?_
    rintro e w3 ⟨rfl, hb⟩
    have hB' : Below w.heap.size w w3 := (by first | (with_reducible assumption) | (with_reducible exact bel0 (by assumption) (by assumption) hB.size) | (with_reducible exact bel1 (by assumption) (by assumption) hB.size) | (with_reducible exact belr hB hB.size))
    have hz3 := hb.size
    try simp at hz3
    clear hB hb   
    generalize hgz2 : w2.heap.size = z2 at *
    clear hgz2
    have hB := hB'; clear hB'
    go_wp2_with (first | ((with_reducible refine at_load 35 ?_); refine wpList_load_part rfl 35 _ rfl _ 0 66 rfl _ _ _ _ (by first | (with_reducible assumption) | (with_reducible exact blk_new _ _ _ rfl) | (with_reducible exact chainN _ _ _ _) | (with_reducible exact chain1 (by assumption)) | (with_reducible exact old0 (by assumption) (by assumption)) | (with_reducible exact old1 (by assumption) (by assumption)) | (with_reducible exact new1 (by assumption))) Tryd.underlying35 rfl (by kernel_rfl) (by simp [row_size]) _ (row_all [_, _] 64 _) ?_) | ((with_reducible refine at_load 35 ?_); refine wpList_load_partg (by first | rfl | (simp only [hff]; rfl) | (go_simp; done)) 35 _ rfl _ 0 66 rfl _ _ _ _ (by first | (with_reducible assumption) | (with_reducible exact blk_new _ _ _ rfl) | (with_reducible exact chainN _ _ _ _) | (with_reducible exact chain1 (by assumption)) | (with_reducible exact old0 (by assumption) (by assumption)) | (with_reducible exact old1 (by assumption) (by assumption)) | (with_reducible exact new1 (by assumption))) Tryd.underlying35 rfl (by kernel_rfl) (by simp [row_size]) _ (row_all [_, _] 64 _) ?_) | ((with_reducible refine at_store 35 ?_); refine wpList_store_part rfl 35 _ _ rfl _ 0 _ rfl rfl _ _ (by first | (with_reducible assumption) | (with_reducible exact blk_new _ _ _ rfl) | (with_reducible exact chainN _ _ _ _) | (with_reducible exact chain1 (by assumption)) | (with_reducible exact old0 (by assumption) (by assumption)) | (with_reducible exact old1 (by assumption) (by assumption)) | (with_reducible exact new1 (by assumption))) (by rw [row_size]; kernel_rfl) (by simp [row_size]) (row_cells _ _ _ rfl) _ (row_over _ _ 64 _ _ (by simp)) ?_))
    refine (sameNum_b _ _).mono ?_
    rintro e w4 ⟨rfl, hb⟩
    have hB' : Below w.heap.size w w4 := (by first | (with_reducible assumption) | (with_reducible exact bel0 (by assumption) (by assumption) hB.size) | (with_reducible exact bel1 (by assumption) (by assumption) hB.size) | (with_reducible exact belr hB hB.size))
    have hz4 := hb.size
    try simp at hz4
    clear hB hb   
    generalize hgz3 : w3.heap.size = z3 at *
    clear hgz3
    have hB := hB'; clear hB'
    go_wp2_with (fail)
    refine Met.intro ?_
    (repeat apply Exists.intro)
    refine ⟨⟨?_, hB, by omega⟩, rfl⟩
    first | rfl | (simp; done)
  · conv => arg 2; whnf
    dsimp only [List.append]
    obtain ⟨z0, hz0⟩ : ∃ z, z = w1.heap.size := ⟨_, rfl⟩
    go_wp2_with (first | ((with_reducible refine at_load 35 ?_); refine wpList_load_part rfl 35 _ rfl _ 0 66 rfl _ _ _ _ (by first | (with_reducible assumption) | (with_reducible exact blk_new _ _ _ rfl) | (with_reducible exact chainN _ _ _ _) | (with_reducible exact chain1 (by assumption)) | (with_reducible exact old0 (by assumption) (by assumption)) | (with_reducible exact old1 (by assumption) (by assumption)) | (with_reducible exact new1 (by assumption))) Tryd.underlying35 rfl (by kernel_rfl) (by simp [row_size]) _ (row_all [_, _] 64 _) ?_) | ((with_reducible refine at_load 35 ?_); refine wpList_load_partg (by first | rfl | (simp only [hff]; rfl) | (go_simp; done)) 35 _ rfl _ 0 66 rfl _ _ _ _ (by first | (with_reducible assumption) | (with_reducible exact blk_new _ _ _ rfl) | (with_reducible exact chainN _ _ _ _) | (with_reducible exact chain1 (by assumption)) | (with_reducible exact old0 (by assumption) (by assumption)) | (with_reducible exact old1 (by assumption) (by assumption)) | (with_reducible exact new1 (by assumption))) Tryd.underlying35 rfl (by kernel_rfl) (by simp [row_size]) _ (row_all [_, _] 64 _) ?_) | ((with_reducible refine at_store 35 ?_); refine wpList_store_part rfl 35 _ _ rfl _ 0 _ rfl rfl _ _ (by first | (with_reducible assumption) | (with_reducible exact blk_new _ _ _ rfl) | (with_reducible exact chainN _ _ _ _) | (with_reducible exact chain1 (by assumption)) | (with_reducible exact old0 (by assumption) (by assumption)) | (with_reducible exact old1 (by assumption) (by assumption)) | (with_reducible exact new1 (by assumption))) (by rw [row_size]; kernel_rfl) (by simp [row_size]) (row_cells _ _ _ rfl) _ (row_over _ _ 64 _ _ (by simp)) ?_))
    refine (sameNum_b _ _).mono ?_
    rintro e w2 ⟨rfl, hb⟩
    have hB' : Below w.heap.size w w2 := (by first | (with_reducible assumption) | (with_reducible exact bel0 (by assumption) (by assumption) hB.size) | (with_reducible exact bel1 (by assumption) (by assumption) hB.size) | (with_reducible exact belr hB hB.size))
    have hz2 := hb.size
    try simp at hz2
    clear hB hb   
    generalize hgz1 : w1.heap.size = z1 at *
    clear hgz1
    have hB := hB'; clear hB'
    go_wp2_with (first | ((with_reducible refine at_load 35 ?_); refine wpList_load_part rfl 35 _ rfl _ 0 66 rfl _ _ _ _ (by first | (with_reducible assumption) | (with_reducible exact blk_new _ _ _ rfl) | (with_reducible exact chainN _ _ _ _) | (with_reducible exact chain1 (by assumption)) | (with_reducible exact old0 (by assumption) (by assumption)) | (with_reducible exact old1 (by assumption) (by assumption)) | (with_reducible exact new1 (by assumption))) Tryd.underlying35 rfl (by kernel_rfl) (by simp [row_size]) _ (row_all [_, _] 64 _) ?_) | ((with_reducible refine at_load 35 ?_); refine wpList_load_partg (by first | rfl | (simp only [hff]; rfl) | (go_simp; done)) 35 _ rfl _ 0 66 rfl _ _ _ _ (by first | (with_reducible assumption) | (with_reducible exact blk_new _ _ _ rfl) | (with_reducible exact chainN _ _ _ _) | (with_reducible exact chain1 (by assumption)) | (with_reducible exact old0 (by assumption) (by assumption)) | (with_reducible exact old1 (by assumption) (by assumption)) | (with_reducible exact new1 (by assumption))) Tryd.underlying35 rfl (by kernel_rfl) (by simp [row_size]) _ (row_all [_, _] 64 _) ?_) | ((with_reducible refine at_store 35 ?_); refine wpList_store_part rfl 35 _ _ rfl _ 0 _ rfl rfl _ _ (by first | (with_reducible assumption) | (with_reducible exact blk_new _ _ _ rfl) | (with_reducible exact chainN _ _ _ _) | (with_reducible exact chain1 (by assumption)) | (with_reducible exact old0 (by assumption) (by assumption)) | (with_reducible exact old1 (by assumption) (by assumption)) | (with_reducible exact new1 (by assumption))) (by rw [row_size]; kernel_rfl) (by simp [row_size]) (row_cells _ _ _ rfl) _ (row_over _ _ 64 _ _ (by simp)) ?_))
    refine (isPart_b hp _).mono ?_
    rintro e w3 ⟨rfl, hb⟩
    have hB' : Below w.heap.size w w3 := (by first | (with_reducible assumption) | (with_reducible exact bel0 (by assumption) (by assumption) hB.size) | (with_reducible exact bel1 (by assumption) (by assumption) hB.size) | (with_reducible exact belr hB hB.size))
    have hz3 := hb.size
    try simp at hz3
    clear hB hb   
    generalize hgz2 : w2.heap.size = z2 at *
    clear hgz2
    have hB := hB'; clear hB'
    go_wp2_with (first | ((with_reducible refine at_load 35 ?_); refine wpList_load_part rfl 35 _ rfl _ 0 66 rfl _ _ _ _ (by first | (with_reducible assumption) | (with_reducible exact blk_new _ _ _ rfl) | (with_reducible exact chainN _ _ _ _) | (with_reducible exact chain1 (by assumption)) | (with_reducible exact old0 (by assumption) (by assumption)) | (with_reducible exact old1 (by assumption) (by assumption)) | (with_reducible exact new1 (by assumption))) Tryd.underlying35 rfl (by kernel_rfl) (by simp [row_size]) _ (row_all [_, _] 64 _) ?_) | ((with_reducible refine at_load 35 ?_); refine wpList_load_partg (by first | rfl | (simp only [hff]; rfl) | (go_simp; done)) 35 _ rfl _ 0 66 rfl _ _ _ _ (by first | (with_reducible assumption) | (with_reducible exact blk_new _ _ _ rfl) | (with_reducible exact chainN _ _ _ _) | (with_reducible exact chain1 (by assumption)) | (with_reducible exact old0 (by assumption) (by assumption)) | (with_reducible exact old1 (by assumption) (by assumption)) | (with_reducible exact new1 (by assumption))) Tryd.underlying35 rfl (by kernel_rfl) (by simp [row_size]) _ (row_all [_, _] 64 _) ?_) | ((with_reducible refine at_store 35 ?_); refine wpList_store_part rfl 35 _ _ rfl _ 0 _ rfl rfl _ _ (by first | (with_reducible assumption) | (with_reducible exact blk_new _ _ _ rfl) | (with_reducible exact chainN _ _ _ _) | (with_reducible exact chain1 (by assumption)) | (with_reducible exact old0 (by assumption) (by assumption)) | (with_reducible exact old1 (by assumption) (by assumption)) | (with_reducible exact new1 (by assumption))) (by rw [row_size]; kernel_rfl) (by simp [row_size]) (row_cells _ _ _ rfl) _ (row_over _ _ 64 _ _ (by simp)) ?_))
    refine (sameNum_b _ _).mono ?_
    rintro e w4 ⟨rfl, hb⟩
    have hB' : Below w.heap.size w w4 := (by first | (with_reducible assumption) | (with_reducible exact bel0 (by assumption) (by assumption) hB.size) | (with_reducible exact bel1 (by assumption) (by assumption) hB.size) | (with_reducible exact belr hB hB.size))
    have hz4 := hb.size
    try simp at hz4
    clear hB hb   
    generalize hgz3 : w3.heap.size = z3 at *
    clear hgz3
    have hB := hB'; clear hB'
    go_wp2_with (fail)
    refine Met.intro ?_
    (repeat apply Exists.intro)
    refine ⟨⟨?_, hB, by omega⟩, rfl⟩
    first | rfl | (simp; done)
  · cases h5 : (FloatKind.f32.format.order sol 1056964608 == some .lt)
    · conv => arg 2; whnf
      dsimp only [List.append]
      clear hn
      obtain ⟨z0, hz0⟩ : ∃ z, z = w1.heap.size := ⟨_, rfl⟩
      go_wp2_with (first | ((with_reducible refine at_load 35 ?_); refine wpList_load_part rfl 35 _ rfl _ 0 66 rfl _ _ _ _ (by first | (with_reducible assumption) | (with_reducible exact blk_new _ _ _ rfl) | (with_reducible exact chainN _ _ _ _) | (with_reducible exact chain1 (by assumption)) | (with_reducible exact old0 (by assumption) (by assumption)) | (with_reducible exact old1 (by assumption) (by assumption)) | (with_reducible exact new1 (by assumption))) Tryd.underlying35 rfl (by kernel_rfl) (by simp [row_size]) _ (row_all [_, _] 64 _) ?_) | ((with_reducible refine at_load 35 ?_); refine wpList_load_partg (by first | rfl | (simp only [hff]; rfl) | (go_simp; done)) 35 _ rfl _ 0 66 rfl _ _ _ _ (by first | (with_reducible assumption) | (with_reducible exact blk_new _ _ _ rfl) | (with_reducible exact chainN _ _ _ _) | (with_reducible exact chain1 (by assumption)) | (with_reducible exact old0 (by assumption) (by assumption)) | (with_reducible exact old1 (by assumption) (by assumption)) | (with_reducible exact new1 (by assumption))) Tryd.underlying35 rfl (by kernel_rfl) (by simp [row_size]) _ (row_all [_, _] 64 _) ?_) | ((with_reducible refine at_store 35 ?_); refine wpList_store_part rfl 35 _ _ rfl _ 0 _ rfl rfl _ _ (by first | (with_reducible assumption) | (with_reducible exact blk_new _ _ _ rfl) | (with_reducible exact chainN _ _ _ _) | (with_reducible exact chain1 (by assumption)) | (with_reducible exact old0 (by assumption) (by assumption)) | (with_reducible exact old1 (by assumption) (by assumption)) | (with_reducible exact new1 (by assumption))) (by rw [row_size]; kernel_rfl) (by simp [row_size]) (row_cells _ _ _ rfl) _ (row_over _ _ 64 _ _ (by simp)) ?_))
      refine (sameNum_b _ _).mono ?_
      rintro e w2 ⟨rfl, hb⟩
      have hB' : Below w.heap.size w w2 := (by first | (with_reducible assumption) | (with_reducible exact bel0 (by assumption) (by assumption) hB.size) | (with_reducible exact bel1 (by assumption) (by assumption) hB.size) | (with_reducible exact belr hB hB.size))
      have hz2 := hb.size
      try simp at hz2
      clear hB hb   
      generalize hgz1 : w1.heap.size = z1 at *
      clear hgz1
      have hB := hB'; clear hB'
      go_wp2_with (first | ((with_reducible refine at_load 35 ?_); refine wpList_load_part rfl 35 _ rfl _ 0 66 rfl _ _ _ _ (by first | (with_reducible assumption) | (with_reducible exact blk_new _ _ _ rfl) | (with_reducible exact chainN _ _ _ _) | (with_reducible exact chain1 (by assumption)) | (with_reducible exact old0 (by assumption) (by assumption)) | (with_reducible exact old1 (by assumption) (by assumption)) | (with_reducible exact new1 (by assumption))) Tryd.underlying35 rfl (by kernel_rfl) (by simp [row_size]) _ (row_all [_, _] 64 _) ?_) | ((with_reducible refine at_load 35 ?_); refine wpList_load_partg (by first | rfl | (simp only [hff]; rfl) | (go_simp; done)) 35 _ rfl _ 0 66 rfl _ _ _ _ (by first | (with_reducible assumption) | (with_reducible exact blk_new _ _ _ rfl) | (with_reducible exact chainN _ _ _ _) | (with_reducible exact chain1 (by assumption)) | (with_reducible exact old0 (by assumption) (by assumption)) | (with_reducible exact old1 (by assumption) (by assumption)) | (with_reducible exact new1 (by assumption))) Tryd.underlying35 rfl (by kernel_rfl) (by simp [row_size]) _ (row_all [_, _] 64 _) ?_) | ((with_reducible refine at_store 35 ?_); refine wpList_store_part rfl 35 _ _ rfl _ 0 _ rfl rfl _ _ (by first | (with_reducible assumption) | (with_reducible exact blk_new _ _ _ rfl) | (with_reducible exact chainN _ _ _ _) | (with_reducible exact chain1 (by assumption)) | (with_reducible exact old0 (by assumption) (by assumption)) | (with_reducible exact old1 (by assumption) (by assumption)) | (with_reducible exact new1 (by assumption))) (by rw [row_size]; kernel_rfl) (by simp [row_size]) (row_cells _ _ _ rfl) _ (row_over _ _ 64 _ _ (by simp)) ?_))
      refine (isPart_b hp _).mono ?_
      rintro e w3 ⟨rfl, hb⟩
      have hB' : Below w.heap.size w w3 := (by first | (with_reducible assumption) | (with_reducible exact bel0 (by assumption) (by assumption) hB.size) | (with_reducible exact bel1 (by assumption) (by assumption) hB.size) | (with_reducible exact belr hB hB.size))
      have hz3 := hb.size
      try simp at hz3
      clear hB hb   
      generalize hgz2 : w2.heap.size = z2 at *
      clear hgz2
      have hB := hB'; clear hB'
      go_wp2_with (first | ((with_reducible refine at_load 35 ?_); refine wpList_load_part rfl 35 _ rfl _ 0 66 rfl _ _ _ _ (by first | (with_reducible assumption) | (with_reducible exact blk_new _ _ _ rfl) | (with_reducible exact chainN _ _ _ _) | (with_reducible exact chain1 (by assumption)) | (with_reducible exact old0 (by assumption) (by assumption)) | (with_reducible exact old1 (by assumption) (by assumption)) | (with_reducible exact new1 (by assumption))) Tryd.underlying35 rfl (by kernel_rfl) (by simp [row_size]) _ (row_all [_, _] 64 _) ?_) | ((with_reducible refine at_load 35 ?_); refine wpList_load_partg (by first | rfl | (simp only [hff]; rfl) | (go_simp; done)) 35 _ rfl _ 0 66 rfl _ _ _ _ (by first | (with_reducible assumption) | (with_reducible exact blk_new _ _ _ rfl) | (with_reducible exact chainN _ _ _ _) | (with_reducible exact chain1 (by assumption)) | (with_reducible exact old0 (by assumption) (by assumption)) | (with_reducible exact old1 (by assumption) (by assumption)) | (with_reducible exact new1 (by assumption))) Tryd.underlying35 rfl (by kernel_rfl) (by simp [row_size]) _ (row_all [_, _] 64 _) ?_) | ((with_reducible refine at_store 35 ?_); refine wpList_store_part rfl 35 _ _ rfl _ 0 _ rfl rfl _ _ (by first | (with_reducible assumption) | (with_reducible exact blk_new _ _ _ rfl) | (with_reducible exact chainN _ _ _ _) | (with_reducible exact chain1 (by assumption)) | (with_reducible exact old0 (by assumption) (by assumption)) | (with_reducible exact old1 (by assumption) (by assumption)) | (with_reducible exact new1 (by assumption))) (by rw [row_size]; kernel_rfl) (by simp [row_size]) (row_cells _ _ _ rfl) _ (row_over _ _ 64 _ _ (by simp)) ?_))
      refine (sameNum_b _ _).mono ?_
      rintro e w4 ⟨rfl, hb⟩
      have hB' : Below w.heap.size w w4 := (by first | (with_reducible assumption) | (with_reducible exact bel0 (by assumption) (by assumption) hB.size) | (with_reducible exact bel1 (by assumption) (by assumption) hB.size) | (with_reducible exact belr hB hB.size))
      have hz4 := hb.size
      try simp at hz4
      clear hB hb   
      generalize hgz3 : w3.heap.size = z3 at *
      clear hgz3
      have hB := hB'; clear hB'
      go_wp2_with (fail)
      refine Met.intro ?_
      (repeat apply Exists.intro)
      refine ⟨⟨?_, hB, by omega⟩, rfl⟩
      first | rfl | (simp; done)
    · obtain ⟨n1, n2, n3⟩ := hn h5
      conv => arg 2; whnf
      dsimp only [List.append]
      clear hn
      obtain ⟨z0, hz0⟩ : ∃ z, z = w1.heap.size := ⟨_, rfl⟩
      go_wp2_with (first | ((with_reducible refine at_load 35 ?_); refine wpList_load_part rfl 35 _ rfl _ 0 66 rfl _ _ _ _ (by first | (with_reducible assumption) | (with_reducible exact blk_new _ _ _ rfl) | (with_reducible exact chainN _ _ _ _) | (with_reducible exact chain1 (by assumption)) | (with_reducible exact old0 (by assumption) (by assumption)) | (with_reducible exact old1 (by assumption) (by assumption)) | (with_reducible exact new1 (by assumption))) Tryd.underlying35 rfl (by kernel_rfl) (by simp [row_size]) _ (row_all [_, _] 64 _) ?_) | ((with_reducible refine at_load 35 ?_); refine wpList_load_partg (by first | rfl | (simp only [hff]; rfl) | (go_simp; done)) 35 _ rfl _ 0 66 rfl _ _ _ _ (by first | (with_reducible assumption) | (with_reducible exact blk_new _ _ _ rfl) | (with_reducible exact chainN _ _ _ _) | (with_reducible exact chain1 (by assumption)) | (with_reducible exact old0 (by assumption) (by assumption)) | (with_reducible exact old1 (by assumption) (by assumption)) | (with_reducible exact new1 (by assumption))) Tryd.underlying35 rfl (by kernel_rfl) (by simp [row_size]) _ (row_all [_, _] 64 _) ?_) | ((with_reducible refine at_store 35 ?_); refine wpList_store_part rfl 35 _ _ rfl _ 0 _ rfl rfl _ _ (by first | (with_reducible assumption) | (with_reducible exact blk_new _ _ _ rfl) | (with_reducible exact chainN _ _ _ _) | (with_reducible exact chain1 (by assumption)) | (with_reducible exact old0 (by assumption) (by assumption)) | (with_reducible exact old1 (by assumption) (by assumption)) | (with_reducible exact new1 (by assumption))) (by rw [row_size]; kernel_rfl) (by simp [row_size]) (row_cells _ _ _ rfl) _ (row_over _ _ 64 _ _ (by simp)) ?_))
      refine (sameNum_b _ _).mono ?_
      rintro e w2 ⟨rfl, hb⟩
      have hB' : Below w.heap.size w w2 := (by first | (with_reducible assumption) | (with_reducible exact bel0 (by assumption) (by assumption) hB.size) | (with_reducible exact bel1 (by assumption) (by assumption) hB.size) | (with_reducible exact belr hB hB.size))
      have hz2 := hb.size
      try simp at hz2
      clear hB hb   
      generalize hgz1 : w1.heap.size = z1 at *
      clear hgz1
      have hB := hB'; clear hB'
      go_wp2_with (first | ((with_reducible refine at_load 35 ?_); refine wpList_load_part rfl 35 _ rfl _ 0 66 rfl _ _ _ _ (by first | (with_reducible assumption) | (with_reducible exact blk_new _ _ _ rfl) | (with_reducible exact chainN _ _ _ _) | (with_reducible exact chain1 (by assumption)) | (with_reducible exact old0 (by assumption) (by assumption)) | (with_reducible exact old1 (by assumption) (by assumption)) | (with_reducible exact new1 (by assumption))) Tryd.underlying35 rfl (by kernel_rfl) (by simp [row_size]) _ (row_all [_, _] 64 _) ?_) | ((with_reducible refine at_load 35 ?_); refine wpList_load_partg (by first | rfl | (simp only [hff]; rfl) | (go_simp; done)) 35 _ rfl _ 0 66 rfl _ _ _ _ (by first | (with_reducible assumption) | (with_reducible exact blk_new _ _ _ rfl) | (with_reducible exact chainN _ _ _ _) | (with_reducible exact chain1 (by assumption)) | (with_reducible exact old0 (by assumption) (by assumption)) | (with_reducible exact old1 (by assumption) (by assumption)) | (with_reducible exact new1 (by assumption))) Tryd.underlying35 rfl (by kernel_rfl) (by simp [row_size]) _ (row_all [_, _] 64 _) ?_) | ((with_reducible refine at_store 35 ?_); refine wpList_store_part rfl 35 _ _ rfl _ 0 _ rfl rfl _ _ (by first | (with_reducible assumption) | (with_reducible exact blk_new _ _ _ rfl) | (with_reducible exact chainN _ _ _ _) | (with_reducible exact chain1 (by assumption)) | (with_reducible exact old0 (by assumption) (by assumption)) | (with_reducible exact old1 (by assumption) (by assumption)) | (with_reducible exact new1 (by assumption))) (by rw [row_size]; kernel_rfl) (by simp [row_size]) (row_cells _ _ _ rfl) _ (row_over _ _ 64 _ _ (by simp)) ?_))
      refine (isPart_b hp _).mono ?_
      rintro e w3 ⟨rfl, hb⟩
      have hB' : Below w.heap.size w w3 := (by first | (with_reducible assumption) | (with_reducible exact bel0 (by assumption) (by assumption) hB.size) | (with_reducible exact bel1 (by assumption) (by assumption) hB.size) | (with_reducible exact belr hB hB.size))
      have hz3 := hb.size
      try simp at hz3
      clear hB hb   
      generalize hgz2 : w2.heap.size = z2 at *
      clear hgz2
      have hB := hB'; clear hB'
      go_wp2_with (first | ((with_reducible refine at_load 35 ?_); refine wpList_load_part rfl 35 _ rfl _ 0 66 rfl _ _ _ _ (by first | (with_reducible assumption) | (with_reducible exact blk_new _ _ _ rfl) | (with_reducible exact chainN _ _ _ _) | (with_reducible exact chain1 (by assumption)) | (with_reducible exact old0 (by assumption) (by assumption)) | (with_reducible exact old1 (by assumption) (by assumption)) | (with_reducible exact new1 (by assumption))) Tryd.underlying35 rfl (by kernel_rfl) (by simp [row_size]) _ (row_all [_, _] 64 _) ?_) | ((with_reducible refine at_load 35 ?_); refine wpList_load_partg (by first | rfl | (simp only [hff]; rfl) | (go_simp; done)) 35 _ rfl _ 0 66 rfl _ _ _ _ (by first | (with_reducible assumption) | (with_reducible exact blk_new _ _ _ rfl) | (with_reducible exact chainN _ _ _ _) | (with_reducible exact chain1 (by assumption)) | (with_reducible exact old0 (by assumption) (by assumption)) | (with_reducible exact old1 (by assumption) (by assumption)) | (with_reducible exact new1 (by assumption))) Tryd.underlying35 rfl (by kernel_rfl) (by simp [row_size]) _ (row_all [_, _] 64 _) ?_) | ((with_reducible refine at_store 35 ?_); refine wpList_store_part rfl 35 _ _ rfl _ 0 _ rfl rfl _ _ (by first | (with_reducible assumption) | (with_reducible exact blk_new _ _ _ rfl) | (with_reducible exact chainN _ _ _ _) | (with_reducible exact chain1 (by assumption)) | (with_reducible exact old0 (by assumption) (by assumption)) | (with_reducible exact old1 (by assumption) (by assumption)) | (with_reducible exact new1 (by assumption))) (by rw [row_size]; kernel_rfl) (by simp [row_size]) (row_cells _ _ _ rfl) _ (row_over _ _ 64 _ _ (by simp)) ?_))
      refine (sameNum_b _ _).mono ?_
      rintro e w4 ⟨rfl, hb⟩
      have hB' : Below w.heap.size w w4 := (by first | (with_reducible assumption) | (with_reducible exact bel0 (by assumption) (by assumption) hB.size) | (with_reducible exact bel1 (by assumption) (by assumption) hB.size) | (with_reducible exact belr hB hB.size))
      have hz4 := hb.size
      try simp at hz4
      clear hB hb   
      generalize hgz3 : w3.heap.size = z3 at *
      clear hgz3
      have hB := hB'; clear hB'
      go_wp2_with (first | ((with_reducible refine at_load 35 ?_); refine wpList_load_part rfl 35 _ rfl _ 0 66 rfl _ _ _ _ (by first | (with_reducible assumption) | (with_reducible exact blk_new _ _ _ rfl) | (with_reducible exact chainN _ _ _ _) | (with_reducible exact chain1 (by assumption)) | (with_reducible exact old0 (by assumption) (by assumption)) | (with_reducible exact old1 (by assumption) (by assumption)) | (with_reducible exact new1 (by assumption))) Tryd.underlying35 rfl (by kernel_rfl) (by simp [row_size]) _ (row_all [_, _] 64 _) ?_) | ((with_reducible refine at_load 35 ?_); refine wpList_load_partg (by first | rfl | (simp only [hff]; rfl) | (go_simp; done)) 35 _ rfl _ 0 66 rfl _ _ _ _ (by first | (with_reducible assumption) | (with_reducible exact blk_new _ _ _ rfl) | (with_reducible exact chainN _ _ _ _) | (with_reducible exact chain1 (by assumption)) | (with_reducible exact old0 (by assumption) (by assumption)) | (with_reducible exact old1 (by assumption) (by assumption)) | (with_reducible exact new1 (by assumption))) Tryd.underlying35 rfl (by kernel_rfl) (by simp [row_size]) _ (row_all [_, _] 64 _) ?_) | ((with_reducible refine at_store 35 ?_); refine wpList_store_part rfl 35 _ _ rfl _ 0 _ rfl rfl _ _ (by first | (with_reducible assumption) | (with_reducible exact blk_new _ _ _ rfl) | (with_reducible exact chainN _ _ _ _) | (with_reducible exact chain1 (by assumption)) | (with_reducible exact old0 (by assumption) (by assumption)) | (with_reducible exact old1 (by assumption) (by assumption)) | (with_reducible exact new1 (by assumption))) (by rw [row_size]; kernel_rfl) (by simp [row_size]) (row_cells _ _ _ rfl) _ (row_over _ _ 64 _ _ (by simp)) ?_))
      refine (near_b n1 hd n2 (by decide) n3 _).mono ?_
      rintro e w5 ⟨rfl, hb⟩
      have hB' : Below w.heap.size w w5 := (by first | (with_reducible assumption) | (with_reducible exact bel0 (by assumption) (by assumption) hB.size) | (with_reducible exact bel1 (by assumption) (by assumption) hB.size) | (with_reducible exact belr hB hB.size))
      have hz5 := hb.size
      try simp at hz5
      clear hB hb   
      generalize hgz4 : w4.heap.size = z4 at *
      clear hgz4
      have hB := hB'; clear hB'
      go_wp2_with (fail)
      refine Met.intro ?_
      (repeat apply Exists.intro)
      refine ⟨⟨?_, hB, by omega⟩, rfl⟩
      first | rfl | (simp; done)
end Go.Proofs.YtihddajpkcjokaaDoor

/-! The dots that have gained, one by one; under its own premises. -/
set_option linter.unusedVariables false
set_option linter.unusedSimpArgs false
namespace Go.Proofs.YtihddajpkcjokaaDoor
open Go.RowKit Ieee

set_option maxRecDepth 100000 in
set_option maxHeartbeats 6400000 in
theorem gains_loop {a b g g28 g31 : Nat} {F : Nat → Nat} (hP : DrawnP a b F) (hg : gainB g = true) {w wd : World} (hB : Below w.heap.size w wd)
    (hg28 : wd.heap[g28]? = some (.cells (plate a b F) 35 (0, 0))) (hg31 : wd.heap[g31]? = some (.cells (plate a b (mapA a b (fun i => gained (F i) g) F)) 35 (0, 0)))
    {Q : Exit → Act → World → Prop} {K : Act → World → Prop} {x0 x1 x2 x3 x4 x5 x6 x7 x8 x9 x10 x11 x12 x13 x14 x15 x16 x17 x18 x19 x20 x21 x22 x23 x24 x25 x26 x27 x29 x30 x32 x34 x35 x36 x37 x38 x39 x40 x41 x42 x43 x44 x45 x46 x47 x48 x49 x50 x51 x52 x53 x54 x55 x56 x57 x58 x59 x60 x61 x62 x63 x64 x65 x66 x67 x68 x69 x70 x71 x72 x73 x74 x75 x76 x77 x78 x79 x80 x81 x82 x83 x84 x85 x86 x87 x88 x89 x90 x91 x92 x93 x94 x95 x96 x97 x98 x99 x100 x101 x102 x103 x104 x105 x106 x107 x108 x109 x110 x111 x112 x113 x114 x115 x116 x117 x118 x119 x120 x121 x122 x123 x124 x125 x126 x127 x128 x129 x130 x131 x132 x133 x134 x135 x136 x137 x138 x139 x140 x141 x142 x143 x144 x145 x146 x147 x148 x149 x150 x151 x152 x153 x154 x155 x156 x157 x158 x159 x160 x161 x162 x163 x164 x165 x166 x167 x168 x169 x170 x171 x172 x173 x174 x175 x176 x177 x178 x179 x180 x181 x182 x183 x184 x185 x186 x187 x188 x189 x190 x191 x192 x193 x194 x195 x196 x197 x198 x199 x200 x201 x202 x203 x204 x205 x206 x207 x208 x209 x210 x211 x212 x213 x214 x215 x216 x217 x218 x219 x220 x221 x222 x223 x224 x225 x226 x227 x228 x229 x230 x231 x232 x233 x234 x235 x236 x237 x238 x239 x240 x241 x242 x243 x244 x245 x246 x247 x248 x249 x250 x251 x252 x253 x254 x255 x256 x257 x258 x259 x260 x261 x262 x263 x264 x265 x266 x267 x268 x269 x270 x271 x272 x273 x274 x275 x276 x277 x278 x279 x280 x281 x282 : Value}
    (hK : ∀ a' w', Met (fun a' w' => ∃ u4 u33 u253 u254 u255 u256 u257 u258 u259 u260 u261 u262 u263 u264 u265, (Below w.heap.size w w') ∧ a' = ⟨#[x0, x1, x2, x3, u4, x5, x6, x7, x8, x9, x10, x11, x12, x13, x14, x15, x16, x17, x18, x19, x20, x21, x22, x23, x24, x25, x26, x27, .pointer (some ⟨g28, 0, none⟩), x29, x30, .pointer (some ⟨g31, 0, none⟩), x32, u33, x34, x35, x36, x37, x38, x39, x40, x41, x42, x43, x44, x45, x46, x47, x48, x49, x50, x51, x52, x53, x54, x55, x56, x57, x58, x59, x60, x61, x62, x63, x64, x65, x66, x67, x68, x69, x70, x71, x72, x73, x74, x75, x76, x77, x78, x79, x80, x81, x82, x83, x84, x85, x86, x87, x88, x89, x90, x91, x92, x93, x94, x95, x96, x97, x98, x99, x100, x101, x102, x103, x104, x105, x106, x107, x108, x109, x110, x111, x112, x113, x114, x115, x116, x117, x118, x119, x120, x121, x122, x123, x124, x125, x126, x127, x128, x129, x130, x131, x132, x133, x134, x135, x136, x137, x138, x139, x140, x141, x142, x143, x144, x145, x146, x147, x148, x149, x150, x151, x152, x153, x154, x155, x156, x157, x158, x159, x160, x161, x162, x163, x164, x165, x166, x167, x168, x169, x170, x171, x172, x173, x174, x175, x176, x177, x178, x179, x180, x181, x182, x183, x184, x185, x186, x187, x188, x189, x190, x191, x192, x193, x194, x195, x196, x197, x198, x199, x200, x201, x202, x203, x204, x205, x206, x207, x208, x209, x210, x211, x212, x213, x214, x215, x216, x217, x218, x219, x220, x221, x222, x223, x224, x225, x226, x227, x228, x229, x230, x231, x232, x233, x234, x235, x236, x237, x238, x239, x240, x241, x242, x243, x244, x245, x246, x247, x248, x249, x250, x251, x252, u253, u254, u255, u256, u257, u258, u259, u260, u261, u262, u263, u264, u265, x266, x267, x268, x269, x270, x271, x272, x273, x274, x275, x276, x277, x278, x279, x280, x281, x282], []⟩) a' w' → K a' w') :
    (cR (cL (cRn 21 (bodyOf Tryd.f3)))).wp Tryd.prog (Exit.then K Q) ⟨#[x0, x1, x2, x3, x4, x5, x6, x7, x8, x9, x10, x11, x12, x13, x14, x15, x16, x17, x18, x19, x20, x21, x22, x23, x24, x25, x26, x27, .pointer (some ⟨g28, 0, none⟩), x29, x30, .pointer (some ⟨g31, 0, none⟩), x32, .int .i64 0, x34, x35, x36, x37, x38, x39, x40, x41, x42, x43, x44, x45, x46, x47, x48, x49, x50, x51, x52, x53, x54, x55, x56, x57, x58, x59, x60, x61, x62, x63, x64, x65, x66, x67, x68, x69, x70, x71, x72, x73, x74, x75, x76, x77, x78, x79, x80, x81, x82, x83, x84, x85, x86, x87, x88, x89, x90, x91, x92, x93, x94, x95, x96, x97, x98, x99, x100, x101, x102, x103, x104, x105, x106, x107, x108, x109, x110, x111, x112, x113, x114, x115, x116, x117, x118, x119, x120, x121, x122, x123, x124, x125, x126, x127, x128, x129, x130, x131, x132, x133, x134, x135, x136, x137, x138, x139, x140, x141, x142, x143, x144, x145, x146, x147, x148, x149, x150, x151, x152, x153, x154, x155, x156, x157, x158, x159, x160, x161, x162, x163, x164, x165, x166, x167, x168, x169, x170, x171, x172, x173, x174, x175, x176, x177, x178, x179, x180, x181, x182, x183, x184, x185, x186, x187, x188, x189, x190, x191, x192, x193, x194, x195, x196, x197, x198, x199, x200, x201, x202, x203, x204, x205, x206, x207, x208, x209, x210, x211, x212, x213, x214, x215, x216, x217, x218, x219, x220, x221, x222, x223, x224, x225, x226, x227, x228, x229, x230, x231, x232, x233, x234, x235, x236, x237, x238, x239, x240, x241, x242, x243, x244, x245, x246, x247, x248, x249, x250, x251, x252, x253, x254, x255, x256, x257, x258, x259, x260, x261, x262, x263, x264, x265, x266, x267, x268, x269, x270, x271, x272, x273, x274, x275, x276, x277, x278, x279, x280, x281, x282], []⟩ wd := by
  conv => arg 2; whnf
  go_wp2_with (fail)
  go_loopw [33] (fun i wr => ∃ k q : Nat, k ≤ 64 ∧ i = .int .i64 k ∧ wr = wd.drewN q) (fun i _ => 64 - (intOf i).toNat)
  case atStart => exact ⟨0, 0, by omega, rfl, rfl⟩
  case round =>
    obtain ⟨k, q, hk, rfl, hwr⟩ := hrel
    by_cases hlt : k < 64
    · have d31 : wr.cell? ⟨g31, 2 + k, none⟩ = some (.float .f32 ((mapA a b (fun i => gained (F i) g) F) k)) := by rw [hwr]; exact (cell_of_row wd _ (2 + k) _ _ _ hg31).trans (row_k2 _ _ _ _ hlt)
      have d28 : wr.cell? ⟨g28, 2 + k, none⟩ = some (.float .f32 (F k)) := by rw [hwr]; exact (cell_of_row wd _ (2 + k) _ _ _ hg28).trans (row_k2 _ _ _ _ hlt)
      have hge := hP.gain_ge hg k
      have HW := Lib.hid hwr
      clear hwr hg31 hg28 hB
      go_wp2_with (fail)
      go_quiet (fail)
      go_wp2_with (fail)
      go_roundw
      case rel => exact ⟨k + 1, _, by omega, by go_num, by rw [HW.out, World.drewN_drewN]⟩
      case measure => simp [intOf]; omega
    · obtain rfl : k = 64 := by omega
      have hB' : Below w.heap.size w wr := by rw [hwr]; exact bel_drewN q hB
      clear hwr hg31 hg28 hB
      go_wp2_with (fail)
      refine Met.intro ?_
      (repeat apply Exists.intro)
      exact ⟨hB', rfl⟩
end Go.Proofs.YtihddajpkcjokaaDoor
