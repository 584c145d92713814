/- Parts of a proof, merged; each under its own premises. -/
import Derived.Test.YtekfmjddlemboaaGreatDoorPP
import Derived.Test.YtekfmjddlemboaaGreatDoorPO
import Derived.Deep.CutRange
import Derived.Deep.CutBlock
import Derived.Test.YtekfmjddlemboaaGreatDoorPN

/-! What FnPlates does behind the mirror; under its own premises. -/
set_option linter.unusedVariables false
set_option linter.unusedSimpArgs false
namespace Go.Proofs.YtekfmjddlemboaaGreatDoor
open Go.RowKit Ieee

set_option maxRecDepth 100000 in
set_option maxHeartbeats 6400000 in
theorem plates_tail1 {a b g5 n' cap' : Nat} {ao' : Option Addr} {F : Nat → Nat} (hP : DrawnP a b F) {w we : World} (hB : Below w.heap.size w we) (hy' : BytesAt w w.heap.size ao' n') (hg5 : we.heap[g5]? = some (.cells (plate a b F) 29 (0, 0))) {Q : Exit → Act → World → Prop} (hPost : Q = bodyPost Tryz.prog Tryz.f3 fun e w' => e = .returned (.bool true) ∧ Below w.heap.size w w') {x0 x2 x3 x4 x6 x7 x8 x9 x10 x11 x12 x13 x14 x15 x16 x17 x18 x19 x20 x21 x22 x23 x24 x25 x26 x27 x28 x29 x30 x31 x32 x33 x34 x35 x36 x37 x38 x39 x40 x41 x42 x43 x44 x45 x46 x47 x48 x49 x50 x51 x52 x53 x54 x55 x56 x57 x58 x59 x60 x61 x62 x63 x64 x65 x66 x67 x68 x69 x70 x71 x72 x73 x74 x75 x76 x77 x78 x79 x80 x81 x82 x83 x84 x85 x86 x87 x88 x89 x90 x91 x92 x93 x94 x95 x96 x97 x98 x99 x100 x101 x102 x103 x104 x105 x106 x107 x108 x109 x110 x111 x112 x113 x114 x115 x116 x117 x118 x119 x120 x121 x122 x123 x124 x125 x126 x127 x128 x129 x130 x131 x132 x133 x134 x135 x136 x137 x138 x139 x140 x141 x142 x143 x144 x145 x146 x147 x148 x149 x150 x151 x152 x153 x154 x155 x156 x157 x158 x159 x160 x161 x162 x163 x164 x165 x166 x167 x168 x169 x170 x171 x172 x173 x174 x175 x176 x177 x178 x179 x180 x181 x182 x183 x184 x185 x186 x187 x188 x189 x190 x191 x192 x193 x194 x195 x196 x197 x198 x199 x200 x201 x202 x203 x204 x205 x206 x207 x208 x209 x210 x211 x212 x213 x214 x215 x216 x217 x218 x219 x220 x221 x222 x223 x224 x225 x226 x227 x228 x229 x230 x231 x232 x233 x234 x235 x236 x237 x238 x239 x240 x241 x242 x243 x244 x245 x246 x247 x248 x249 x250 x251 x252 x253 x254 x255 x256 x257 x258 x259 x260 x261 x262 x263 x264 x265 x266 x267 x268 x269 x270 x271 x272 x273 x274 x275 x276 x277 x278 x279 x280 x281 x282 x283 x284 x285 x286 x287 x288 x289 x290 x291 x292 x293 x294 x295 x296 x297 x298 x299 x300 x301 x302 x303 x304 x305 x306 x307 x308 x309 x310 x311 x312 x313 x314 x315 x316 x317 x318 x319 x320 x321 x322 x323 x324 x325 x326 x327 x328 x329 x330 x331 x332 x333 x334 x335 x336 x337 x338 x339 x340 x341 x342 x343 x344 x345 x346 x347 x348 x349 x350 x351 x352 x353 x354 x355 x356 x357 x358 x359 x360 x361 x362 x363 x364 x365 x366 x367 x368 x369 x370 x371 x372 x373 x374 x375 x376 x377 x378 x379 x380 x381 x382 x383 x384 x385 x386 x387 x388 x389 x390 x391 x392 x393 x394 x395 x396 x397 x398 x399 x400 x401 x402 x403 x404 x405 x406 x407 x408 x409 x410 x411 x412 x413 x414 x415 x416 x417 x418 x419 x420 x421 x422 x423 x424 x425 x426 x427 x428 x429 x430 x431 x432 x433 x434 x435 x436 x437 x438 x439 x440 x441 x442 x443 x444 x445 x446 x447 x448 x449 x450 x451 x452 x453 x454 x455 x456 x457 x458 x459 x460 x461 x462 x463 x464 x465 x466 x467 x468 x469 x470 x471 x472 x473 x474 x475 x476 x477 x478 x479 x480 x481 x482 x483 x484 x485 x486 x487 x488 x489 x490 x491 x492 x493 x494 x495 x496 x497 x498 x499 x500 x501 x502 x503 x504 x505 x506 x507 x508 x509 : Value} :
    (cRn 14 (bodyOf Tryz.f3)).wp Tryz.prog Q ⟨#[x0, .slice ao' n' cap', x2, x3, x4, .pointer (some ⟨g5, 0, none⟩), x6, x7, x8, x9, x10, x11, x12, x13, x14, x15, x16, x17, x18, x19, x20, x21, x22, x23, x24, x25, x26, x27, x28, x29, x30, x31, x32, x33, x34, x35, x36, x37, x38, x39, x40, x41, x42, x43, x44, x45, x46, x47, x48, x49, x50, x51, x52, x53, x54, x55, x56, x57, x58, x59, x60, x61, x62, x63, x64, x65, x66, x67, x68, x69, x70, x71, x72, x73, x74, x75, x76, x77, x78, x79, x80, x81, x82, x83, x84, x85, x86, x87, x88, x89, x90, x91, x92, x93, x94, x95, x96, x97, x98, x99, x100, x101, x102, x103, x104, x105, x106, x107, x108, x109, x110, x111, x112, x113, x114, x115, x116, x117, x118, x119, x120, x121, x122, x123, x124, x125, x126, x127, x128, x129, x130, x131, x132, x133, x134, x135, x136, x137, x138, x139, x140, x141, x142, x143, x144, x145, x146, x147, x148, x149, x150, x151, x152, x153, x154, x155, x156, x157, x158, x159, x160, x161, x162, x163, x164, x165, x166, x167, x168, x169, x170, x171, x172, x173, x174, x175, x176, x177, x178, x179, x180, x181, x182, x183, x184, x185, x186, x187, x188, x189, x190, x191, x192, x193, x194, x195, x196, x197, x198, x199, x200, x201, x202, x203, x204, x205, x206, x207, x208, x209, x210, x211, x212, x213, x214, x215, x216, x217, x218, x219, x220, x221, x222, x223, x224, x225, x226, x227, x228, x229, x230, x231, x232, x233, x234, x235, x236, x237, x238, x239, x240, x241, x242, x243, x244, x245, x246, x247, x248, x249, x250, x251, x252, x253, x254, x255, x256, x257, x258, x259, x260, x261, x262, x263, x264, x265, x266, x267, x268, x269, x270, x271, x272, x273, x274, x275, x276, x277, x278, x279, x280, x281, x282, x283, x284, x285, x286, x287, x288, x289, x290, x291, x292, x293, x294, x295, x296, x297, x298, x299, x300, x301, x302, x303, x304, x305, x306, x307, x308, x309, x310, x311, x312, x313, x314, x315, x316, x317, x318, x319, x320, x321, x322, x323, x324, x325, x326, x327, x328, x329, x330, x331, x332, x333, x334, x335, x336, x337, x338, x339, x340, x341, x342, x343, x344, x345, x346, x347, x348, x349, x350, x351, x352, x353, x354, x355, x356, x357, x358, x359, x360, x361, x362, x363, x364, x365, x366, x367, x368, x369, x370, x371, x372, x373, x374, x375, x376, x377, x378, x379, x380, x381, x382, x383, x384, x385, x386, x387, x388, x389, x390, x391, x392, x393, x394, x395, x396, x397, x398, x399, x400, x401, x402, x403, x404, x405, x406, x407, x408, x409, x410, x411, x412, x413, x414, x415, x416, x417, x418, x419, x420, x421, x422, x423, x424, x425, x426, x427, x428, x429, x430, x431, x432, x433, x434, x435, x436, x437, x438, x439, x440, x441, x442, x443, x444, x445, x446, x447, x448, x449, x450, x451, x452, x453, x454, x455, x456, x457, x458, x459, x460, x461, x462, x463, x464, x465, x466, x467, x468, x469, x470, x471, x472, x473, x474, x475, x476, x477, x478, x479, x480, x481, x482, x483, x484, x485, x486, x487, x488, x489, x490, x491, x492, x493, x494, x495, x496, x497, x498, x499, x500, x501, x502, x503, x504, x505, x506, x507, x508, x509], []⟩ we := by
  subst hPost
  have hz : Tryz.zeroCells29 = row [.int .i8 0, .int .i8 0] 64 (fun _ => 0) := rfl
  have hz8 : (#[.float .f32 0, .float .f32 0, .float .f32 0, .float .f32 0, .float .f32 0, .float .f32 0, .float .f32 0, .float .f32 0] : Array Value) = row [] 8 (fun _ => 0) := rfl
  conv => arg 2; whnf
  obtain ⟨z0, hz0⟩ : ∃ z, z = we.heap.size := ⟨_, rfl⟩
  go_wp2_with (first | ((with_reducible refine at_load 29 ?_); refine wpList_load_part rfl 29 _ rfl _ 0 66 rfl _ _ _ _ (by first | (with_reducible assumption) | (with_reducible exact blk_new _ _ _ rfl) | (with_reducible exact chainN _ _ _ _) | (with_reducible exact chain1 (by assumption)) | (with_reducible exact old0 (by assumption) (by assumption)) | (with_reducible exact old1 (by assumption) (by assumption)) | (with_reducible exact new1 (by assumption))) Tryz.underlying29 rfl (by kernel_rfl) (by simp [row_size]) _ (row_all [_, _] 64 _) ?_) | ((with_reducible refine at_store 29 ?_); refine wpList_store_part rfl 29 _ _ rfl _ 0 _ rfl rfl _ _ (by first | (with_reducible assumption) | (with_reducible exact blk_new _ _ _ rfl) | (with_reducible exact chainN _ _ _ _) | (with_reducible exact chain1 (by assumption)) | (with_reducible exact old0 (by assumption) (by assumption)) | (with_reducible exact old1 (by assumption) (by assumption)) | (with_reducible exact new1 (by assumption))) (by rw [row_size]; kernel_rfl) (by simp [row_size]) (row_cells _ _ _ rfl) _ (row_over _ _ 64 _ _ (by simp)) ?_))
  refine (a2plate_any ao' n' cap' _ (bytes_wide (bytes_below (b := w.heap.size) hB hy') (by have := hB.size; omega))).mono ?_
  rintro e w2 ⟨a', b', G0, rfl, hQ0, hb⟩
  have hg5' : w2.heap[g5]? = some (.cells (plate a b F) 29 (0, 0)) := (by first | (with_reducible assumption) | (with_reducible exact blk_new _ _ _ rfl) | (with_reducible exact chainN _ _ _ _) | (with_reducible exact chain1 (by assumption)) | (with_reducible exact old0 (by assumption) (by assumption)) | (with_reducible exact old1 (by assumption) (by assumption)) | (with_reducible exact new1 (by assumption)))
  have hB' : Below w.heap.size w w2 := (by first | (with_reducible assumption) | (with_reducible exact bel0 (by assumption) (by assumption) hB.size) | (with_reducible exact bel1 (by assumption) (by assumption) hB.size) | (with_reducible exact belr hB hB.size))
  have hz2 := hb.size
  try simp at hz2
  clear hB hb  hg5 
  generalize hgz1 : we.heap.size = z1 at *
  clear hgz1
  have hB := hB'; clear hB'
  have hg5 := hg5'; clear hg5'
  have hl5 := lt_of_heap hg5
  have hwz := hB.size
  go_upto_region 24 with (first | ((with_reducible refine at_load 29 ?_); refine wpList_load_part rfl 29 _ rfl _ 0 66 rfl _ _ _ _ (by first | (with_reducible assumption) | (with_reducible exact blk_new _ _ _ rfl) | (with_reducible exact chainN _ _ _ _) | (with_reducible exact chain1 (by assumption)) | (with_reducible exact old0 (by assumption) (by assumption)) | (with_reducible exact old1 (by assumption) (by assumption)) | (with_reducible exact new1 (by assumption))) Tryz.underlying29 rfl (by kernel_rfl) (by simp [row_size]) _ (row_all [_, _] 64 _) ?_) | ((with_reducible refine at_store 29 ?_); refine wpList_store_part rfl 29 _ _ rfl _ 0 _ rfl rfl _ _ (by first | (with_reducible assumption) | (with_reducible exact blk_new _ _ _ rfl) | (with_reducible exact chainN _ _ _ _) | (with_reducible exact chain1 (by assumption)) | (with_reducible exact old0 (by assumption) (by assumption)) | (with_reducible exact old1 (by assumption) (by assumption)) | (with_reducible exact new1 (by assumption))) (by rw [row_size]; kernel_rfl) (by simp [row_size]) (row_cells _ _ _ rfl) _ (row_over _ _ 64 _ _ (by simp)) ?_))
  generalize hw : World.setRow _ _ _ = w3
  have hz3 : w2.heap.size + 1 ≤ w3.heap.size := by rw [← hw]; simp
  have hg5' : w3.heap[g5]? = some (.cells (plate a b F) 29 (0, 0)) := by rw [← hw]; exact (by first | (with_reducible assumption) | (with_reducible exact blk_new _ _ _ rfl) | (with_reducible exact chainN _ _ _ _) | (with_reducible exact chain1 (by assumption)) | (with_reducible exact old0 (by assumption) (by assumption)) | (with_reducible exact old1 (by assumption) (by assumption)) | (with_reducible exact new1 (by assumption)))
  have hg26' : w3.heap[w2.heap.size]? = some (.cells (plate a' b' G0) 29 (0, 0)) := by rw [← hw]; exact (by first | (with_reducible assumption) | (with_reducible exact blk_new _ _ _ rfl) | (with_reducible exact chainN _ _ _ _) | (with_reducible exact chain1 (by assumption)) | (with_reducible exact old0 (by assumption) (by assumption)) | (with_reducible exact old1 (by assumption) (by assumption)) | (with_reducible exact new1 (by assumption)))
  have hB' : Below w.heap.size w w3 := by rw [← hw]; exact (by first | (with_reducible assumption) | (with_reducible exact bel0 (by assumption) (by assumption) hB.size) | (with_reducible exact bel1 (by assumption) (by assumption) hB.size) | (with_reducible exact belr hB hB.size))
  clear hw
  clear hB   hg5 
  generalize hgg26 : w2.heap.size = g26 at *
  clear hgg26
  have hB := hB'; clear hB'
  have hg5 := hg5'; clear hg5'
  have hg26 := hg26'; clear hg26'
  have c5a : w3.cell? ⟨g5, 0, none⟩ = some (.int .i8 a) := (cell_of_row _ _ 0 _ _ _ hg5).trans (row_g0 _ _ _ _)
  have c5b : w3.cell? ⟨g5, 1, none⟩ = some (.int .i8 b) := (cell_of_row _ _ 1 _ _ _ hg5).trans (row_g1 _ _ _ _ _)
  have c26a : w3.cell? ⟨g26, 0, none⟩ = some (.int .i8 a') := (cell_of_row _ _ 0 _ _ _ hg26).trans (row_g0 _ _ _ _)
  have c26b : w3.cell? ⟨g26, 1, none⟩ = some (.int .i8 b') := (cell_of_row _ _ 1 _ _ _ hg26).trans (row_g1 _ _ _ _ _)
  have f26a : w3.frozen? ⟨g26, 0, none⟩ = false := frozen_of_row _ _ _ _ _ hg26
  have hne : g5 ≠ g26 := by omega
  go_upto_region 25 with (fail)
  generalize hw : World.setCell _ _ _ = wf
  have hg26' : wf.heap[g26]? = some (.cells (row [.int .i8 (a : Nat), .int .i8 (b' : Nat)] 64 G0) 29 (0, 0)) := by rw [← hw]; exact put_pre (pre := [.int .i8 (a' : Nat), .int .i8 (b' : Nat)]) (i := 0) (by simp) hg26
  have hg5' : wf.heap[g5]? = some (.cells (plate a b F) 29 (0, 0)) := by rw [← hw]; exact put_off hne hg5
  have hB' : Below w.heap.size w wf := by rw [← hw]; exact hB.setCell (by simp; omega) _
  have hzf : wf.heap.size = w3.heap.size := by rw [← hw]; simp
  clear hw c5a c5b c26a c26b f26a hg26 hg5 hB
  have hg26 := hg26'; clear hg26'
  have hg5 := hg5'; clear hg5'
  have hB := hB'; clear hB'
  have c5b : wf.cell? ⟨g5, 1, none⟩ = some (.int .i8 b) := (cell_of_row _ _ 1 _ _ _ hg5).trans (row_g1 _ _ _ _ _)
  have c26b : wf.cell? ⟨g26, 1, none⟩ = some (.int .i8 b') := (cell_of_row _ _ 1 _ _ _ hg26).trans (row_g1 _ _ _ _ _)
  have f26b : wf.frozen? ⟨g26, 1, none⟩ = false := frozen_of_row _ _ _ _ _ hg26
  go_upto_block 2 with (fail)
  generalize hw : World.setCell _ _ _ = wg
  have hg26' : wg.heap[g26]? = some (.cells (plate a b G0) 29 (0, 0)) := by rw [← hw]; exact put_pre (pre := [.int .i8 (a : Nat), .int .i8 (b' : Nat)]) (i := 1) (by simp) hg26
  have hg5' : wg.heap[g5]? = some (.cells (plate a b F) 29 (0, 0)) := by rw [← hw]; exact put_off hne hg5
  have hB' : Below w.heap.size w wg := by rw [← hw]; exact hB.setCell (by simp; omega) _
  clear hw c5b c26b f26b hg26 hg5 hB
  have hg26 := hg26'; clear hg26'
  have hg5 := hg5'; clear hg5'
  have hB := hB'; clear hB'
  go_cut [] from 218 to 228 (fun wx => wx.heap[g5]? = some (.cells (plate a b F) 29 (0, 0)) ∧ wx.heap[g26]? = some (.cells (plate a b (maskF a b G0 64)) 29 (0, 0)) ∧ Below w.heap.size w wx ∧ wg.heap.size ≤ wx.heap.size)
  case first =>
    rename_i J K1 hRJ hMK
    exact plates_mask hP hB hne (by omega) hg5 hg26 (fun a' w' h => hMK _ _ (Met.intro (hRJ _ _ h)))
  case rest =>
    rename World => wh
    have hQ := hP.mask hQ0
    generalize maskF a b G0 64 = G at *
    obtain ⟨hg5', hg26', hB', hzh⟩ := hcut
    clear hB hg5 hg26
    have hg5 := hg5'; clear hg5'
    have hg26 := hg26'; clear hg26'
    have hB := hB'; clear hB'
    apply_assumption
    exact plates_tail2 hP hQ hB hg5 hg26 rfl
end Go.Proofs.YtekfmjddlemboaaGreatDoor

/-! The walk through FnPlates; under its own premises. -/
set_option linter.unusedVariables false
set_option linter.unusedSimpArgs false
namespace Go.Proofs.YtekfmjddlemboaaGreatDoor
open Go.RowKit Ieee

set_option maxRecDepth 100000 in
set_option maxHeartbeats 6400000 in
theorem plates_any (ao ao' : Option Addr) (n cap n' cap' : Nat) (w : World) (hy : BytesAt w w.heap.size ao n) (hy' : BytesAt w w.heap.size ao' n') (hT : LibsT w) :
    Calls Tryz.prog 3 #[.slice ao n cap, .slice ao' n' cap'] w fun e w' => e = .returned (.bool true) ∧ Below w.heap.size w w' := by
  have hz : Tryz.zeroCells29 = row [.int .i8 0, .int .i8 0] 64 (fun _ => 0) := rfl
  have hz8 : (#[.float .f32 0, .float .f32 0, .float .f32 0, .float .f32 0, .float .f32 0, .float .f32 0, .float .f32 0, .float .f32 0] : Array Value) = row [] 8 (fun _ => 0) := rfl
  have hLong := fun w => a2Long_any ao ao' n cap n' cap' w hy.1 hy'.1
  cases hL : (decide (3000 < n) || decide (3000 < n'))
  · rw [hL] at hLong
    go_enter Tryz.func3, Tryz.ntmps3
    go_wp2_with (go_at_call 4; (with_reducible refine (hLong _).mono ?_); rintro e w' ⟨rfl, rfl⟩)
    refine (a2plate_any ao n cap _ hy).mono ?_
    rintro e w1 ⟨a, b, F, rfl, hP, hB⟩
    have hz1 := hB.size
    clear hy hLong
    go_wp2_with (first | ((with_reducible refine at_load 29 ?_); refine wpList_load_part rfl 29 _ rfl _ 0 66 rfl _ _ _ _ (by first | (with_reducible assumption) | (with_reducible exact blk_new _ _ _ rfl) | (with_reducible exact chainN _ _ _ _) | (with_reducible exact chain1 (by assumption)) | (with_reducible exact old0 (by assumption) (by assumption)) | (with_reducible exact old1 (by assumption) (by assumption)) | (with_reducible exact new1 (by assumption))) Tryz.underlying29 rfl (by kernel_rfl) (by simp [row_size]) _ (row_all [_, _] 64 _) ?_) | ((with_reducible refine at_store 29 ?_); refine wpList_store_part rfl 29 _ _ rfl _ 0 _ rfl rfl _ _ (by first | (with_reducible assumption) | (with_reducible exact blk_new _ _ _ rfl) | (with_reducible exact chainN _ _ _ _) | (with_reducible exact chain1 (by assumption)) | (with_reducible exact old0 (by assumption) (by assumption)) | (with_reducible exact old1 (by assumption) (by assumption)) | (with_reducible exact new1 (by assumption))) (by rw [row_size]; kernel_rfl) (by simp [row_size]) (row_cells _ _ _ rfl) _ (row_over _ _ 64 _ _ (by simp)) ?_))
    refine (ptextI hP _ (hT.on (by first | (with_reducible assumption) | (with_reducible exact bel0 (by assumption) (by assumption) hB.size) | (with_reducible exact bel1 (by assumption) (by assumption) hB.size) | (with_reducible exact belr hB hB.size)) (Nat.le_refl _))).mono ?_
    rintro e w2 ⟨rfl, hb⟩
    have hg5' : w2.heap[w1.heap.size]? = some (.cells (plate a b F) 29 (0, 0)) := (by first | (with_reducible assumption) | (with_reducible exact blk_new _ _ _ rfl) | (with_reducible exact chainN _ _ _ _) | (with_reducible exact chain1 (by assumption)) | (with_reducible exact old0 (by assumption) (by assumption)) | (with_reducible exact old1 (by assumption) (by assumption)) | (with_reducible exact new1 (by assumption)))
    have hB' : Below w.heap.size w w2 := (by first | (with_reducible assumption) | (with_reducible exact bel0 (by assumption) (by assumption) hB.size) | (with_reducible exact bel1 (by assumption) (by assumption) hB.size) | (with_reducible exact belr hB hB.size))
    have hz2 := hb.size
    try simp at hz2
    clear hB hb   
    generalize hgg5 : w1.heap.size = g5 at *
    clear hgg5
    have hB := hB'; clear hB'
    have hg5 := hg5'; clear hg5'
    go_wp2_with (first | ((with_reducible refine at_load 29 ?_); refine wpList_load_part rfl 29 _ rfl _ 0 66 rfl _ _ _ _ (by first | (with_reducible assumption) | (with_reducible exact blk_new _ _ _ rfl) | (with_reducible exact chainN _ _ _ _) | (with_reducible exact chain1 (by assumption)) | (with_reducible exact old0 (by assumption) (by assumption)) | (with_reducible exact old1 (by assumption) (by assumption)) | (with_reducible exact new1 (by assumption))) Tryz.underlying29 rfl (by kernel_rfl) (by simp [row_size]) _ (row_all [_, _] 64 _) ?_) | ((with_reducible refine at_store 29 ?_); refine wpList_store_part rfl 29 _ _ rfl _ 0 _ rfl rfl _ _ (by first | (with_reducible assumption) | (with_reducible exact blk_new _ _ _ rfl) | (with_reducible exact chainN _ _ _ _) | (with_reducible exact chain1 (by assumption)) | (with_reducible exact old0 (by assumption) (by assumption)) | (with_reducible exact old1 (by assumption) (by assumption)) | (with_reducible exact new1 (by assumption))) (by rw [row_size]; kernel_rfl) (by simp [row_size]) (row_cells _ _ _ rfl) _ (row_over _ _ 64 _ _ (by simp)) ?_))
    refine (preadI hP _ (hT.on (by first | (with_reducible assumption) | (with_reducible exact bel0 (by assumption) (by assumption) hB.size) | (with_reducible exact bel1 (by assumption) (by assumption) hB.size) | (with_reducible exact belr hB hB.size)) (Nat.le_refl _))).mono ?_
    rintro e w3 ⟨rfl, hb⟩
    have hg5' : w3.heap[g5]? = some (.cells (plate a b F) 29 (0, 0)) := (by first | (with_reducible assumption) | (with_reducible exact blk_new _ _ _ rfl) | (with_reducible exact chainN _ _ _ _) | (with_reducible exact chain1 (by assumption)) | (with_reducible exact old0 (by assumption) (by assumption)) | (with_reducible exact old1 (by assumption) (by assumption)) | (with_reducible exact new1 (by assumption)))
    have hB' : Below w.heap.size w w3 := (by first | (with_reducible assumption) | (with_reducible exact bel0 (by assumption) (by assumption) hB.size) | (with_reducible exact bel1 (by assumption) (by assumption) hB.size) | (with_reducible exact belr hB hB.size))
    have hz3 := hb.size
    try simp at hz3
    clear hB hb  hg5 
    generalize hgz2 : w2.heap.size = z2 at *
    clear hgz2
    have hB := hB'; clear hB'
    have hg5 := hg5'; clear hg5'
    go_wp2_with (first | ((with_reducible refine at_load 29 ?_); refine wpList_load_part rfl 29 _ rfl _ 0 66 rfl _ _ _ _ (by first | (with_reducible assumption) | (with_reducible exact blk_new _ _ _ rfl) | (with_reducible exact chainN _ _ _ _) | (with_reducible exact chain1 (by assumption)) | (with_reducible exact old0 (by assumption) (by assumption)) | (with_reducible exact old1 (by assumption) (by assumption)) | (with_reducible exact new1 (by assumption))) Tryz.underlying29 rfl (by kernel_rfl) (by simp [row_size]) _ (row_all [_, _] 64 _) ?_) | ((with_reducible refine at_store 29 ?_); refine wpList_store_part rfl 29 _ _ rfl _ 0 _ rfl rfl _ _ (by first | (with_reducible assumption) | (with_reducible exact blk_new _ _ _ rfl) | (with_reducible exact chainN _ _ _ _) | (with_reducible exact chain1 (by assumption)) | (with_reducible exact old0 (by assumption) (by assumption)) | (with_reducible exact old1 (by assumption) (by assumption)) | (with_reducible exact new1 (by assumption))) (by rw [row_size]; kernel_rfl) (by simp [row_size]) (row_cells _ _ _ rfl) _ (row_over _ _ 64 _ _ (by simp)) ?_))
    refine (mirI hP _).mono ?_
    rintro e w4 ⟨rfl, hb⟩
    have hg5' : w4.heap[g5]? = some (.cells (plate a b F) 29 (0, 0)) := (by first | (with_reducible assumption) | (with_reducible exact blk_new _ _ _ rfl) | (with_reducible exact chainN _ _ _ _) | (with_reducible exact chain1 (by assumption)) | (with_reducible exact old0 (by assumption) (by assumption)) | (with_reducible exact old1 (by assumption) (by assumption)) | (with_reducible exact new1 (by assumption)))
    have hg6' : w4.heap[w3.heap.size]? = some (.cells (plate a b F) 29 (0, 0)) := (by first | (with_reducible assumption) | (with_reducible exact blk_new _ _ _ rfl) | (with_reducible exact chainN _ _ _ _) | (with_reducible exact chain1 (by assumption)) | (with_reducible exact old0 (by assumption) (by assumption)) | (with_reducible exact old1 (by assumption) (by assumption)) | (with_reducible exact new1 (by assumption)))
    have hB' : Below w.heap.size w w4 := (by first | (with_reducible assumption) | (with_reducible exact bel0 (by assumption) (by assumption) hB.size) | (with_reducible exact bel1 (by assumption) (by assumption) hB.size) | (with_reducible exact belr hB hB.size))
    have hz4 := hb.size
    try simp at hz4
    clear hB hb  hg5 
    generalize hgg6 : w3.heap.size = g6 at *
    clear hgg6
    have hB := hB'; clear hB'
    have hg5 := hg5'; clear hg5'
    have hg6 := hg6'; clear hg6'
    go_wp2_with (first | ((with_reducible refine at_load 29 ?_); refine wpList_load_part rfl 29 _ rfl _ 0 66 rfl _ _ _ _ (by first | (with_reducible assumption) | (with_reducible exact blk_new _ _ _ rfl) | (with_reducible exact chainN _ _ _ _) | (with_reducible exact chain1 (by assumption)) | (with_reducible exact old0 (by assumption) (by assumption)) | (with_reducible exact old1 (by assumption) (by assumption)) | (with_reducible exact new1 (by assumption))) Tryz.underlying29 rfl (by kernel_rfl) (by simp [row_size]) _ (row_all [_, _] 64 _) ?_) | ((with_reducible refine at_store 29 ?_); refine wpList_store_part rfl 29 _ _ rfl _ 0 _ rfl rfl _ _ (by first | (with_reducible assumption) | (with_reducible exact blk_new _ _ _ rfl) | (with_reducible exact chainN _ _ _ _) | (with_reducible exact chain1 (by assumption)) | (with_reducible exact old0 (by assumption) (by assumption)) | (with_reducible exact old1 (by assumption) (by assumption)) | (with_reducible exact new1 (by assumption))) (by rw [row_size]; kernel_rfl) (by simp [row_size]) (row_cells _ _ _ rfl) _ (row_over _ _ 64 _ _ (by simp)) ?_))
    refine (mirS hP _).mono ?_
    rintro e w5 ⟨rfl, hb⟩
    have hg5' : w5.heap[g5]? = some (.cells (plate a b F) 29 (0, 0)) := (by first | (with_reducible assumption) | (with_reducible exact blk_new _ _ _ rfl) | (with_reducible exact chainN _ _ _ _) | (with_reducible exact chain1 (by assumption)) | (with_reducible exact old0 (by assumption) (by assumption)) | (with_reducible exact old1 (by assumption) (by assumption)) | (with_reducible exact new1 (by assumption)))
    have hg6' : w5.heap[g6]? = some (.cells (plate a b F) 29 (0, 0)) := (by first | (with_reducible assumption) | (with_reducible exact blk_new _ _ _ rfl) | (with_reducible exact chainN _ _ _ _) | (with_reducible exact chain1 (by assumption)) | (with_reducible exact old0 (by assumption) (by assumption)) | (with_reducible exact old1 (by assumption) (by assumption)) | (with_reducible exact new1 (by assumption)))
    have hg8' : w5.heap[w4.heap.size]? = some (.cells (plate a b (mirF a b F)) 29 (0, 0)) := (by first | (with_reducible assumption) | (with_reducible exact blk_new _ _ _ rfl) | (with_reducible exact chainN _ _ _ _) | (with_reducible exact chain1 (by assumption)) | (with_reducible exact old0 (by assumption) (by assumption)) | (with_reducible exact old1 (by assumption) (by assumption)) | (with_reducible exact new1 (by assumption)))
    have hB' : Below w.heap.size w w5 := (by first | (with_reducible assumption) | (with_reducible exact bel0 (by assumption) (by assumption) hB.size) | (with_reducible exact bel1 (by assumption) (by assumption) hB.size) | (with_reducible exact belr hB hB.size))
    have hz5 := hb.size
    try simp at hz5
    clear hB hb  hg5 hg6 
    generalize hgg8 : w4.heap.size = g8 at *
    clear hgg8
    have hB := hB'; clear hB'
    have hg5 := hg5'; clear hg5'
    have hg6 := hg6'; clear hg6'
    have hg8 := hg8'; clear hg8'
    go_wp2_with (first | ((with_reducible refine at_load 29 ?_); refine wpList_load_part rfl 29 _ rfl _ 0 66 rfl _ _ _ _ (by first | (with_reducible assumption) | (with_reducible exact blk_new _ _ _ rfl) | (with_reducible exact chainN _ _ _ _) | (with_reducible exact chain1 (by assumption)) | (with_reducible exact old0 (by assumption) (by assumption)) | (with_reducible exact old1 (by assumption) (by assumption)) | (with_reducible exact new1 (by assumption))) Tryz.underlying29 rfl (by kernel_rfl) (by simp [row_size]) _ (row_all [_, _] 64 _) ?_) | ((with_reducible refine at_store 29 ?_); refine wpList_store_part rfl 29 _ _ rfl _ 0 _ rfl rfl _ _ (by first | (with_reducible assumption) | (with_reducible exact blk_new _ _ _ rfl) | (with_reducible exact chainN _ _ _ _) | (with_reducible exact chain1 (by assumption)) | (with_reducible exact old0 (by assumption) (by assumption)) | (with_reducible exact old1 (by assumption) (by assumption)) | (with_reducible exact new1 (by assumption))) (by rw [row_size]; kernel_rfl) (by simp [row_size]) (row_cells _ _ _ rfl) _ (row_over _ _ 64 _ _ (by simp)) ?_))
    refine (mirB hP _).mono ?_
    rintro e w6 ⟨rfl, hb⟩
    have hg5' : w6.heap[g5]? = some (.cells (plate a b F) 29 (0, 0)) := (by first | (with_reducible assumption) | (with_reducible exact blk_new _ _ _ rfl) | (with_reducible exact chainN _ _ _ _) | (with_reducible exact chain1 (by assumption)) | (with_reducible exact old0 (by assumption) (by assumption)) | (with_reducible exact old1 (by assumption) (by assumption)) | (with_reducible exact new1 (by assumption)))
    have hg6' : w6.heap[g6]? = some (.cells (plate a b F) 29 (0, 0)) := (by first | (with_reducible assumption) | (with_reducible exact blk_new _ _ _ rfl) | (with_reducible exact chainN _ _ _ _) | (with_reducible exact chain1 (by assumption)) | (with_reducible exact old0 (by assumption) (by assumption)) | (with_reducible exact old1 (by assumption) (by assumption)) | (with_reducible exact new1 (by assumption)))
    have hg8' : w6.heap[g8]? = some (.cells (plate a b (mirF a b F)) 29 (0, 0)) := (by first | (with_reducible assumption) | (with_reducible exact blk_new _ _ _ rfl) | (with_reducible exact chainN _ _ _ _) | (with_reducible exact chain1 (by assumption)) | (with_reducible exact old0 (by assumption) (by assumption)) | (with_reducible exact old1 (by assumption) (by assumption)) | (with_reducible exact new1 (by assumption)))
    have hg10' : w6.heap[w5.heap.size]? = some (.cells (plate a b (mirF a b F)) 29 (0, 0)) := (by first | (with_reducible assumption) | (with_reducible exact blk_new _ _ _ rfl) | (with_reducible exact chainN _ _ _ _) | (with_reducible exact chain1 (by assumption)) | (with_reducible exact old0 (by assumption) (by assumption)) | (with_reducible exact old1 (by assumption) (by assumption)) | (with_reducible exact new1 (by assumption)))
    have hB' : Below w.heap.size w w6 := (by first | (with_reducible assumption) | (with_reducible exact bel0 (by assumption) (by assumption) hB.size) | (with_reducible exact bel1 (by assumption) (by assumption) hB.size) | (with_reducible exact belr hB hB.size))
    have hz6 := hb.size
    try simp at hz6
    clear hB hb  hg5 hg6 hg8 
    generalize hgg10 : w5.heap.size = g10 at *
    clear hgg10
    have hB := hB'; clear hB'
    have hg5 := hg5'; clear hg5'
    have hg6 := hg6'; clear hg6'
    have hg8 := hg8'; clear hg8'
    have hg10 := hg10'; clear hg10'
    go_wp2_with (first | ((with_reducible refine at_load 29 ?_); refine wpList_load_part rfl 29 _ rfl _ 0 66 rfl _ _ _ _ (by first | (with_reducible assumption) | (with_reducible exact blk_new _ _ _ rfl) | (with_reducible exact chainN _ _ _ _) | (with_reducible exact chain1 (by assumption)) | (with_reducible exact old0 (by assumption) (by assumption)) | (with_reducible exact old1 (by assumption) (by assumption)) | (with_reducible exact new1 (by assumption))) Tryz.underlying29 rfl (by kernel_rfl) (by simp [row_size]) _ (row_all [_, _] 64 _) ?_) | ((with_reducible refine at_store 29 ?_); refine wpList_store_part rfl 29 _ _ rfl _ 0 _ rfl rfl _ _ (by first | (with_reducible assumption) | (with_reducible exact blk_new _ _ _ rfl) | (with_reducible exact chainN _ _ _ _) | (with_reducible exact chain1 (by assumption)) | (with_reducible exact old0 (by assumption) (by assumption)) | (with_reducible exact old1 (by assumption) (by assumption)) | (with_reducible exact new1 (by assumption))) (by rw [row_size]; kernel_rfl) (by simp [row_size]) (row_cells _ _ _ rfl) _ (row_over _ _ 64 _ _ (by simp)) ?_))
    refine (zonI hP _).mono ?_
    rintro e w7 ⟨rfl, hb⟩
    have hg5' : w7.heap[g5]? = some (.cells (plate a b F) 29 (0, 0)) := (by first | (with_reducible assumption) | (with_reducible exact blk_new _ _ _ rfl) | (with_reducible exact chainN _ _ _ _) | (with_reducible exact chain1 (by assumption)) | (with_reducible exact old0 (by assumption) (by assumption)) | (with_reducible exact old1 (by assumption) (by assumption)) | (with_reducible exact new1 (by assumption)))
    have hg6' : w7.heap[g6]? = some (.cells (plate a b F) 29 (0, 0)) := (by first | (with_reducible assumption) | (with_reducible exact blk_new _ _ _ rfl) | (with_reducible exact chainN _ _ _ _) | (with_reducible exact chain1 (by assumption)) | (with_reducible exact old0 (by assumption) (by assumption)) | (with_reducible exact old1 (by assumption) (by assumption)) | (with_reducible exact new1 (by assumption)))
    have hg8' : w7.heap[g8]? = some (.cells (plate a b (mirF a b F)) 29 (0, 0)) := (by first | (with_reducible assumption) | (with_reducible exact blk_new _ _ _ rfl) | (with_reducible exact chainN _ _ _ _) | (with_reducible exact chain1 (by assumption)) | (with_reducible exact old0 (by assumption) (by assumption)) | (with_reducible exact old1 (by assumption) (by assumption)) | (with_reducible exact new1 (by assumption)))
    have hg10' : w7.heap[g10]? = some (.cells (plate a b (mirF a b F)) 29 (0, 0)) := (by first | (with_reducible assumption) | (with_reducible exact blk_new _ _ _ rfl) | (with_reducible exact chainN _ _ _ _) | (with_reducible exact chain1 (by assumption)) | (with_reducible exact old0 (by assumption) (by assumption)) | (with_reducible exact old1 (by assumption) (by assumption)) | (with_reducible exact new1 (by assumption)))
    have hg12' : w7.heap[w6.heap.size]? = some (.cells (plate a b F) 29 (0, 0)) := (by first | (with_reducible assumption) | (with_reducible exact blk_new _ _ _ rfl) | (with_reducible exact chainN _ _ _ _) | (with_reducible exact chain1 (by assumption)) | (with_reducible exact old0 (by assumption) (by assumption)) | (with_reducible exact old1 (by assumption) (by assumption)) | (with_reducible exact new1 (by assumption)))
    have hB' : Below w.heap.size w w7 := (by first | (with_reducible assumption) | (with_reducible exact bel0 (by assumption) (by assumption) hB.size) | (with_reducible exact bel1 (by assumption) (by assumption) hB.size) | (with_reducible exact belr hB hB.size))
    have hz7 := hb.size
    try simp at hz7
    clear hB hb  hg5 hg6 hg8 hg10 
    generalize hgg12 : w6.heap.size = g12 at *
    clear hgg12
    have hB := hB'; clear hB'
    have hg5 := hg5'; clear hg5'
    have hg6 := hg6'; clear hg6'
    have hg8 := hg8'; clear hg8'
    have hg10 := hg10'; clear hg10'
    have hg12 := hg12'; clear hg12'
    go_wp2_with (first | ((with_reducible refine at_load 29 ?_); refine wpList_load_part rfl 29 _ rfl _ 0 66 rfl _ _ _ _ (by first | (with_reducible assumption) | (with_reducible exact blk_new _ _ _ rfl) | (with_reducible exact chainN _ _ _ _) | (with_reducible exact chain1 (by assumption)) | (with_reducible exact old0 (by assumption) (by assumption)) | (with_reducible exact old1 (by assumption) (by assumption)) | (with_reducible exact new1 (by assumption))) Tryz.underlying29 rfl (by kernel_rfl) (by simp [row_size]) _ (row_all [_, _] 64 _) ?_) | ((with_reducible refine at_store 29 ?_); refine wpList_store_part rfl 29 _ _ rfl _ 0 _ rfl rfl _ _ (by first | (with_reducible assumption) | (with_reducible exact blk_new _ _ _ rfl) | (with_reducible exact chainN _ _ _ _) | (with_reducible exact chain1 (by assumption)) | (with_reducible exact old0 (by assumption) (by assumption)) | (with_reducible exact old1 (by assumption) (by assumption)) | (with_reducible exact new1 (by assumption))) (by rw [row_size]; kernel_rfl) (by simp [row_size]) (row_cells _ _ _ rfl) _ (row_over _ _ 64 _ _ (by simp)) ?_) | ((with_reducible refine at_load 36 ?_); refine wpList_load_part rfl 36 _ rfl _ 0 8 rfl _ _ _ _ (by first | (with_reducible assumption) | (with_reducible exact blk_new _ _ _ rfl) | (with_reducible exact chainN _ _ _ _) | (with_reducible exact chain1 (by assumption)) | (with_reducible exact old0 (by assumption) (by assumption)) | (with_reducible exact old1 (by assumption) (by assumption)) | (with_reducible exact new1 (by assumption))) Tryz.underlying36 rfl (by kernel_rfl) (by simp [row_size]) _ (row_all [] 8 _) ?_) | ((with_reducible refine at_store 36 ?_); refine wpList_store_part rfl 36 _ _ rfl _ 0 _ rfl rfl _ _ (by first | (with_reducible assumption) | (with_reducible exact blk_new _ _ _ rfl) | (with_reducible exact chainN _ _ _ _) | (with_reducible exact chain1 (by assumption)) | (with_reducible exact old0 (by assumption) (by assumption)) | (with_reducible exact old1 (by assumption) (by assumption)) | (with_reducible exact new1 (by assumption))) (by rw [row_size]; kernel_rfl) (by simp [row_size]) (row_cells _ _ _ rfl) _ (row_over _ _ 8 _ _ (by simp)) ?_))
    refine (zonS hP _).mono ?_
    rintro e w8 ⟨rfl, hb⟩
    have hg5' : w8.heap[g5]? = some (.cells (plate a b F) 29 (0, 0)) := (by first | (with_reducible assumption) | (with_reducible exact blk_new _ _ _ rfl) | (with_reducible exact chainN _ _ _ _) | (with_reducible exact chain1 (by assumption)) | (with_reducible exact old0 (by assumption) (by assumption)) | (with_reducible exact old1 (by assumption) (by assumption)) | (with_reducible exact new1 (by assumption)))
    have hg6' : w8.heap[g6]? = some (.cells (plate a b F) 29 (0, 0)) := (by first | (with_reducible assumption) | (with_reducible exact blk_new _ _ _ rfl) | (with_reducible exact chainN _ _ _ _) | (with_reducible exact chain1 (by assumption)) | (with_reducible exact old0 (by assumption) (by assumption)) | (with_reducible exact old1 (by assumption) (by assumption)) | (with_reducible exact new1 (by assumption)))
    have hg8' : w8.heap[g8]? = some (.cells (plate a b (mirF a b F)) 29 (0, 0)) := (by first | (with_reducible assumption) | (with_reducible exact blk_new _ _ _ rfl) | (with_reducible exact chainN _ _ _ _) | (with_reducible exact chain1 (by assumption)) | (with_reducible exact old0 (by assumption) (by assumption)) | (with_reducible exact old1 (by assumption) (by assumption)) | (with_reducible exact new1 (by assumption)))
    have hg10' : w8.heap[g10]? = some (.cells (plate a b (mirF a b F)) 29 (0, 0)) := (by first | (with_reducible assumption) | (with_reducible exact blk_new _ _ _ rfl) | (with_reducible exact chainN _ _ _ _) | (with_reducible exact chain1 (by assumption)) | (with_reducible exact old0 (by assumption) (by assumption)) | (with_reducible exact old1 (by assumption) (by assumption)) | (with_reducible exact new1 (by assumption)))
    have hg12' : w8.heap[g12]? = some (.cells (plate a b F) 29 (0, 0)) := (by first | (with_reducible assumption) | (with_reducible exact blk_new _ _ _ rfl) | (with_reducible exact chainN _ _ _ _) | (with_reducible exact chain1 (by assumption)) | (with_reducible exact old0 (by assumption) (by assumption)) | (with_reducible exact old1 (by assumption) (by assumption)) | (with_reducible exact new1 (by assumption)))
    have hg14' : w8.heap[w7.heap.size]? = some (.cells (row [] 8 (zonesF a b F)) 36 (0, 0)) := (by first | (with_reducible assumption) | (with_reducible exact blk_new _ _ _ rfl) | (with_reducible exact chainN _ _ _ _) | (with_reducible exact chain1 (by assumption)) | (with_reducible exact old0 (by assumption) (by assumption)) | (with_reducible exact old1 (by assumption) (by assumption)) | (with_reducible exact new1 (by assumption)))
    have hB' : Below w.heap.size w w8 := (by first | (with_reducible assumption) | (with_reducible exact bel0 (by assumption) (by assumption) hB.size) | (with_reducible exact bel1 (by assumption) (by assumption) hB.size) | (with_reducible exact belr hB hB.size))
    have hz8 := hb.size
    try simp at hz8
    clear hB hb  hg5 hg6 hg8 hg10 hg12 
    generalize hgg14 : w7.heap.size = g14 at *
    clear hgg14
    have hB := hB'; clear hB'
    have hg5 := hg5'; clear hg5'
    have hg6 := hg6'; clear hg6'
    have hg8 := hg8'; clear hg8'
    have hg10 := hg10'; clear hg10'
    have hg12 := hg12'; clear hg12'
    have hg14 := hg14'; clear hg14'
    go_wp2_with (first | ((with_reducible refine at_load 29 ?_); refine wpList_load_part rfl 29 _ rfl _ 0 66 rfl _ _ _ _ (by first | (with_reducible assumption) | (with_reducible exact blk_new _ _ _ rfl) | (with_reducible exact chainN _ _ _ _) | (with_reducible exact chain1 (by assumption)) | (with_reducible exact old0 (by assumption) (by assumption)) | (with_reducible exact old1 (by assumption) (by assumption)) | (with_reducible exact new1 (by assumption))) Tryz.underlying29 rfl (by kernel_rfl) (by simp [row_size]) _ (row_all [_, _] 64 _) ?_) | ((with_reducible refine at_store 29 ?_); refine wpList_store_part rfl 29 _ _ rfl _ 0 _ rfl rfl _ _ (by first | (with_reducible assumption) | (with_reducible exact blk_new _ _ _ rfl) | (with_reducible exact chainN _ _ _ _) | (with_reducible exact chain1 (by assumption)) | (with_reducible exact old0 (by assumption) (by assumption)) | (with_reducible exact old1 (by assumption) (by assumption)) | (with_reducible exact new1 (by assumption))) (by rw [row_size]; kernel_rfl) (by simp [row_size]) (row_cells _ _ _ rfl) _ (row_over _ _ 64 _ _ (by simp)) ?_) | ((with_reducible refine at_load 36 ?_); refine wpList_load_part rfl 36 _ rfl _ 0 8 rfl _ _ _ _ (by first | (with_reducible assumption) | (with_reducible exact blk_new _ _ _ rfl) | (with_reducible exact chainN _ _ _ _) | (with_reducible exact chain1 (by assumption)) | (with_reducible exact old0 (by assumption) (by assumption)) | (with_reducible exact old1 (by assumption) (by assumption)) | (with_reducible exact new1 (by assumption))) Tryz.underlying36 rfl (by kernel_rfl) (by simp [row_size]) _ (row_all [] 8 _) ?_) | ((with_reducible refine at_store 36 ?_); refine wpList_store_part rfl 36 _ _ rfl _ 0 _ rfl rfl _ _ (by first | (with_reducible assumption) | (with_reducible exact blk_new _ _ _ rfl) | (with_reducible exact chainN _ _ _ _) | (with_reducible exact chain1 (by assumption)) | (with_reducible exact old0 (by assumption) (by assumption)) | (with_reducible exact old1 (by assumption) (by assumption)) | (with_reducible exact new1 (by assumption))) (by rw [row_size]; kernel_rfl) (by simp [row_size]) (row_cells _ _ _ rfl) _ (row_over _ _ 8 _ _ (by simp)) ?_))
    refine (zonI hP.mir _).mono ?_
    rintro e w9 ⟨rfl, hb⟩
    have hg5' : w9.heap[g5]? = some (.cells (plate a b F) 29 (0, 0)) := (by first | (with_reducible assumption) | (with_reducible exact blk_new _ _ _ rfl) | (with_reducible exact chainN _ _ _ _) | (with_reducible exact chain1 (by assumption)) | (with_reducible exact old0 (by assumption) (by assumption)) | (with_reducible exact old1 (by assumption) (by assumption)) | (with_reducible exact new1 (by assumption)))
    have hg6' : w9.heap[g6]? = some (.cells (plate a b F) 29 (0, 0)) := (by first | (with_reducible assumption) | (with_reducible exact blk_new _ _ _ rfl) | (with_reducible exact chainN _ _ _ _) | (with_reducible exact chain1 (by assumption)) | (with_reducible exact old0 (by assumption) (by assumption)) | (with_reducible exact old1 (by assumption) (by assumption)) | (with_reducible exact new1 (by assumption)))
    have hg8' : w9.heap[g8]? = some (.cells (plate a b (mirF a b F)) 29 (0, 0)) := (by first | (with_reducible assumption) | (with_reducible exact blk_new _ _ _ rfl) | (with_reducible exact chainN _ _ _ _) | (with_reducible exact chain1 (by assumption)) | (with_reducible exact old0 (by assumption) (by assumption)) | (with_reducible exact old1 (by assumption) (by assumption)) | (with_reducible exact new1 (by assumption)))
    have hg10' : w9.heap[g10]? = some (.cells (plate a b (mirF a b F)) 29 (0, 0)) := (by first | (with_reducible assumption) | (with_reducible exact blk_new _ _ _ rfl) | (with_reducible exact chainN _ _ _ _) | (with_reducible exact chain1 (by assumption)) | (with_reducible exact old0 (by assumption) (by assumption)) | (with_reducible exact old1 (by assumption) (by assumption)) | (with_reducible exact new1 (by assumption)))
    have hg12' : w9.heap[g12]? = some (.cells (plate a b F) 29 (0, 0)) := (by first | (with_reducible assumption) | (with_reducible exact blk_new _ _ _ rfl) | (with_reducible exact chainN _ _ _ _) | (with_reducible exact chain1 (by assumption)) | (with_reducible exact old0 (by assumption) (by assumption)) | (with_reducible exact old1 (by assumption) (by assumption)) | (with_reducible exact new1 (by assumption)))
    have hg14' : w9.heap[g14]? = some (.cells (row [] 8 (zonesF a b F)) 36 (0, 0)) := (by first | (with_reducible assumption) | (with_reducible exact blk_new _ _ _ rfl) | (with_reducible exact chainN _ _ _ _) | (with_reducible exact chain1 (by assumption)) | (with_reducible exact old0 (by assumption) (by assumption)) | (with_reducible exact old1 (by assumption) (by assumption)) | (with_reducible exact new1 (by assumption)))
    have hg16' : w9.heap[w8.heap.size]? = some (.cells (row [] 8 (zonesF a b F)) 36 (0, 0)) := (by first | (with_reducible assumption) | (with_reducible exact blk_new _ _ _ rfl) | (with_reducible exact chainN _ _ _ _) | (with_reducible exact chain1 (by assumption)) | (with_reducible exact old0 (by assumption) (by assumption)) | (with_reducible exact old1 (by assumption) (by assumption)) | (with_reducible exact new1 (by assumption)))
    have hB' : Below w.heap.size w w9 := (by first | (with_reducible assumption) | (with_reducible exact bel0 (by assumption) (by assumption) hB.size) | (with_reducible exact bel1 (by assumption) (by assumption) hB.size) | (with_reducible exact belr hB hB.size))
    have hz9 := hb.size
    try simp at hz9
    clear hB hb  hg5 hg6 hg8 hg10 hg12 hg14 
    generalize hgg16 : w8.heap.size = g16 at *
    clear hgg16
    have hB := hB'; clear hB'
    have hg5 := hg5'; clear hg5'
    have hg6 := hg6'; clear hg6'
    have hg8 := hg8'; clear hg8'
    have hg10 := hg10'; clear hg10'
    have hg12 := hg12'; clear hg12'
    have hg14 := hg14'; clear hg14'
    have hg16 := hg16'; clear hg16'
    go_wp2_with (first | ((with_reducible refine at_load 29 ?_); refine wpList_load_part rfl 29 _ rfl _ 0 66 rfl _ _ _ _ (by first | (with_reducible assumption) | (with_reducible exact blk_new _ _ _ rfl) | (with_reducible exact chainN _ _ _ _) | (with_reducible exact chain1 (by assumption)) | (with_reducible exact old0 (by assumption) (by assumption)) | (with_reducible exact old1 (by assumption) (by assumption)) | (with_reducible exact new1 (by assumption))) Tryz.underlying29 rfl (by kernel_rfl) (by simp [row_size]) _ (row_all [_, _] 64 _) ?_) | ((with_reducible refine at_store 29 ?_); refine wpList_store_part rfl 29 _ _ rfl _ 0 _ rfl rfl _ _ (by first | (with_reducible assumption) | (with_reducible exact blk_new _ _ _ rfl) | (with_reducible exact chainN _ _ _ _) | (with_reducible exact chain1 (by assumption)) | (with_reducible exact old0 (by assumption) (by assumption)) | (with_reducible exact old1 (by assumption) (by assumption)) | (with_reducible exact new1 (by assumption))) (by rw [row_size]; kernel_rfl) (by simp [row_size]) (row_cells _ _ _ rfl) _ (row_over _ _ 64 _ _ (by simp)) ?_) | ((with_reducible refine at_load 36 ?_); refine wpList_load_part rfl 36 _ rfl _ 0 8 rfl _ _ _ _ (by first | (with_reducible assumption) | (with_reducible exact blk_new _ _ _ rfl) | (with_reducible exact chainN _ _ _ _) | (with_reducible exact chain1 (by assumption)) | (with_reducible exact old0 (by assumption) (by assumption)) | (with_reducible exact old1 (by assumption) (by assumption)) | (with_reducible exact new1 (by assumption))) Tryz.underlying36 rfl (by kernel_rfl) (by simp [row_size]) _ (row_all [] 8 _) ?_) | ((with_reducible refine at_store 36 ?_); refine wpList_store_part rfl 36 _ _ rfl _ 0 _ rfl rfl _ _ (by first | (with_reducible assumption) | (with_reducible exact blk_new _ _ _ rfl) | (with_reducible exact chainN _ _ _ _) | (with_reducible exact chain1 (by assumption)) | (with_reducible exact old0 (by assumption) (by assumption)) | (with_reducible exact old1 (by assumption) (by assumption)) | (with_reducible exact new1 (by assumption))) (by rw [row_size]; kernel_rfl) (by simp [row_size]) (row_cells _ _ _ rfl) _ (row_over _ _ 8 _ _ (by simp)) ?_))
    refine (covI hP _).mono ?_
    rintro e w10 ⟨rfl, hb⟩
    have hg5' : w10.heap[g5]? = some (.cells (plate a b F) 29 (0, 0)) := (by first | (with_reducible assumption) | (with_reducible exact blk_new _ _ _ rfl) | (with_reducible exact chainN _ _ _ _) | (with_reducible exact chain1 (by assumption)) | (with_reducible exact old0 (by assumption) (by assumption)) | (with_reducible exact old1 (by assumption) (by assumption)) | (with_reducible exact new1 (by assumption)))
    have hg6' : w10.heap[g6]? = some (.cells (plate a b F) 29 (0, 0)) := (by first | (with_reducible assumption) | (with_reducible exact blk_new _ _ _ rfl) | (with_reducible exact chainN _ _ _ _) | (with_reducible exact chain1 (by assumption)) | (with_reducible exact old0 (by assumption) (by assumption)) | (with_reducible exact old1 (by assumption) (by assumption)) | (with_reducible exact new1 (by assumption)))
    have hg8' : w10.heap[g8]? = some (.cells (plate a b (mirF a b F)) 29 (0, 0)) := (by first | (with_reducible assumption) | (with_reducible exact blk_new _ _ _ rfl) | (with_reducible exact chainN _ _ _ _) | (with_reducible exact chain1 (by assumption)) | (with_reducible exact old0 (by assumption) (by assumption)) | (with_reducible exact old1 (by assumption) (by assumption)) | (with_reducible exact new1 (by assumption)))
    have hg10' : w10.heap[g10]? = some (.cells (plate a b (mirF a b F)) 29 (0, 0)) := (by first | (with_reducible assumption) | (with_reducible exact blk_new _ _ _ rfl) | (with_reducible exact chainN _ _ _ _) | (with_reducible exact chain1 (by assumption)) | (with_reducible exact old0 (by assumption) (by assumption)) | (with_reducible exact old1 (by assumption) (by assumption)) | (with_reducible exact new1 (by assumption)))
    have hg12' : w10.heap[g12]? = some (.cells (plate a b F) 29 (0, 0)) := (by first | (with_reducible assumption) | (with_reducible exact blk_new _ _ _ rfl) | (with_reducible exact chainN _ _ _ _) | (with_reducible exact chain1 (by assumption)) | (with_reducible exact old0 (by assumption) (by assumption)) | (with_reducible exact old1 (by assumption) (by assumption)) | (with_reducible exact new1 (by assumption)))
    have hg14' : w10.heap[g14]? = some (.cells (row [] 8 (zonesF a b F)) 36 (0, 0)) := (by first | (with_reducible assumption) | (with_reducible exact blk_new _ _ _ rfl) | (with_reducible exact chainN _ _ _ _) | (with_reducible exact chain1 (by assumption)) | (with_reducible exact old0 (by assumption) (by assumption)) | (with_reducible exact old1 (by assumption) (by assumption)) | (with_reducible exact new1 (by assumption)))
    have hg16' : w10.heap[g16]? = some (.cells (row [] 8 (zonesF a b F)) 36 (0, 0)) := (by first | (with_reducible assumption) | (with_reducible exact blk_new _ _ _ rfl) | (with_reducible exact chainN _ _ _ _) | (with_reducible exact chain1 (by assumption)) | (with_reducible exact old0 (by assumption) (by assumption)) | (with_reducible exact old1 (by assumption) (by assumption)) | (with_reducible exact new1 (by assumption)))
    have hg18' : w10.heap[w9.heap.size]? = some (.cells (row [] 8 (zonesF a b (mirF a b F))) 36 (0, 0)) := (by first | (with_reducible assumption) | (with_reducible exact blk_new _ _ _ rfl) | (with_reducible exact chainN _ _ _ _) | (with_reducible exact chain1 (by assumption)) | (with_reducible exact old0 (by assumption) (by assumption)) | (with_reducible exact old1 (by assumption) (by assumption)) | (with_reducible exact new1 (by assumption)))
    have hB' : Below w.heap.size w w10 := (by first | (with_reducible assumption) | (with_reducible exact bel0 (by assumption) (by assumption) hB.size) | (with_reducible exact bel1 (by assumption) (by assumption) hB.size) | (with_reducible exact belr hB hB.size))
    have hz10 := hb.size
    try simp at hz10
    clear hB hb  hg5 hg6 hg8 hg10 hg12 hg14 hg16 
    generalize hgg18 : w9.heap.size = g18 at *
    clear hgg18
    have hB := hB'; clear hB'
    have hg5 := hg5'; clear hg5'
    have hg6 := hg6'; clear hg6'
    have hg8 := hg8'; clear hg8'
    have hg10 := hg10'; clear hg10'
    have hg12 := hg12'; clear hg12'
    have hg14 := hg14'; clear hg14'
    have hg16 := hg16'; clear hg16'
    have hg18 := hg18'; clear hg18'
    go_wp2_with (first | ((with_reducible refine at_load 29 ?_); refine wpList_load_part rfl 29 _ rfl _ 0 66 rfl _ _ _ _ (by first | (with_reducible assumption) | (with_reducible exact blk_new _ _ _ rfl) | (with_reducible exact chainN _ _ _ _) | (with_reducible exact chain1 (by assumption)) | (with_reducible exact old0 (by assumption) (by assumption)) | (with_reducible exact old1 (by assumption) (by assumption)) | (with_reducible exact new1 (by assumption))) Tryz.underlying29 rfl (by kernel_rfl) (by simp [row_size]) _ (row_all [_, _] 64 _) ?_) | ((with_reducible refine at_store 29 ?_); refine wpList_store_part rfl 29 _ _ rfl _ 0 _ rfl rfl _ _ (by first | (with_reducible assumption) | (with_reducible exact blk_new _ _ _ rfl) | (with_reducible exact chainN _ _ _ _) | (with_reducible exact chain1 (by assumption)) | (with_reducible exact old0 (by assumption) (by assumption)) | (with_reducible exact old1 (by assumption) (by assumption)) | (with_reducible exact new1 (by assumption))) (by rw [row_size]; kernel_rfl) (by simp [row_size]) (row_cells _ _ _ rfl) _ (row_over _ _ 64 _ _ (by simp)) ?_))
    refine (covS hP _).mono ?_
    rintro e w11 ⟨rfl, hb⟩
    have hg5' : w11.heap[g5]? = some (.cells (plate a b F) 29 (0, 0)) := (by first | (with_reducible assumption) | (with_reducible exact blk_new _ _ _ rfl) | (with_reducible exact chainN _ _ _ _) | (with_reducible exact chain1 (by assumption)) | (with_reducible exact old0 (by assumption) (by assumption)) | (with_reducible exact old1 (by assumption) (by assumption)) | (with_reducible exact new1 (by assumption)))
    have hg6' : w11.heap[g6]? = some (.cells (plate a b F) 29 (0, 0)) := (by first | (with_reducible assumption) | (with_reducible exact blk_new _ _ _ rfl) | (with_reducible exact chainN _ _ _ _) | (with_reducible exact chain1 (by assumption)) | (with_reducible exact old0 (by assumption) (by assumption)) | (with_reducible exact old1 (by assumption) (by assumption)) | (with_reducible exact new1 (by assumption)))
    have hg8' : w11.heap[g8]? = some (.cells (plate a b (mirF a b F)) 29 (0, 0)) := (by first | (with_reducible assumption) | (with_reducible exact blk_new _ _ _ rfl) | (with_reducible exact chainN _ _ _ _) | (with_reducible exact chain1 (by assumption)) | (with_reducible exact old0 (by assumption) (by assumption)) | (with_reducible exact old1 (by assumption) (by assumption)) | (with_reducible exact new1 (by assumption)))
    have hg10' : w11.heap[g10]? = some (.cells (plate a b (mirF a b F)) 29 (0, 0)) := (by first | (with_reducible assumption) | (with_reducible exact blk_new _ _ _ rfl) | (with_reducible exact chainN _ _ _ _) | (with_reducible exact chain1 (by assumption)) | (with_reducible exact old0 (by assumption) (by assumption)) | (with_reducible exact old1 (by assumption) (by assumption)) | (with_reducible exact new1 (by assumption)))
    have hg12' : w11.heap[g12]? = some (.cells (plate a b F) 29 (0, 0)) := (by first | (with_reducible assumption) | (with_reducible exact blk_new _ _ _ rfl) | (with_reducible exact chainN _ _ _ _) | (with_reducible exact chain1 (by assumption)) | (with_reducible exact old0 (by assumption) (by assumption)) | (with_reducible exact old1 (by assumption) (by assumption)) | (with_reducible exact new1 (by assumption)))
    have hg14' : w11.heap[g14]? = some (.cells (row [] 8 (zonesF a b F)) 36 (0, 0)) := (by first | (with_reducible assumption) | (with_reducible exact blk_new _ _ _ rfl) | (with_reducible exact chainN _ _ _ _) | (with_reducible exact chain1 (by assumption)) | (with_reducible exact old0 (by assumption) (by assumption)) | (with_reducible exact old1 (by assumption) (by assumption)) | (with_reducible exact new1 (by assumption)))
    have hg16' : w11.heap[g16]? = some (.cells (row [] 8 (zonesF a b F)) 36 (0, 0)) := (by first | (with_reducible assumption) | (with_reducible exact blk_new _ _ _ rfl) | (with_reducible exact chainN _ _ _ _) | (with_reducible exact chain1 (by assumption)) | (with_reducible exact old0 (by assumption) (by assumption)) | (with_reducible exact old1 (by assumption) (by assumption)) | (with_reducible exact new1 (by assumption)))
    have hg18' : w11.heap[g18]? = some (.cells (row [] 8 (zonesF a b (mirF a b F))) 36 (0, 0)) := (by first | (with_reducible assumption) | (with_reducible exact blk_new _ _ _ rfl) | (with_reducible exact chainN _ _ _ _) | (with_reducible exact chain1 (by assumption)) | (with_reducible exact old0 (by assumption) (by assumption)) | (with_reducible exact old1 (by assumption) (by assumption)) | (with_reducible exact new1 (by assumption)))
    have hB' : Below w.heap.size w w11 := (by first | (with_reducible assumption) | (with_reducible exact bel0 (by assumption) (by assumption) hB.size) | (with_reducible exact bel1 (by assumption) (by assumption) hB.size) | (with_reducible exact belr hB hB.size))
    have hz11 := hb.size
    try simp at hz11
    clear hB hb  hg5 hg6 hg8 hg10 hg12 hg14 hg16 hg18 
    generalize hgz10 : w10.heap.size = z10 at *
    clear hgz10
    have hB := hB'; clear hB'
    have hg5 := hg5'; clear hg5'
    have hg6 := hg6'; clear hg6'
    have hg8 := hg8'; clear hg8'
    have hg10 := hg10'; clear hg10'
    have hg12 := hg12'; clear hg12'
    have hg14 := hg14'; clear hg14'
    have hg16 := hg16'; clear hg16'
    have hg18 := hg18'; clear hg18'
    go_upto_region 13 with (fail)
    try dsimp only [List.append]
    go_cut [186] from 109 to 186 (fun sx wx => sx = .bool false ∧ wx.heap[g5]? = some (.cells (plate a b F) 29 (0, 0)) ∧ wx.heap[g16]? = some (.cells (row [] 8 (zonesF a b F)) 36 (0, 0)) ∧ wx.heap[g18]? = some (.cells (row [] 8 (zonesF a b (mirF a b F))) 36 (0, 0)) ∧ Below w.heap.size w wx ∧ w11.heap.size ≤ wx.heap.size)
    case first =>
      rename_i J K1 hRJ hMK
      exact plates_first hP hB hg5 hg6 hg8 hg10 hg12 hg14 hg16 hg18 (fun a' w' h => hMK _ _ (Met.intro (hRJ _ _ h)))
    case rest =>
      rename World => wd
      obtain ⟨rfl, hg5', hg16', hg18', hB', hzd⟩ := hcut
      clear hB hg5 hg6 hg8 hg10 hg12 hg14 hg16 hg18
      have hg5 := hg5'; clear hg5'
      have hg16 := hg16'; clear hg16'
      have hg18 := hg18'; clear hg18'
      have hB := hB'; clear hB'
      generalize hgz : w11.heap.size = zd at *
      clear hgz
      go_upto_block 0 with (fail)
      go_cut [] from 187 to 209 (fun wx => wx.heap[g5]? = some (.cells (plate a b F) 29 (0, 0)) ∧ Below w.heap.size w wx ∧ wd.heap.size ≤ wx.heap.size)
      case first =>
        rename_i J K1 hRJ hMK
        exact plates_mirror hP hB hg5 hg16 hg18 (fun a' w' h => hMK _ _ (Met.intro (hRJ _ _ h)))
      case rest =>
        rename World => we
        obtain ⟨hg5', hB', hze⟩ := hcut
        clear hB hg5 hg16 hg18
        have hg5 := hg5'; clear hg5'
        have hB := hB'; clear hB'
        apply_assumption
        exact plates_tail1 hP hB hy' hg5 rfl
  · rw [hL] at hLong
    go_enter Tryz.func3, Tryz.ntmps3
    go_wp2_with (go_at_call 4; (with_reducible refine (hLong _).mono ?_); rintro e w' ⟨rfl, rfl⟩)
    go_ret
    exact ⟨rfl, Below.refl _ _⟩
end Go.Proofs.YtekfmjddlemboaaGreatDoor
