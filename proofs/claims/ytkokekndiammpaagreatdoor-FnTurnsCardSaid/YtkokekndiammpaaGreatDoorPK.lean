/- Parts of a proof, merged; each under its own premises. -/
import Derived.Test.YtkokekndiammpaaGreatDoorPJ
import Derived.Test.YtkokekndiammpaaGreatDoorPI
import Derived.Test.YtkokekndiammpaaGreatDoorPG
import Derived.Test.YtkokekndiammpaaGreatDoorPH
import Derived.Deep.CutRange

/-! What a train's text says is read from it again; plain. -/
set_option linter.unusedVariables false
set_option linter.unusedSimpArgs false
namespace Go.Proofs.YtkokekndiammpaaGreatDoor
open Go.RowKit Go.Lib

theorem splitL_cat (c : UInt8) : ∀ (p r : List UInt8), splitL c (p ++ c :: r) = splitL c p ++ splitL c r
  | [], r => by
    show (if c = c then [] :: splitL c r else match splitL c r with | h :: t => (c :: h) :: t | [] => [[c]]) = [[]] ++ splitL c r
    rw [if_pos rfl]; rfl
  | b :: p, r => by
    have ih := splitL_cat c p r
    show (if b = c then [] :: splitL c (p ++ c :: r) else match splitL c (p ++ c :: r) with | h :: t => (b :: h) :: t | [] => [[b]]) = (if b = c then [] :: splitL c p else match splitL c p with | h :: t => (b :: h) :: t | [] => [[b]]) ++ splitL c r
    rw [ih]
    by_cases e : b = c
    · rw [if_pos e, if_pos e]; rfl
    · rw [if_neg e, if_neg e]
      cases h : splitL c p with
      | nil => exact absurd h (splitL_ne c p)
      | cons x y => rfl
theorem hexDig_no : ∀ n, n < 16 → hexDig n ≠ 32 := by decide
theorem hexL_no : ∀ k u, (32 : UInt8) ∉ hexL k u
  | 0, _ => by simp [hexL]
  | k + 1, u => by
    intro h
    rw [show hexL (k + 1) u = hexL k (u / 16) ++ [hexDig (u % 16)] from rfl, List.mem_append] at h
    rcases h with h | h
    · exact hexL_no k _ h
    · exact hexDig_no (u % 16) (Nat.mod_lt _ (by decide)) ((List.mem_singleton.1 h).symm)
theorem numText_no (a : Nat) : (32 : UInt8) ∉ numText a := hexL_no 8 _
theorem dec_no {n : Nat} (h : n < 13) : (32 : UInt8) ∉ Lib.decDigits n := by
  have key : ∀ m, m < 10 → (32 : UInt8) ≠ UInt8.ofNat (48 + m) := by decide
  by_cases h10 : n < 10
  · rw [dec_small h10]
    simp only [List.mem_singleton]
    exact key n h10
  · rw [dec_two (by omega) (by omega)]
    simp only [List.mem_cons, List.not_mem_nil, or_false, not_or]
    exact ⟨key (n / 10) (by omega), key (n % 10) (by omega)⟩
theorem split_tail (F : Nat → Nat) (p : List UInt8) : ∀ n, splitL 32 (p ++ tailT F n) = splitL 32 p ++ (List.range n).map fun k => numText (F k)
  | 0 => by simp [tailT]
  | n + 1 => by
    rw [show tailT F (n + 1) = tailT F n ++ 32 :: numText (F n) from rfl, ← List.append_assoc, splitL_cat, split_tail F p n, splitL_miss (numText_no _), List.range_succ, List.map_append, List.append_assoc]
    rfl
theorem split_train {n s t : Nat} {F : Nat → Nat} (h : n < 13) : splitL 32 (trainTx n s t F) = Lib.decDigits n :: numText s :: numText t :: (List.range n).map fun k => numText (F k) := by
  unfold trainTx
  rw [split_tail, splitL_cat, splitL_cat, splitL_miss (dec_no h), splitL_miss (numText_no _), splitL_miss (numText_no _)]
  rfl
theorem readAll_text {G : Nat → Nat} {n : Nat} (hlt : ∀ k, k < n → G k < 2 ^ 32) (hc : ∀ k, k < n → canonB (G k) = G k) : readAll ((List.range n).map fun k => numText (G k)) = some ((List.range n).map G) := by
  induction n with
  | zero => rfl
  | succ n ih =>
    rw [List.range_succ, List.map_append, List.map_append]
    show readAll (((List.range n).map fun k => numText (G k)) ++ [numText (G n)]) = some (((List.range n).map G) ++ [G n])
    rw [readAll_snoc, ih (fun k hk => hlt k (by omega)) (fun k hk => hc k (by omega)), readOf_numText (hlt n (by omega)), hc n (by omega)]
    rfl
theorem canon_num {a : Nat} (h : ¬ Flt.NaN Ieee.single a) : canonB a = a := by unfold canonB; rw [if_neg h]
theorem allZ_yes {G : Nat → Nat} : ∀ n, (∀ k, k < n → G k = 0) → allZ G n = true
  | 0, _ => rfl
  | n + 1, h => by
    show (allZ G n && (G n == 0)) = true
    rw [allZ_yes n (fun k hk => h k (by omega)), h n (by omega)]
    rfl
theorem trF_list (s t n : Nat) (F : Nat → Nat) : ∀ i, trF (s :: t :: (List.range n).map F) i = if i < n then F i else 0 := by
  intro i
  unfold trF
  show ((List.range n).map F).getD i 0 = _
  by_cases h : i < n
  · rw [if_pos h]; simp [List.getD, h]
  · rw [if_neg h]; simp [List.getD, h]
theorem cellsB_congr {r : Int} {F G : Nat → Nat} : ∀ n, (∀ i, i < n → F i = G i) → cellsB r F n = cellsB r G n
  | 0, _ => rfl
  | n + 1, h => by
    show (cellsB r F n && cellB r F n) = (cellsB r G n && cellB r G n)
    rw [cellsB_congr n (fun i hi => h i (by omega))]
    unfold cellB
    rw [h n (by omega)]
theorem trainB_congr {r : Int} {s t : Nat} {F G : Nat → Nat} (h : ∀ i, i < 12 → F i = G i) : trainB r s t F = trainB r s t G := by
  unfold trainB
  rw [cellsB_congr 12 h]
/-- A train is read from its text. -/
theorem round_train {r : Int} {s t : Nat} {F : Nat → Nat} (hS : SmallT r s t F) (hok : trainB r s t F = true) (hL : LtT s t F) : rtRow (readTR (trainText r s t F)) = train r s t F ∧ rtCode (readTR (trainText r s t F)) = 0 := by
  have h2 := hS.h2
  have h6 := hS.h6
  obtain ⟨l1, l2, l3⟩ := hL
  have hrn : ((r.toNat : Nat) : Int) = r := Int.toNat_of_nonneg (by omega)
  have hbare : bareT r.toNat F = true := allZ_yes _ fun k hk => hS.hz (r.toNat + k) (by omega) (by omega)
  have htx : trainText r s t F = trainTx r.toNat s t F := by
    unfold trainText
    rw [hok, hbare]
    rfl
  have cs := canon_num ((part_iff s).1 hS.hs).1
  have ct := canon_num ((part_iff t).1 hS.ht).1
  have cF : ∀ k, k < r.toNat → canonB (F k) = F k := fun k hk => canon_num (fin_nan (hS.hF k (by omega)).1)
  have hall : readAll (numText s :: numText t :: (List.range r.toNat).map fun k => numText (F k)) = some (s :: t :: (List.range r.toNat).map F) := by
    have h1 := readAll_text (G := F) (n := r.toNat) (fun k hk => l3 k (by omega)) cF
    show ((readOf (numText s)).bind fun a => ((readOf (numText t)).bind fun b => (readAll ((List.range r.toNat).map fun k => numText (F k))).bind fun r => some (b :: r)).bind fun r => some (a :: r)) = _
    rw [readOf_numText l1, readOf_numText l2, h1, cs, ct]
    rfl
  have hG : ∀ i, i < 12 → trF (s :: t :: (List.range r.toNat).map F) i = F i := by
    intro i hi
    rw [trF_list]
    by_cases h : i < r.toNat
    · rw [if_pos h]
    · rw [if_neg h, hS.hz i hi (by omega)]
  have hgb : trainGB r.toNat (s :: t :: (List.range r.toNat).map F) = true := by
    show trainB ((r.toNat : Nat) : Int) s t (trF (s :: t :: (List.range r.toNat).map F)) = true
    rw [hrn, trainB_congr hG]
    exact hok
  have hread : readTR (trainText r s t F) = some (r.toNat, s :: t :: (List.range r.toNat).map F) := by
    rw [htx, readTR_cons (split_train (by omega)), numOf_dec r.toNat (by omega)]
    show (if r.toNat < 13 ∧ (numText s :: numText t :: (List.range r.toNat).map fun k => numText (F k)).length = r.toNat + 2 then _ else _) = _
    rw [if_pos ⟨by omega, by simp⟩, hall]
    show (if trainGB r.toNat _ = true then _ else _) = _
    rw [if_pos hgb]
  rw [hread]
  refine ⟨?_, rfl⟩
  show train ((r.toNat : Nat) : Int) s t (trF (s :: t :: (List.range r.toNat).map F)) = train r s t F
  rw [hrn]
  exact row_congr _ _ _ hG
end Go.Proofs.YtkokekndiammpaaGreatDoor

/-! Contracts of TrainText and ReadTrain, of trains of small films; each under its own premises. -/
set_option linter.unusedVariables false
set_option linter.unusedSimpArgs false
namespace Go.Proofs.YtkokekndiammpaaGreatDoor
open Go.RowKit Go.Lib Ieee

/-- What of Go's library is read by ReadTrain and TrainText. -/
structure LibsT (w : World) : Prop where
  lib : Libs w
  tab : Lib.TabIs Tryz.prog w "internal/strconv.uint64pow10" .u64 Lib.pow10Tab
  ml : ∃ m0 : Int, w.cell? ⟨1, 0, none⟩ = some (.int .i64 m0)
theorem LibsT.on {w w' : World} {B : Nat} (h : LibsT w) (hb : Below B w w') (hB : w.heap.size ≤ B) : LibsT w' := by
  obtain ⟨m0, hm⟩ := h.ml
  exact ⟨h.lib.on hb hB, Go.Joins.tab_stays (g := 4) (by kernel_rfl) h.tab (hb.mono hB) (Nat.le_refl _), m0, (hb.cell (p := ⟨1, 0, none⟩) (Nat.lt_of_lt_of_le (World.block_lt_of_cell? _ _ hm) hB)).trans hm⟩
theorem dec_short {n : Nat} (h : n < 13) : (Lib.decDigits n).length ≤ 2 := by
  by_cases h10 : n < 10
  · rw [dec_small h10]; simp
  · rw [dec_two (by omega) (by omega)]; simp
theorem text_short {r : Int} {s t : Nat} {F : Nat → Nat} (h2 : 0 ≤ r) (h6 : r ≤ 12) : (trainText r s t F).length ≤ 1048576 := by
  unfold trainText
  split
  · unfold trainTx
    have := dec_short (n := r.toNat) (by omega)
    simp only [List.length_append, List.length_cons, tailT_length, numText_length]
    omega
  · simp
section
variable {r : Int} {s t : Nat} {F : Nat → Nat} (hS : SmallT r s t F) (hL : LtT s t F)
include hS hL
theorem textIN (w : World) (hw : LibsT w) : Calls Tryz.prog 10 #[.agg (train r s t F)] w fun e w' => e = .returned (.string ⟨(trainText r s t F).toArray⟩) ∧ Below w.heap.size w w' :=
  implTrainText_any r s t F hS.lo hS.hi hL.1 hL.2.1 hL.2.2 w hw.lib.db
theorem readIN (w : World) (hw : LibsT w) : Calls Tryz.prog 9 #[.string ⟨(trainText r s t F).toArray⟩] w fun e w' => e = .returned (.tuple #[.agg (train r s t F), .int .i64 0]) ∧ Below w.heap.size w w' := by
  obtain ⟨m0, hm⟩ := hw.ml
  obtain ⟨h1, h2⟩ := round_train hS hS.ok hL
  have hl : (trainText r s t F).length ≤ 1048576 := text_short (by have := hS.h2; omega) (by have := hS.h6; omega)
  exact implReadTrain ⟨(trainText r s t F).toArray⟩ (by simpa [ByteArray.size] using hl) w hw.lib hw.tab m0 hm (train r s t F) 0 h1.symm h2.symm
end
end Go.Proofs.YtkokekndiammpaaGreatDoor

/-! What FnTurns tests ahead of its loop; under its own premises. -/
set_option linter.unusedVariables false
set_option linter.unusedSimpArgs false
namespace Go.Proofs.YtkokekndiammpaaGreatDoor
open Go.RowKit Ieee

set_option maxRecDepth 100000 in
set_option maxHeartbeats 6400000 in
theorem turns_tests {F : Nat → Nat} {r : Int} {s t fed cov N g5 g9 g11 g12 g14 g15 B1 B2 c1 c2 : Nat} {ao1 ao2 : Option Addr} (hS : SmallT r s t F) (hLt : LtT s t F) (hfed : Small fed) (hcov : partB cov = true) (hN : N ≤ 19) {w w1 : World} (hB : Below w.heap.size w w1)
    (hg5 : w1.heap[g5]? = some (.cells (train r s t F) 28 (0, 0))) (hg9 : w1.heap[g9]? = some (.cells (train r s t F) 28 (0, 0))) (hg11 : w1.heap[g11]? = some (.cells (train r s t (itF r s t fed cov F N)) 28 (0, 0))) (hg12 : w1.heap[g12]? = some (.cells (#[.float .f32 (sumTo (fun _ => fed) N), .float .f32 (sumTo (prF r s t fed cov F) N), .float .f32 (sumTo (itF r s t fed cov F N) r.toNat)]) 36 (0, 0))) (hg14 : w1.heap[g14]? = some (.cells (train r s t (itF r s t fed cov F N)) 28 (0, 0))) (hg15 : w1.heap[g15]? = some (.cells (#[.float .f32 (sumTo (fun _ => fed) N), .float .f32 (sumTo (prF r s t fed cov F) N), .float .f32 (sumTo (itF r s t fed cov F N) r.toNat)]) 36 (0, 0)))
    (hP1 : FltsAt w1 B1 ao1 N (prF r s t fed cov F)) (hP2 : FltsAt w1 B2 ao2 N (prF r s t fed cov F)) (hB1 : B1 ≤ w1.heap.size) (hB2 : B2 ≤ w1.heap.size)
    {Q : Exit → Act → World → Prop} {K : Act → World → Prop} {x0 x1 x2 x3 x4 x6 x7 x23 x24 x25 x26 x27 x28 x29 x30 x31 x32 x33 x34 x35 x36 x37 x38 x39 x40 x41 x42 x43 x44 x45 x46 x47 x48 x49 x50 x51 x52 x53 x54 x55 x56 x57 x58 x59 x60 x61 x62 x63 x64 x65 x66 x67 x68 x69 x70 x71 x72 x73 x74 x75 x76 x77 x78 x79 x80 x81 x82 x83 x84 x85 x86 x87 x88 x89 x90 x91 x92 x93 x94 x95 x96 x97 x98 x99 x100 x101 x102 x103 x104 x105 x106 x107 x108 x109 x110 x111 x112 x113 x114 x115 x116 x117 x118 x119 x120 x121 x122 x123 x124 x125 x126 x127 x128 x129 x130 x131 x132 x133 x134 x135 x136 x137 x138 x139 x140 x141 x142 x143 x144 x145 x146 x147 x148 x149 x150 x151 x152 x153 x154 x155 x156 x157 x158 x159 x160 x161 x162 x163 x164 x165 x166 x167 x168 x169 x170 x171 x172 x173 x174 x175 x176 x177 x178 x179 x180 x181 x182 x183 x184 x185 x186 x187 x188 x189 x190 x191 x192 x193 x194 x195 x196 x197 x198 x199 x200 x201 x202 x203 x204 x205 x206 x207 x208 x209 x210 x211 x212 x213 x214 x215 x216 x217 x218 x219 x220 x221 x222 x223 x224 x225 x226 x227 x228 x229 x230 x231 x232 x233 x234 x235 x236 x237 x238 x239 x240 x241 x242 x243 x244 x245 : Value}
    (hK : ∀ a' w', Met (fun a' w' => ∃ u87 u88 u89 u90 u91 u92 u93 u94 u95 u96 u97 u98 u99 u100 u101 u102 u103 u104 u105 u106 u107 u108 u109 u110 u111 u112 u113 u114 u115 u116 u117 u118 u119 u120 u121 u122 u123 u124 u125 u126 u127 u128 u129 u130 u131 u132 u133 u134 u135 u136 u137 u138 u139 u140 u141 u142 u143 u144 u145 u146 u147 u148 u149 u150 u151 u152 u153 u154 u155 u156 u157 u158 u159 u160 u161 u162 u163 u164 u165 u166 u167 u168 u169 u170 u171 u172 u173 u174 u175 u176 u177 u178 u179 u180 u181 u182, (u182 = .bool false ∧ w'.heap[g5]? = some (.cells (train r s t F) 28 (0, 0)) ∧ w'.heap[g14]? = some (.cells (train r s t (itF r s t fed cov F N)) 28 (0, 0)) ∧ FltsAt w' B2 ao2 N (prF r s t fed cov F) ∧ Below w.heap.size w w' ∧ w1.heap.size ≤ w'.heap.size) ∧ a' = ⟨#[x0, x1, x2, x3, x4, .pointer (some ⟨g5, 0, none⟩), x6, x7, .int .i64 (N : Nat), .pointer (some ⟨g9, 0, none⟩), .int .i64 0, .pointer (some ⟨g11, 0, none⟩), .pointer (some ⟨g12, 0, none⟩), .int .i64 0, .pointer (some ⟨g14, 0, none⟩), .pointer (some ⟨g15, 0, none⟩), .int .i64 0, .slice ao1 N c1, .int .i64 0, .slice ao2 N c2, .int .i64 0, .float .f32 (sumTo F r.toNat), .int .i64 0, x23, x24, x25, x26, x27, x28, x29, x30, x31, x32, x33, x34, x35, x36, x37, x38, x39, x40, x41, x42, x43, x44, x45, x46, x47, x48, x49, x50, x51, x52, x53, x54, x55, x56, x57, x58, x59, x60, x61, x62, x63, x64, x65, x66, x67, x68, x69, x70, x71, x72, x73, x74, x75, x76, x77, x78, x79, x80, x81, x82, x83, x84, x85, x86, u87, u88, u89, u90, u91, u92, u93, u94, u95, u96, u97, u98, u99, u100, u101, u102, u103, u104, u105, u106, u107, u108, u109, u110, u111, u112, u113, u114, u115, u116, u117, u118, u119, u120, u121, u122, u123, u124, u125, u126, u127, u128, u129, u130, u131, u132, u133, u134, u135, u136, u137, u138, u139, u140, u141, u142, u143, u144, u145, u146, u147, u148, u149, u150, u151, u152, u153, u154, u155, u156, u157, u158, u159, u160, u161, u162, u163, u164, u165, u166, u167, u168, u169, u170, u171, u172, u173, u174, u175, u176, u177, u178, u179, u180, u181, u182, x183, x184, x185, x186, x187, x188, x189, x190, x191, x192, x193, x194, x195, x196, x197, x198, x199, x200, x201, x202, x203, x204, x205, x206, x207, x208, x209, x210, x211, x212, x213, x214, x215, x216, x217, x218, x219, x220, x221, x222, x223, x224, x225, x226, x227, x228, x229, x230, x231, x232, x233, x234, x235, x236, x237, x238, x239, x240, x241, x242, x243, x244, x245], []⟩) a' w' → K a' w') :
    (cL (cL (cRn 12 (bodyOf Tryz.f3)))).wp Tryz.prog (Exit.then K Q) ⟨#[x0, x1, x2, x3, x4, .pointer (some ⟨g5, 0, none⟩), x6, x7, .int .i64 (N : Nat), .pointer (some ⟨g9, 0, none⟩), .int .i64 0, .pointer (some ⟨g11, 0, none⟩), .pointer (some ⟨g12, 0, none⟩), .int .i64 0, .pointer (some ⟨g14, 0, none⟩), .pointer (some ⟨g15, 0, none⟩), .int .i64 0, .slice ao1 N c1, .int .i64 0, .slice ao2 N c2, .int .i64 0, .float .f32 (sumTo F r.toNat), .int .i64 0, x23, x24, x25, x26, x27, x28, x29, x30, x31, x32, x33, x34, x35, x36, x37, x38, x39, x40, x41, x42, x43, x44, x45, x46, x47, x48, x49, x50, x51, x52, x53, x54, x55, x56, x57, x58, x59, x60, x61, x62, x63, x64, x65, x66, x67, x68, x69, x70, x71, x72, x73, x74, x75, x76, x77, x78, x79, x80, x81, x82, x83, x84, x85, x86, x87, x88, x89, x90, x91, x92, x93, x94, x95, x96, x97, x98, x99, x100, x101, x102, x103, x104, x105, x106, x107, x108, x109, x110, x111, x112, x113, x114, x115, x116, x117, x118, x119, x120, x121, x122, x123, x124, x125, x126, x127, x128, x129, x130, x131, x132, x133, x134, x135, x136, x137, x138, x139, x140, x141, x142, x143, x144, x145, x146, x147, x148, x149, x150, x151, x152, x153, x154, x155, x156, x157, x158, x159, x160, x161, x162, x163, x164, x165, x166, x167, x168, x169, x170, x171, x172, x173, x174, x175, x176, x177, x178, x179, x180, x181, x182, x183, x184, x185, x186, x187, x188, x189, x190, x191, x192, x193, x194, x195, x196, x197, x198, x199, x200, x201, x202, x203, x204, x205, x206, x207, x208, x209, x210, x211, x212, x213, x214, x215, x216, x217, x218, x219, x220, x221, x222, x223, x224, x225, x226, x227, x228, x229, x230, x231, x232, x233, x234, x235, x236, x237, x238, x239, x240, x241, x242, x243, x244, x245], []⟩ w1 := by
  have lr := hS.h2
  have ur := hS.h6
  obtain ⟨n5, n6, n1, n2, n3, n4, n7, n8⟩ := balance_near hS hfed hcov hN
  conv => arg 2; whnf
  dsimp only [List.append]
  obtain ⟨z0, hz0⟩ : ∃ z, z = w1.heap.size := ⟨_, rfl⟩
  have c120 : w1.cell? ⟨g12, 0, none⟩ = some (.float .f32 (sumTo (fun _ => fed) N)) := (cell_of_row _ _ (0) _ _ _ hg12).trans (rfl)
  have c121 : w1.cell? ⟨g12, 1, none⟩ = some (.float .f32 (sumTo (prF r s t fed cov F) N)) := (cell_of_row _ _ (1) _ _ _ hg12).trans (rfl)
  have c122 : w1.cell? ⟨g12, 2, none⟩ = some (.float .f32 (sumTo (itF r s t fed cov F N) r.toNat)) := (cell_of_row _ _ (2) _ _ _ hg12).trans (rfl)
  have c150 : w1.cell? ⟨g15, 0, none⟩ = some (.float .f32 (sumTo (fun _ => fed) N)) := (cell_of_row _ _ (0) _ _ _ hg15).trans (rfl)
  have c151 : w1.cell? ⟨g15, 1, none⟩ = some (.float .f32 (sumTo (prF r s t fed cov F) N)) := (cell_of_row _ _ (1) _ _ _ hg15).trans (rfl)
  have c152 : w1.cell? ⟨g15, 2, none⟩ = some (.float .f32 (sumTo (itF r s t fed cov F N) r.toNat)) := (cell_of_row _ _ (2) _ _ _ hg15).trans (rfl)
  go_wp2_with (first | ((with_reducible refine at_load 28 ?_); refine wpList_load_part rfl 28 _ rfl _ 0 15 rfl _ _ _ _ (by first | (with_reducible assumption) | (with_reducible exact blk_new _ _ _ rfl) | (with_reducible exact chainN _ _ _ _) | (with_reducible exact chain1 (by assumption)) | (with_reducible exact old0 (by assumption) (by assumption)) | (with_reducible exact old1 (by assumption) (by assumption)) | (with_reducible exact new1 (by assumption))) Tryz.underlying28 rfl (by kernel_rfl) (by simp [row_size]) _ (row_all [_, _, _] 12 _) ?_) | ((with_reducible refine at_load 28 ?_); refine wpList_load_partg (by first | rfl | (simp only [hff]; rfl) | (go_simp; done)) 28 _ rfl _ 0 15 rfl _ _ _ _ (by first | (with_reducible assumption) | (with_reducible exact blk_new _ _ _ rfl) | (with_reducible exact chainN _ _ _ _) | (with_reducible exact chain1 (by assumption)) | (with_reducible exact old0 (by assumption) (by assumption)) | (with_reducible exact old1 (by assumption) (by assumption)) | (with_reducible exact new1 (by assumption))) Tryz.underlying28 rfl (by kernel_rfl) (by simp [row_size]) _ (row_all [_, _, _] 12 _) ?_) | ((with_reducible refine at_store 28 ?_); refine wpList_store_part rfl 28 _ _ rfl _ 0 _ rfl rfl _ _ (by first | (with_reducible assumption) | (with_reducible exact blk_new _ _ _ rfl) | (with_reducible exact chainN _ _ _ _) | (with_reducible exact chain1 (by assumption)) | (with_reducible exact old0 (by assumption) (by assumption)) | (with_reducible exact old1 (by assumption) (by assumption)) | (with_reducible exact new1 (by assumption))) (by rw [row_size]; kernel_rfl) (by simp [row_size]) (row_cells _ _ _ rfl) _ (row_over _ _ 12 _ _ (by simp)) ?_))
  refine (sameIN hLt _).mono ?_
  rintro e w2 ⟨rfl, hb⟩
  have hg5' : w2.heap[g5]? = some (.cells (train r s t F) 28 (0, 0)) := (by first | (with_reducible assumption) | (with_reducible exact blk_new _ _ _ rfl) | (with_reducible exact chainN _ _ _ _) | (with_reducible exact chain1 (by assumption)) | (with_reducible exact old0 (by assumption) (by assumption)) | (with_reducible exact old1 (by assumption) (by assumption)) | (with_reducible exact new1 (by assumption)))
  have hg9' : w2.heap[g9]? = some (.cells (train r s t F) 28 (0, 0)) := (by first | (with_reducible assumption) | (with_reducible exact blk_new _ _ _ rfl) | (with_reducible exact chainN _ _ _ _) | (with_reducible exact chain1 (by assumption)) | (with_reducible exact old0 (by assumption) (by assumption)) | (with_reducible exact old1 (by assumption) (by assumption)) | (with_reducible exact new1 (by assumption)))
  have hg11' : w2.heap[g11]? = some (.cells (train r s t (itF r s t fed cov F N)) 28 (0, 0)) := (by first | (with_reducible assumption) | (with_reducible exact blk_new _ _ _ rfl) | (with_reducible exact chainN _ _ _ _) | (with_reducible exact chain1 (by assumption)) | (with_reducible exact old0 (by assumption) (by assumption)) | (with_reducible exact old1 (by assumption) (by assumption)) | (with_reducible exact new1 (by assumption)))
  have hg12' : w2.heap[g12]? = some (.cells (#[.float .f32 (sumTo (fun _ => fed) N), .float .f32 (sumTo (prF r s t fed cov F) N), .float .f32 (sumTo (itF r s t fed cov F N) r.toNat)]) 36 (0, 0)) := (by first | (with_reducible assumption) | (with_reducible exact blk_new _ _ _ rfl) | (with_reducible exact chainN _ _ _ _) | (with_reducible exact chain1 (by assumption)) | (with_reducible exact old0 (by assumption) (by assumption)) | (with_reducible exact old1 (by assumption) (by assumption)) | (with_reducible exact new1 (by assumption)))
  have hg14' : w2.heap[g14]? = some (.cells (train r s t (itF r s t fed cov F N)) 28 (0, 0)) := (by first | (with_reducible assumption) | (with_reducible exact blk_new _ _ _ rfl) | (with_reducible exact chainN _ _ _ _) | (with_reducible exact chain1 (by assumption)) | (with_reducible exact old0 (by assumption) (by assumption)) | (with_reducible exact old1 (by assumption) (by assumption)) | (with_reducible exact new1 (by assumption)))
  have hg15' : w2.heap[g15]? = some (.cells (#[.float .f32 (sumTo (fun _ => fed) N), .float .f32 (sumTo (prF r s t fed cov F) N), .float .f32 (sumTo (itF r s t fed cov F N) r.toNat)]) 36 (0, 0)) := (by first | (with_reducible assumption) | (with_reducible exact blk_new _ _ _ rfl) | (with_reducible exact chainN _ _ _ _) | (with_reducible exact chain1 (by assumption)) | (with_reducible exact old0 (by assumption) (by assumption)) | (with_reducible exact old1 (by assumption) (by assumption)) | (with_reducible exact new1 (by assumption)))
  have hB' : Below w.heap.size w w2 := (by first | (with_reducible assumption) | (with_reducible exact bel0 (by assumption) (by assumption) hB.size) | (with_reducible exact bel1 (by assumption) (by assumption) hB.size) | (with_reducible exact belr hB hB.size))
  have hP1' : FltsAt w2 B1 ao1 N (prF r s t fed cov F) := flts_below (C := w1.heap.size) (by first | (with_reducible exact hb) | (with_reducible exact bel1 hb (Below.refl _ _) (Nat.le_refl _))) (by omega) hP1
  have hP2' : FltsAt w2 B2 ao2 N (prF r s t fed cov F) := flts_below (C := w1.heap.size) (by first | (with_reducible exact hb) | (with_reducible exact bel1 hb (Below.refl _ _) (Nat.le_refl _))) (by omega) hP2
  have hz2 := hb.size
  try simp at hz2
  clear hB hb hP1 hP2 hg5 hg9 hg11 hg12 hg14 hg15 c120 c121 c122 c150 c151 c152
  generalize hgz1 : w1.heap.size = z1 at *
  clear hgz1
  have hB := hB'; clear hB'
  have hg5 := hg5'; clear hg5'
  have hg9 := hg9'; clear hg9'
  have hg11 := hg11'; clear hg11'
  have hg12 := hg12'; clear hg12'
  have hg14 := hg14'; clear hg14'
  have hg15 := hg15'; clear hg15'
  have c120 : w2.cell? ⟨g12, 0, none⟩ = some (.float .f32 (sumTo (fun _ => fed) N)) := (cell_of_row _ _ (0) _ _ _ hg12).trans (rfl)
  have c121 : w2.cell? ⟨g12, 1, none⟩ = some (.float .f32 (sumTo (prF r s t fed cov F) N)) := (cell_of_row _ _ (1) _ _ _ hg12).trans (rfl)
  have c122 : w2.cell? ⟨g12, 2, none⟩ = some (.float .f32 (sumTo (itF r s t fed cov F N) r.toNat)) := (cell_of_row _ _ (2) _ _ _ hg12).trans (rfl)
  have c150 : w2.cell? ⟨g15, 0, none⟩ = some (.float .f32 (sumTo (fun _ => fed) N)) := (cell_of_row _ _ (0) _ _ _ hg15).trans (rfl)
  have c151 : w2.cell? ⟨g15, 1, none⟩ = some (.float .f32 (sumTo (prF r s t fed cov F) N)) := (cell_of_row _ _ (1) _ _ _ hg15).trans (rfl)
  have c152 : w2.cell? ⟨g15, 2, none⟩ = some (.float .f32 (sumTo (itF r s t fed cov F N) r.toNat)) := (cell_of_row _ _ (2) _ _ _ hg15).trans (rfl)
  have hP1 := hP1'; clear hP1'
  have hP2 := hP2'; clear hP2'
  go_wp2_with (first | ((with_reducible refine at_load 28 ?_); refine wpList_load_part rfl 28 _ rfl _ 0 15 rfl _ _ _ _ (by first | (with_reducible assumption) | (with_reducible exact blk_new _ _ _ rfl) | (with_reducible exact chainN _ _ _ _) | (with_reducible exact chain1 (by assumption)) | (with_reducible exact old0 (by assumption) (by assumption)) | (with_reducible exact old1 (by assumption) (by assumption)) | (with_reducible exact new1 (by assumption))) Tryz.underlying28 rfl (by kernel_rfl) (by simp [row_size]) _ (row_all [_, _, _] 12 _) ?_) | ((with_reducible refine at_load 28 ?_); refine wpList_load_partg (by first | rfl | (simp only [hff]; rfl) | (go_simp; done)) 28 _ rfl _ 0 15 rfl _ _ _ _ (by first | (with_reducible assumption) | (with_reducible exact blk_new _ _ _ rfl) | (with_reducible exact chainN _ _ _ _) | (with_reducible exact chain1 (by assumption)) | (with_reducible exact old0 (by assumption) (by assumption)) | (with_reducible exact old1 (by assumption) (by assumption)) | (with_reducible exact new1 (by assumption))) Tryz.underlying28 rfl (by kernel_rfl) (by simp [row_size]) _ (row_all [_, _, _] 12 _) ?_) | ((with_reducible refine at_store 28 ?_); refine wpList_store_part rfl 28 _ _ rfl _ 0 _ rfl rfl _ _ (by first | (with_reducible assumption) | (with_reducible exact blk_new _ _ _ rfl) | (with_reducible exact chainN _ _ _ _) | (with_reducible exact chain1 (by assumption)) | (with_reducible exact old0 (by assumption) (by assumption)) | (with_reducible exact old1 (by assumption) (by assumption)) | (with_reducible exact new1 (by assumption))) (by rw [row_size]; kernel_rfl) (by simp [row_size]) (row_cells _ _ _ rfl) _ (row_over _ _ 12 _ _ (by simp)) ?_))
  refine (sameS (fun _ _ => rfl) _).mono ?_
  rintro e w3 ⟨rfl, hb⟩
  have hg5' : w3.heap[g5]? = some (.cells (train r s t F) 28 (0, 0)) := (by first | (with_reducible assumption) | (with_reducible exact blk_new _ _ _ rfl) | (with_reducible exact chainN _ _ _ _) | (with_reducible exact chain1 (by assumption)) | (with_reducible exact old0 (by assumption) (by assumption)) | (with_reducible exact old1 (by assumption) (by assumption)) | (with_reducible exact new1 (by assumption)))
  have hg9' : w3.heap[g9]? = some (.cells (train r s t F) 28 (0, 0)) := (by first | (with_reducible assumption) | (with_reducible exact blk_new _ _ _ rfl) | (with_reducible exact chainN _ _ _ _) | (with_reducible exact chain1 (by assumption)) | (with_reducible exact old0 (by assumption) (by assumption)) | (with_reducible exact old1 (by assumption) (by assumption)) | (with_reducible exact new1 (by assumption)))
  have hg11' : w3.heap[g11]? = some (.cells (train r s t (itF r s t fed cov F N)) 28 (0, 0)) := (by first | (with_reducible assumption) | (with_reducible exact blk_new _ _ _ rfl) | (with_reducible exact chainN _ _ _ _) | (with_reducible exact chain1 (by assumption)) | (with_reducible exact old0 (by assumption) (by assumption)) | (with_reducible exact old1 (by assumption) (by assumption)) | (with_reducible exact new1 (by assumption)))
  have hg12' : w3.heap[g12]? = some (.cells (#[.float .f32 (sumTo (fun _ => fed) N), .float .f32 (sumTo (prF r s t fed cov F) N), .float .f32 (sumTo (itF r s t fed cov F N) r.toNat)]) 36 (0, 0)) := (by first | (with_reducible assumption) | (with_reducible exact blk_new _ _ _ rfl) | (with_reducible exact chainN _ _ _ _) | (with_reducible exact chain1 (by assumption)) | (with_reducible exact old0 (by assumption) (by assumption)) | (with_reducible exact old1 (by assumption) (by assumption)) | (with_reducible exact new1 (by assumption)))
  have hg14' : w3.heap[g14]? = some (.cells (train r s t (itF r s t fed cov F N)) 28 (0, 0)) := (by first | (with_reducible assumption) | (with_reducible exact blk_new _ _ _ rfl) | (with_reducible exact chainN _ _ _ _) | (with_reducible exact chain1 (by assumption)) | (with_reducible exact old0 (by assumption) (by assumption)) | (with_reducible exact old1 (by assumption) (by assumption)) | (with_reducible exact new1 (by assumption)))
  have hg15' : w3.heap[g15]? = some (.cells (#[.float .f32 (sumTo (fun _ => fed) N), .float .f32 (sumTo (prF r s t fed cov F) N), .float .f32 (sumTo (itF r s t fed cov F N) r.toNat)]) 36 (0, 0)) := (by first | (with_reducible assumption) | (with_reducible exact blk_new _ _ _ rfl) | (with_reducible exact chainN _ _ _ _) | (with_reducible exact chain1 (by assumption)) | (with_reducible exact old0 (by assumption) (by assumption)) | (with_reducible exact old1 (by assumption) (by assumption)) | (with_reducible exact new1 (by assumption)))
  have hB' : Below w.heap.size w w3 := (by first | (with_reducible assumption) | (with_reducible exact bel0 (by assumption) (by assumption) hB.size) | (with_reducible exact bel1 (by assumption) (by assumption) hB.size) | (with_reducible exact belr hB hB.size))
  have hP1' : FltsAt w3 B1 ao1 N (prF r s t fed cov F) := flts_below (C := w2.heap.size) (by first | (with_reducible exact hb) | (with_reducible exact bel1 hb (Below.refl _ _) (Nat.le_refl _))) (by omega) hP1
  have hP2' : FltsAt w3 B2 ao2 N (prF r s t fed cov F) := flts_below (C := w2.heap.size) (by first | (with_reducible exact hb) | (with_reducible exact bel1 hb (Below.refl _ _) (Nat.le_refl _))) (by omega) hP2
  have hz3 := hb.size
  try simp at hz3
  clear hB hb hP1 hP2 hg5 hg9 hg11 hg12 hg14 hg15 c120 c121 c122 c150 c151 c152
  generalize hgz2 : w2.heap.size = z2 at *
  clear hgz2
  have hB := hB'; clear hB'
  have hg5 := hg5'; clear hg5'
  have hg9 := hg9'; clear hg9'
  have hg11 := hg11'; clear hg11'
  have hg12 := hg12'; clear hg12'
  have hg14 := hg14'; clear hg14'
  have hg15 := hg15'; clear hg15'
  have c120 : w3.cell? ⟨g12, 0, none⟩ = some (.float .f32 (sumTo (fun _ => fed) N)) := (cell_of_row _ _ (0) _ _ _ hg12).trans (rfl)
  have c121 : w3.cell? ⟨g12, 1, none⟩ = some (.float .f32 (sumTo (prF r s t fed cov F) N)) := (cell_of_row _ _ (1) _ _ _ hg12).trans (rfl)
  have c122 : w3.cell? ⟨g12, 2, none⟩ = some (.float .f32 (sumTo (itF r s t fed cov F N) r.toNat)) := (cell_of_row _ _ (2) _ _ _ hg12).trans (rfl)
  have c150 : w3.cell? ⟨g15, 0, none⟩ = some (.float .f32 (sumTo (fun _ => fed) N)) := (cell_of_row _ _ (0) _ _ _ hg15).trans (rfl)
  have c151 : w3.cell? ⟨g15, 1, none⟩ = some (.float .f32 (sumTo (prF r s t fed cov F) N)) := (cell_of_row _ _ (1) _ _ _ hg15).trans (rfl)
  have c152 : w3.cell? ⟨g15, 2, none⟩ = some (.float .f32 (sumTo (itF r s t fed cov F N) r.toNat)) := (cell_of_row _ _ (2) _ _ _ hg15).trans (rfl)
  have hP1 := hP1'; clear hP1'
  have hP2 := hP2'; clear hP2'
  clear hg9
  go_wp2_with (first | ((with_reducible refine at_load 28 ?_); refine wpList_load_part rfl 28 _ rfl _ 0 15 rfl _ _ _ _ (by first | (with_reducible assumption) | (with_reducible exact blk_new _ _ _ rfl) | (with_reducible exact chainN _ _ _ _) | (with_reducible exact chain1 (by assumption)) | (with_reducible exact old0 (by assumption) (by assumption)) | (with_reducible exact old1 (by assumption) (by assumption)) | (with_reducible exact new1 (by assumption))) Tryz.underlying28 rfl (by kernel_rfl) (by simp [row_size]) _ (row_all [_, _, _] 12 _) ?_) | ((with_reducible refine at_load 28 ?_); refine wpList_load_partg (by first | rfl | (simp only [hff]; rfl) | (go_simp; done)) 28 _ rfl _ 0 15 rfl _ _ _ _ (by first | (with_reducible assumption) | (with_reducible exact blk_new _ _ _ rfl) | (with_reducible exact chainN _ _ _ _) | (with_reducible exact chain1 (by assumption)) | (with_reducible exact old0 (by assumption) (by assumption)) | (with_reducible exact old1 (by assumption) (by assumption)) | (with_reducible exact new1 (by assumption))) Tryz.underlying28 rfl (by kernel_rfl) (by simp [row_size]) _ (row_all [_, _, _] 12 _) ?_) | ((with_reducible refine at_store 28 ?_); refine wpList_store_part rfl 28 _ _ rfl _ 0 _ rfl rfl _ _ (by first | (with_reducible assumption) | (with_reducible exact blk_new _ _ _ rfl) | (with_reducible exact chainN _ _ _ _) | (with_reducible exact chain1 (by assumption)) | (with_reducible exact old0 (by assumption) (by assumption)) | (with_reducible exact old1 (by assumption) (by assumption)) | (with_reducible exact new1 (by assumption))) (by rw [row_size]; kernel_rfl) (by simp [row_size]) (row_cells _ _ _ rfl) _ (row_over _ _ 12 _ _ (by simp)) ?_))
  refine (validIN hS _).mono ?_
  rintro e w4 ⟨rfl, hb⟩
  have hg5' : w4.heap[g5]? = some (.cells (train r s t F) 28 (0, 0)) := (by first | (with_reducible assumption) | (with_reducible exact blk_new _ _ _ rfl) | (with_reducible exact chainN _ _ _ _) | (with_reducible exact chain1 (by assumption)) | (with_reducible exact old0 (by assumption) (by assumption)) | (with_reducible exact old1 (by assumption) (by assumption)) | (with_reducible exact new1 (by assumption)))
  have hg11' : w4.heap[g11]? = some (.cells (train r s t (itF r s t fed cov F N)) 28 (0, 0)) := (by first | (with_reducible assumption) | (with_reducible exact blk_new _ _ _ rfl) | (with_reducible exact chainN _ _ _ _) | (with_reducible exact chain1 (by assumption)) | (with_reducible exact old0 (by assumption) (by assumption)) | (with_reducible exact old1 (by assumption) (by assumption)) | (with_reducible exact new1 (by assumption)))
  have hg12' : w4.heap[g12]? = some (.cells (#[.float .f32 (sumTo (fun _ => fed) N), .float .f32 (sumTo (prF r s t fed cov F) N), .float .f32 (sumTo (itF r s t fed cov F N) r.toNat)]) 36 (0, 0)) := (by first | (with_reducible assumption) | (with_reducible exact blk_new _ _ _ rfl) | (with_reducible exact chainN _ _ _ _) | (with_reducible exact chain1 (by assumption)) | (with_reducible exact old0 (by assumption) (by assumption)) | (with_reducible exact old1 (by assumption) (by assumption)) | (with_reducible exact new1 (by assumption)))
  have hg14' : w4.heap[g14]? = some (.cells (train r s t (itF r s t fed cov F N)) 28 (0, 0)) := (by first | (with_reducible assumption) | (with_reducible exact blk_new _ _ _ rfl) | (with_reducible exact chainN _ _ _ _) | (with_reducible exact chain1 (by assumption)) | (with_reducible exact old0 (by assumption) (by assumption)) | (with_reducible exact old1 (by assumption) (by assumption)) | (with_reducible exact new1 (by assumption)))
  have hg15' : w4.heap[g15]? = some (.cells (#[.float .f32 (sumTo (fun _ => fed) N), .float .f32 (sumTo (prF r s t fed cov F) N), .float .f32 (sumTo (itF r s t fed cov F N) r.toNat)]) 36 (0, 0)) := (by first | (with_reducible assumption) | (with_reducible exact blk_new _ _ _ rfl) | (with_reducible exact chainN _ _ _ _) | (with_reducible exact chain1 (by assumption)) | (with_reducible exact old0 (by assumption) (by assumption)) | (with_reducible exact old1 (by assumption) (by assumption)) | (with_reducible exact new1 (by assumption)))
  have hB' : Below w.heap.size w w4 := (by first | (with_reducible assumption) | (with_reducible exact bel0 (by assumption) (by assumption) hB.size) | (with_reducible exact bel1 (by assumption) (by assumption) hB.size) | (with_reducible exact belr hB hB.size))
  have hP1' : FltsAt w4 B1 ao1 N (prF r s t fed cov F) := flts_below (C := w3.heap.size) (by first | (with_reducible exact hb) | (with_reducible exact bel1 hb (Below.refl _ _) (Nat.le_refl _))) (by omega) hP1
  have hP2' : FltsAt w4 B2 ao2 N (prF r s t fed cov F) := flts_below (C := w3.heap.size) (by first | (with_reducible exact hb) | (with_reducible exact bel1 hb (Below.refl _ _) (Nat.le_refl _))) (by omega) hP2
  have hz4 := hb.size
  try simp at hz4
  clear hB hb hP1 hP2 hg5 hg11 hg12 hg14 hg15 c120 c121 c122 c150 c151 c152
  generalize hgz3 : w3.heap.size = z3 at *
  clear hgz3
  have hB := hB'; clear hB'
  have hg5 := hg5'; clear hg5'
  have hg11 := hg11'; clear hg11'
  have hg12 := hg12'; clear hg12'
  have hg14 := hg14'; clear hg14'
  have hg15 := hg15'; clear hg15'
  have c120 : w4.cell? ⟨g12, 0, none⟩ = some (.float .f32 (sumTo (fun _ => fed) N)) := (cell_of_row _ _ (0) _ _ _ hg12).trans (rfl)
  have c121 : w4.cell? ⟨g12, 1, none⟩ = some (.float .f32 (sumTo (prF r s t fed cov F) N)) := (cell_of_row _ _ (1) _ _ _ hg12).trans (rfl)
  have c122 : w4.cell? ⟨g12, 2, none⟩ = some (.float .f32 (sumTo (itF r s t fed cov F N) r.toNat)) := (cell_of_row _ _ (2) _ _ _ hg12).trans (rfl)
  have c150 : w4.cell? ⟨g15, 0, none⟩ = some (.float .f32 (sumTo (fun _ => fed) N)) := (cell_of_row _ _ (0) _ _ _ hg15).trans (rfl)
  have c151 : w4.cell? ⟨g15, 1, none⟩ = some (.float .f32 (sumTo (prF r s t fed cov F) N)) := (cell_of_row _ _ (1) _ _ _ hg15).trans (rfl)
  have c152 : w4.cell? ⟨g15, 2, none⟩ = some (.float .f32 (sumTo (itF r s t fed cov F N) r.toNat)) := (cell_of_row _ _ (2) _ _ _ hg15).trans (rfl)
  have hP1 := hP1'; clear hP1'
  have hP2 := hP2'; clear hP2'
  go_wp2_with (first | ((with_reducible refine at_load 28 ?_); refine wpList_load_part rfl 28 _ rfl _ 0 15 rfl _ _ _ _ (by first | (with_reducible assumption) | (with_reducible exact blk_new _ _ _ rfl) | (with_reducible exact chainN _ _ _ _) | (with_reducible exact chain1 (by assumption)) | (with_reducible exact old0 (by assumption) (by assumption)) | (with_reducible exact old1 (by assumption) (by assumption)) | (with_reducible exact new1 (by assumption))) Tryz.underlying28 rfl (by kernel_rfl) (by simp [row_size]) _ (row_all [_, _, _] 12 _) ?_) | ((with_reducible refine at_load 28 ?_); refine wpList_load_partg (by first | rfl | (simp only [hff]; rfl) | (go_simp; done)) 28 _ rfl _ 0 15 rfl _ _ _ _ (by first | (with_reducible assumption) | (with_reducible exact blk_new _ _ _ rfl) | (with_reducible exact chainN _ _ _ _) | (with_reducible exact chain1 (by assumption)) | (with_reducible exact old0 (by assumption) (by assumption)) | (with_reducible exact old1 (by assumption) (by assumption)) | (with_reducible exact new1 (by assumption))) Tryz.underlying28 rfl (by kernel_rfl) (by simp [row_size]) _ (row_all [_, _, _] 12 _) ?_) | ((with_reducible refine at_store 28 ?_); refine wpList_store_part rfl 28 _ _ rfl _ 0 _ rfl rfl _ _ (by first | (with_reducible assumption) | (with_reducible exact blk_new _ _ _ rfl) | (with_reducible exact chainN _ _ _ _) | (with_reducible exact chain1 (by assumption)) | (with_reducible exact old0 (by assumption) (by assumption)) | (with_reducible exact old1 (by assumption) (by assumption)) | (with_reducible exact new1 (by assumption))) (by rw [row_size]; kernel_rfl) (by simp [row_size]) (row_cells _ _ _ rfl) _ (row_over _ _ 12 _ _ (by simp)) ?_))
  refine (sameS (fun _ _ => rfl) _).mono ?_
  rintro e w5 ⟨rfl, hb⟩
  have hg5' : w5.heap[g5]? = some (.cells (train r s t F) 28 (0, 0)) := (by first | (with_reducible assumption) | (with_reducible exact blk_new _ _ _ rfl) | (with_reducible exact chainN _ _ _ _) | (with_reducible exact chain1 (by assumption)) | (with_reducible exact old0 (by assumption) (by assumption)) | (with_reducible exact old1 (by assumption) (by assumption)) | (with_reducible exact new1 (by assumption)))
  have hg11' : w5.heap[g11]? = some (.cells (train r s t (itF r s t fed cov F N)) 28 (0, 0)) := (by first | (with_reducible assumption) | (with_reducible exact blk_new _ _ _ rfl) | (with_reducible exact chainN _ _ _ _) | (with_reducible exact chain1 (by assumption)) | (with_reducible exact old0 (by assumption) (by assumption)) | (with_reducible exact old1 (by assumption) (by assumption)) | (with_reducible exact new1 (by assumption)))
  have hg12' : w5.heap[g12]? = some (.cells (#[.float .f32 (sumTo (fun _ => fed) N), .float .f32 (sumTo (prF r s t fed cov F) N), .float .f32 (sumTo (itF r s t fed cov F N) r.toNat)]) 36 (0, 0)) := (by first | (with_reducible assumption) | (with_reducible exact blk_new _ _ _ rfl) | (with_reducible exact chainN _ _ _ _) | (with_reducible exact chain1 (by assumption)) | (with_reducible exact old0 (by assumption) (by assumption)) | (with_reducible exact old1 (by assumption) (by assumption)) | (with_reducible exact new1 (by assumption)))
  have hg14' : w5.heap[g14]? = some (.cells (train r s t (itF r s t fed cov F N)) 28 (0, 0)) := (by first | (with_reducible assumption) | (with_reducible exact blk_new _ _ _ rfl) | (with_reducible exact chainN _ _ _ _) | (with_reducible exact chain1 (by assumption)) | (with_reducible exact old0 (by assumption) (by assumption)) | (with_reducible exact old1 (by assumption) (by assumption)) | (with_reducible exact new1 (by assumption)))
  have hg15' : w5.heap[g15]? = some (.cells (#[.float .f32 (sumTo (fun _ => fed) N), .float .f32 (sumTo (prF r s t fed cov F) N), .float .f32 (sumTo (itF r s t fed cov F N) r.toNat)]) 36 (0, 0)) := (by first | (with_reducible assumption) | (with_reducible exact blk_new _ _ _ rfl) | (with_reducible exact chainN _ _ _ _) | (with_reducible exact chain1 (by assumption)) | (with_reducible exact old0 (by assumption) (by assumption)) | (with_reducible exact old1 (by assumption) (by assumption)) | (with_reducible exact new1 (by assumption)))
  have hB' : Below w.heap.size w w5 := (by first | (with_reducible assumption) | (with_reducible exact bel0 (by assumption) (by assumption) hB.size) | (with_reducible exact bel1 (by assumption) (by assumption) hB.size) | (with_reducible exact belr hB hB.size))
  have hP1' : FltsAt w5 B1 ao1 N (prF r s t fed cov F) := flts_below (C := w4.heap.size) (by first | (with_reducible exact hb) | (with_reducible exact bel1 hb (Below.refl _ _) (Nat.le_refl _))) (by omega) hP1
  have hP2' : FltsAt w5 B2 ao2 N (prF r s t fed cov F) := flts_below (C := w4.heap.size) (by first | (with_reducible exact hb) | (with_reducible exact bel1 hb (Below.refl _ _) (Nat.le_refl _))) (by omega) hP2
  have hz5 := hb.size
  try simp at hz5
  clear hB hb hP1 hP2 hg5 hg11 hg12 hg14 hg15 c120 c121 c122 c150 c151 c152
  generalize hgz4 : w4.heap.size = z4 at *
  clear hgz4
  have hB := hB'; clear hB'
  have hg5 := hg5'; clear hg5'
  have hg11 := hg11'; clear hg11'
  have hg12 := hg12'; clear hg12'
  have hg14 := hg14'; clear hg14'
  have hg15 := hg15'; clear hg15'
  have c120 : w5.cell? ⟨g12, 0, none⟩ = some (.float .f32 (sumTo (fun _ => fed) N)) := (cell_of_row _ _ (0) _ _ _ hg12).trans (rfl)
  have c121 : w5.cell? ⟨g12, 1, none⟩ = some (.float .f32 (sumTo (prF r s t fed cov F) N)) := (cell_of_row _ _ (1) _ _ _ hg12).trans (rfl)
  have c122 : w5.cell? ⟨g12, 2, none⟩ = some (.float .f32 (sumTo (itF r s t fed cov F N) r.toNat)) := (cell_of_row _ _ (2) _ _ _ hg12).trans (rfl)
  have c150 : w5.cell? ⟨g15, 0, none⟩ = some (.float .f32 (sumTo (fun _ => fed) N)) := (cell_of_row _ _ (0) _ _ _ hg15).trans (rfl)
  have c151 : w5.cell? ⟨g15, 1, none⟩ = some (.float .f32 (sumTo (prF r s t fed cov F) N)) := (cell_of_row _ _ (1) _ _ _ hg15).trans (rfl)
  have c152 : w5.cell? ⟨g15, 2, none⟩ = some (.float .f32 (sumTo (itF r s t fed cov F N) r.toNat)) := (cell_of_row _ _ (2) _ _ _ hg15).trans (rfl)
  have hP1 := hP1'; clear hP1'
  have hP2 := hP2'; clear hP2'
  clear hg11
  go_wp2_with (first | ((with_reducible refine at_load 28 ?_); refine wpList_load_part rfl 28 _ rfl _ 0 15 rfl _ _ _ _ (by first | (with_reducible assumption) | (with_reducible exact blk_new _ _ _ rfl) | (with_reducible exact chainN _ _ _ _) | (with_reducible exact chain1 (by assumption)) | (with_reducible exact old0 (by assumption) (by assumption)) | (with_reducible exact old1 (by assumption) (by assumption)) | (with_reducible exact new1 (by assumption))) Tryz.underlying28 rfl (by kernel_rfl) (by simp [row_size]) _ (row_all [_, _, _] 12 _) ?_) | ((with_reducible refine at_load 28 ?_); refine wpList_load_partg (by first | rfl | (simp only [hff]; rfl) | (go_simp; done)) 28 _ rfl _ 0 15 rfl _ _ _ _ (by first | (with_reducible assumption) | (with_reducible exact blk_new _ _ _ rfl) | (with_reducible exact chainN _ _ _ _) | (with_reducible exact chain1 (by assumption)) | (with_reducible exact old0 (by assumption) (by assumption)) | (with_reducible exact old1 (by assumption) (by assumption)) | (with_reducible exact new1 (by assumption))) Tryz.underlying28 rfl (by kernel_rfl) (by simp [row_size]) _ (row_all [_, _, _] 12 _) ?_) | ((with_reducible refine at_store 28 ?_); refine wpList_store_part rfl 28 _ _ rfl _ 0 _ rfl rfl _ _ (by first | (with_reducible assumption) | (with_reducible exact blk_new _ _ _ rfl) | (with_reducible exact chainN _ _ _ _) | (with_reducible exact chain1 (by assumption)) | (with_reducible exact old0 (by assumption) (by assumption)) | (with_reducible exact old1 (by assumption) (by assumption)) | (with_reducible exact new1 (by assumption))) (by rw [row_size]; kernel_rfl) (by simp [row_size]) (row_cells _ _ _ rfl) _ (row_over _ _ 12 _ _ (by simp)) ?_))
  refine (sameNum_b _ _).mono ?_
  rintro e w6 ⟨rfl, hb⟩
  have hg5' : w6.heap[g5]? = some (.cells (train r s t F) 28 (0, 0)) := (by first | (with_reducible assumption) | (with_reducible exact blk_new _ _ _ rfl) | (with_reducible exact chainN _ _ _ _) | (with_reducible exact chain1 (by assumption)) | (with_reducible exact old0 (by assumption) (by assumption)) | (with_reducible exact old1 (by assumption) (by assumption)) | (with_reducible exact new1 (by assumption)))
  have hg12' : w6.heap[g12]? = some (.cells (#[.float .f32 (sumTo (fun _ => fed) N), .float .f32 (sumTo (prF r s t fed cov F) N), .float .f32 (sumTo (itF r s t fed cov F N) r.toNat)]) 36 (0, 0)) := (by first | (with_reducible assumption) | (with_reducible exact blk_new _ _ _ rfl) | (with_reducible exact chainN _ _ _ _) | (with_reducible exact chain1 (by assumption)) | (with_reducible exact old0 (by assumption) (by assumption)) | (with_reducible exact old1 (by assumption) (by assumption)) | (with_reducible exact new1 (by assumption)))
  have hg14' : w6.heap[g14]? = some (.cells (train r s t (itF r s t fed cov F N)) 28 (0, 0)) := (by first | (with_reducible assumption) | (with_reducible exact blk_new _ _ _ rfl) | (with_reducible exact chainN _ _ _ _) | (with_reducible exact chain1 (by assumption)) | (with_reducible exact old0 (by assumption) (by assumption)) | (with_reducible exact old1 (by assumption) (by assumption)) | (with_reducible exact new1 (by assumption)))
  have hg15' : w6.heap[g15]? = some (.cells (#[.float .f32 (sumTo (fun _ => fed) N), .float .f32 (sumTo (prF r s t fed cov F) N), .float .f32 (sumTo (itF r s t fed cov F N) r.toNat)]) 36 (0, 0)) := (by first | (with_reducible assumption) | (with_reducible exact blk_new _ _ _ rfl) | (with_reducible exact chainN _ _ _ _) | (with_reducible exact chain1 (by assumption)) | (with_reducible exact old0 (by assumption) (by assumption)) | (with_reducible exact old1 (by assumption) (by assumption)) | (with_reducible exact new1 (by assumption)))
  have hB' : Below w.heap.size w w6 := (by first | (with_reducible assumption) | (with_reducible exact bel0 (by assumption) (by assumption) hB.size) | (with_reducible exact bel1 (by assumption) (by assumption) hB.size) | (with_reducible exact belr hB hB.size))
  have hP1' : FltsAt w6 B1 ao1 N (prF r s t fed cov F) := flts_below (C := w5.heap.size) (by first | (with_reducible exact hb) | (with_reducible exact bel1 hb (Below.refl _ _) (Nat.le_refl _))) (by omega) hP1
  have hP2' : FltsAt w6 B2 ao2 N (prF r s t fed cov F) := flts_below (C := w5.heap.size) (by first | (with_reducible exact hb) | (with_reducible exact bel1 hb (Below.refl _ _) (Nat.le_refl _))) (by omega) hP2
  have hz6 := hb.size
  try simp at hz6
  clear hB hb hP1 hP2 hg5 hg12 hg14 hg15 c120 c121 c122 c150 c151 c152
  generalize hgz5 : w5.heap.size = z5 at *
  clear hgz5
  have hB := hB'; clear hB'
  have hg5 := hg5'; clear hg5'
  have hg12 := hg12'; clear hg12'
  have hg14 := hg14'; clear hg14'
  have hg15 := hg15'; clear hg15'
  have c120 : w6.cell? ⟨g12, 0, none⟩ = some (.float .f32 (sumTo (fun _ => fed) N)) := (cell_of_row _ _ (0) _ _ _ hg12).trans (rfl)
  have c121 : w6.cell? ⟨g12, 1, none⟩ = some (.float .f32 (sumTo (prF r s t fed cov F) N)) := (cell_of_row _ _ (1) _ _ _ hg12).trans (rfl)
  have c122 : w6.cell? ⟨g12, 2, none⟩ = some (.float .f32 (sumTo (itF r s t fed cov F N) r.toNat)) := (cell_of_row _ _ (2) _ _ _ hg12).trans (rfl)
  have c150 : w6.cell? ⟨g15, 0, none⟩ = some (.float .f32 (sumTo (fun _ => fed) N)) := (cell_of_row _ _ (0) _ _ _ hg15).trans (rfl)
  have c151 : w6.cell? ⟨g15, 1, none⟩ = some (.float .f32 (sumTo (prF r s t fed cov F) N)) := (cell_of_row _ _ (1) _ _ _ hg15).trans (rfl)
  have c152 : w6.cell? ⟨g15, 2, none⟩ = some (.float .f32 (sumTo (itF r s t fed cov F N) r.toNat)) := (cell_of_row _ _ (2) _ _ _ hg15).trans (rfl)
  have hP1 := hP1'; clear hP1'
  have hP2 := hP2'; clear hP2'
  go_wp2_with (first | ((with_reducible refine at_load 28 ?_); refine wpList_load_part rfl 28 _ rfl _ 0 15 rfl _ _ _ _ (by first | (with_reducible assumption) | (with_reducible exact blk_new _ _ _ rfl) | (with_reducible exact chainN _ _ _ _) | (with_reducible exact chain1 (by assumption)) | (with_reducible exact old0 (by assumption) (by assumption)) | (with_reducible exact old1 (by assumption) (by assumption)) | (with_reducible exact new1 (by assumption))) Tryz.underlying28 rfl (by kernel_rfl) (by simp [row_size]) _ (row_all [_, _, _] 12 _) ?_) | ((with_reducible refine at_load 28 ?_); refine wpList_load_partg (by first | rfl | (simp only [hff]; rfl) | (go_simp; done)) 28 _ rfl _ 0 15 rfl _ _ _ _ (by first | (with_reducible assumption) | (with_reducible exact blk_new _ _ _ rfl) | (with_reducible exact chainN _ _ _ _) | (with_reducible exact chain1 (by assumption)) | (with_reducible exact old0 (by assumption) (by assumption)) | (with_reducible exact old1 (by assumption) (by assumption)) | (with_reducible exact new1 (by assumption))) Tryz.underlying28 rfl (by kernel_rfl) (by simp [row_size]) _ (row_all [_, _, _] 12 _) ?_) | ((with_reducible refine at_store 28 ?_); refine wpList_store_part rfl 28 _ _ rfl _ 0 _ rfl rfl _ _ (by first | (with_reducible assumption) | (with_reducible exact blk_new _ _ _ rfl) | (with_reducible exact chainN _ _ _ _) | (with_reducible exact chain1 (by assumption)) | (with_reducible exact old0 (by assumption) (by assumption)) | (with_reducible exact old1 (by assumption) (by assumption)) | (with_reducible exact new1 (by assumption))) (by rw [row_size]; kernel_rfl) (by simp [row_size]) (row_cells _ _ _ rfl) _ (row_over _ _ 12 _ _ (by simp)) ?_))
  refine (sameNum_b _ _).mono ?_
  rintro e w7 ⟨rfl, hb⟩
  have hg5' : w7.heap[g5]? = some (.cells (train r s t F) 28 (0, 0)) := (by first | (with_reducible assumption) | (with_reducible exact blk_new _ _ _ rfl) | (with_reducible exact chainN _ _ _ _) | (with_reducible exact chain1 (by assumption)) | (with_reducible exact old0 (by assumption) (by assumption)) | (with_reducible exact old1 (by assumption) (by assumption)) | (with_reducible exact new1 (by assumption)))
  have hg12' : w7.heap[g12]? = some (.cells (#[.float .f32 (sumTo (fun _ => fed) N), .float .f32 (sumTo (prF r s t fed cov F) N), .float .f32 (sumTo (itF r s t fed cov F N) r.toNat)]) 36 (0, 0)) := (by first | (with_reducible assumption) | (with_reducible exact blk_new _ _ _ rfl) | (with_reducible exact chainN _ _ _ _) | (with_reducible exact chain1 (by assumption)) | (with_reducible exact old0 (by assumption) (by assumption)) | (with_reducible exact old1 (by assumption) (by assumption)) | (with_reducible exact new1 (by assumption)))
  have hg14' : w7.heap[g14]? = some (.cells (train r s t (itF r s t fed cov F N)) 28 (0, 0)) := (by first | (with_reducible assumption) | (with_reducible exact blk_new _ _ _ rfl) | (with_reducible exact chainN _ _ _ _) | (with_reducible exact chain1 (by assumption)) | (with_reducible exact old0 (by assumption) (by assumption)) | (with_reducible exact old1 (by assumption) (by assumption)) | (with_reducible exact new1 (by assumption)))
  have hg15' : w7.heap[g15]? = some (.cells (#[.float .f32 (sumTo (fun _ => fed) N), .float .f32 (sumTo (prF r s t fed cov F) N), .float .f32 (sumTo (itF r s t fed cov F N) r.toNat)]) 36 (0, 0)) := (by first | (with_reducible assumption) | (with_reducible exact blk_new _ _ _ rfl) | (with_reducible exact chainN _ _ _ _) | (with_reducible exact chain1 (by assumption)) | (with_reducible exact old0 (by assumption) (by assumption)) | (with_reducible exact old1 (by assumption) (by assumption)) | (with_reducible exact new1 (by assumption)))
  have hB' : Below w.heap.size w w7 := (by first | (with_reducible assumption) | (with_reducible exact bel0 (by assumption) (by assumption) hB.size) | (with_reducible exact bel1 (by assumption) (by assumption) hB.size) | (with_reducible exact belr hB hB.size))
  have hP1' : FltsAt w7 B1 ao1 N (prF r s t fed cov F) := flts_below (C := w6.heap.size) (by first | (with_reducible exact hb) | (with_reducible exact bel1 hb (Below.refl _ _) (Nat.le_refl _))) (by omega) hP1
  have hP2' : FltsAt w7 B2 ao2 N (prF r s t fed cov F) := flts_below (C := w6.heap.size) (by first | (with_reducible exact hb) | (with_reducible exact bel1 hb (Below.refl _ _) (Nat.le_refl _))) (by omega) hP2
  have hz7 := hb.size
  try simp at hz7
  clear hB hb hP1 hP2 hg5 hg12 hg14 hg15 c120 c121 c122 c150 c151 c152
  generalize hgz6 : w6.heap.size = z6 at *
  clear hgz6
  have hB := hB'; clear hB'
  have hg5 := hg5'; clear hg5'
  have hg12 := hg12'; clear hg12'
  have hg14 := hg14'; clear hg14'
  have hg15 := hg15'; clear hg15'
  have c120 : w7.cell? ⟨g12, 0, none⟩ = some (.float .f32 (sumTo (fun _ => fed) N)) := (cell_of_row _ _ (0) _ _ _ hg12).trans (rfl)
  have c121 : w7.cell? ⟨g12, 1, none⟩ = some (.float .f32 (sumTo (prF r s t fed cov F) N)) := (cell_of_row _ _ (1) _ _ _ hg12).trans (rfl)
  have c122 : w7.cell? ⟨g12, 2, none⟩ = some (.float .f32 (sumTo (itF r s t fed cov F N) r.toNat)) := (cell_of_row _ _ (2) _ _ _ hg12).trans (rfl)
  have c150 : w7.cell? ⟨g15, 0, none⟩ = some (.float .f32 (sumTo (fun _ => fed) N)) := (cell_of_row _ _ (0) _ _ _ hg15).trans (rfl)
  have c151 : w7.cell? ⟨g15, 1, none⟩ = some (.float .f32 (sumTo (prF r s t fed cov F) N)) := (cell_of_row _ _ (1) _ _ _ hg15).trans (rfl)
  have c152 : w7.cell? ⟨g15, 2, none⟩ = some (.float .f32 (sumTo (itF r s t fed cov F N) r.toNat)) := (cell_of_row _ _ (2) _ _ _ hg15).trans (rfl)
  have hP1 := hP1'; clear hP1'
  have hP2 := hP2'; clear hP2'
  go_wp2_with (first | ((with_reducible refine at_load 28 ?_); refine wpList_load_part rfl 28 _ rfl _ 0 15 rfl _ _ _ _ (by first | (with_reducible assumption) | (with_reducible exact blk_new _ _ _ rfl) | (with_reducible exact chainN _ _ _ _) | (with_reducible exact chain1 (by assumption)) | (with_reducible exact old0 (by assumption) (by assumption)) | (with_reducible exact old1 (by assumption) (by assumption)) | (with_reducible exact new1 (by assumption))) Tryz.underlying28 rfl (by kernel_rfl) (by simp [row_size]) _ (row_all [_, _, _] 12 _) ?_) | ((with_reducible refine at_load 28 ?_); refine wpList_load_partg (by first | rfl | (simp only [hff]; rfl) | (go_simp; done)) 28 _ rfl _ 0 15 rfl _ _ _ _ (by first | (with_reducible assumption) | (with_reducible exact blk_new _ _ _ rfl) | (with_reducible exact chainN _ _ _ _) | (with_reducible exact chain1 (by assumption)) | (with_reducible exact old0 (by assumption) (by assumption)) | (with_reducible exact old1 (by assumption) (by assumption)) | (with_reducible exact new1 (by assumption))) Tryz.underlying28 rfl (by kernel_rfl) (by simp [row_size]) _ (row_all [_, _, _] 12 _) ?_) | ((with_reducible refine at_store 28 ?_); refine wpList_store_part rfl 28 _ _ rfl _ 0 _ rfl rfl _ _ (by first | (with_reducible assumption) | (with_reducible exact blk_new _ _ _ rfl) | (with_reducible exact chainN _ _ _ _) | (with_reducible exact chain1 (by assumption)) | (with_reducible exact old0 (by assumption) (by assumption)) | (with_reducible exact old1 (by assumption) (by assumption)) | (with_reducible exact new1 (by assumption))) (by rw [row_size]; kernel_rfl) (by simp [row_size]) (row_cells _ _ _ rfl) _ (row_over _ _ 12 _ _ (by simp)) ?_))
  refine (sameNum_b _ _).mono ?_
  rintro e w8 ⟨rfl, hb⟩
  have hg5' : w8.heap[g5]? = some (.cells (train r s t F) 28 (0, 0)) := (by first | (with_reducible assumption) | (with_reducible exact blk_new _ _ _ rfl) | (with_reducible exact chainN _ _ _ _) | (with_reducible exact chain1 (by assumption)) | (with_reducible exact old0 (by assumption) (by assumption)) | (with_reducible exact old1 (by assumption) (by assumption)) | (with_reducible exact new1 (by assumption)))
  have hg12' : w8.heap[g12]? = some (.cells (#[.float .f32 (sumTo (fun _ => fed) N), .float .f32 (sumTo (prF r s t fed cov F) N), .float .f32 (sumTo (itF r s t fed cov F N) r.toNat)]) 36 (0, 0)) := (by first | (with_reducible assumption) | (with_reducible exact blk_new _ _ _ rfl) | (with_reducible exact chainN _ _ _ _) | (with_reducible exact chain1 (by assumption)) | (with_reducible exact old0 (by assumption) (by assumption)) | (with_reducible exact old1 (by assumption) (by assumption)) | (with_reducible exact new1 (by assumption)))
  have hg14' : w8.heap[g14]? = some (.cells (train r s t (itF r s t fed cov F N)) 28 (0, 0)) := (by first | (with_reducible assumption) | (with_reducible exact blk_new _ _ _ rfl) | (with_reducible exact chainN _ _ _ _) | (with_reducible exact chain1 (by assumption)) | (with_reducible exact old0 (by assumption) (by assumption)) | (with_reducible exact old1 (by assumption) (by assumption)) | (with_reducible exact new1 (by assumption)))
  have hg15' : w8.heap[g15]? = some (.cells (#[.float .f32 (sumTo (fun _ => fed) N), .float .f32 (sumTo (prF r s t fed cov F) N), .float .f32 (sumTo (itF r s t fed cov F N) r.toNat)]) 36 (0, 0)) := (by first | (with_reducible assumption) | (with_reducible exact blk_new _ _ _ rfl) | (with_reducible exact chainN _ _ _ _) | (with_reducible exact chain1 (by assumption)) | (with_reducible exact old0 (by assumption) (by assumption)) | (with_reducible exact old1 (by assumption) (by assumption)) | (with_reducible exact new1 (by assumption)))
  have hB' : Below w.heap.size w w8 := (by first | (with_reducible assumption) | (with_reducible exact bel0 (by assumption) (by assumption) hB.size) | (with_reducible exact bel1 (by assumption) (by assumption) hB.size) | (with_reducible exact belr hB hB.size))
  have hP1' : FltsAt w8 B1 ao1 N (prF r s t fed cov F) := flts_below (C := w7.heap.size) (by first | (with_reducible exact hb) | (with_reducible exact bel1 hb (Below.refl _ _) (Nat.le_refl _))) (by omega) hP1
  have hP2' : FltsAt w8 B2 ao2 N (prF r s t fed cov F) := flts_below (C := w7.heap.size) (by first | (with_reducible exact hb) | (with_reducible exact bel1 hb (Below.refl _ _) (Nat.le_refl _))) (by omega) hP2
  have hz8 := hb.size
  try simp at hz8
  clear hB hb hP1 hP2 hg5 hg12 hg14 hg15 c120 c121 c122 c150 c151 c152
  generalize hgz7 : w7.heap.size = z7 at *
  clear hgz7
  have hB := hB'; clear hB'
  have hg5 := hg5'; clear hg5'
  have hg12 := hg12'; clear hg12'
  have hg14 := hg14'; clear hg14'
  have hg15 := hg15'; clear hg15'
  have c120 : w8.cell? ⟨g12, 0, none⟩ = some (.float .f32 (sumTo (fun _ => fed) N)) := (cell_of_row _ _ (0) _ _ _ hg12).trans (rfl)
  have c121 : w8.cell? ⟨g12, 1, none⟩ = some (.float .f32 (sumTo (prF r s t fed cov F) N)) := (cell_of_row _ _ (1) _ _ _ hg12).trans (rfl)
  have c122 : w8.cell? ⟨g12, 2, none⟩ = some (.float .f32 (sumTo (itF r s t fed cov F N) r.toNat)) := (cell_of_row _ _ (2) _ _ _ hg12).trans (rfl)
  have c150 : w8.cell? ⟨g15, 0, none⟩ = some (.float .f32 (sumTo (fun _ => fed) N)) := (cell_of_row _ _ (0) _ _ _ hg15).trans (rfl)
  have c151 : w8.cell? ⟨g15, 1, none⟩ = some (.float .f32 (sumTo (prF r s t fed cov F) N)) := (cell_of_row _ _ (1) _ _ _ hg15).trans (rfl)
  have c152 : w8.cell? ⟨g15, 2, none⟩ = some (.float .f32 (sumTo (itF r s t fed cov F N) r.toNat)) := (cell_of_row _ _ (2) _ _ _ hg15).trans (rfl)
  have hP1 := hP1'; clear hP1'
  have hP2 := hP2'; clear hP2'
  go_wp2_with (first | ((with_reducible refine at_load 28 ?_); refine wpList_load_part rfl 28 _ rfl _ 0 15 rfl _ _ _ _ (by first | (with_reducible assumption) | (with_reducible exact blk_new _ _ _ rfl) | (with_reducible exact chainN _ _ _ _) | (with_reducible exact chain1 (by assumption)) | (with_reducible exact old0 (by assumption) (by assumption)) | (with_reducible exact old1 (by assumption) (by assumption)) | (with_reducible exact new1 (by assumption))) Tryz.underlying28 rfl (by kernel_rfl) (by simp [row_size]) _ (row_all [_, _, _] 12 _) ?_) | ((with_reducible refine at_load 28 ?_); refine wpList_load_partg (by first | rfl | (simp only [hff]; rfl) | (go_simp; done)) 28 _ rfl _ 0 15 rfl _ _ _ _ (by first | (with_reducible assumption) | (with_reducible exact blk_new _ _ _ rfl) | (with_reducible exact chainN _ _ _ _) | (with_reducible exact chain1 (by assumption)) | (with_reducible exact old0 (by assumption) (by assumption)) | (with_reducible exact old1 (by assumption) (by assumption)) | (with_reducible exact new1 (by assumption))) Tryz.underlying28 rfl (by kernel_rfl) (by simp [row_size]) _ (row_all [_, _, _] 12 _) ?_) | ((with_reducible refine at_store 28 ?_); refine wpList_store_part rfl 28 _ _ rfl _ 0 _ rfl rfl _ _ (by first | (with_reducible assumption) | (with_reducible exact blk_new _ _ _ rfl) | (with_reducible exact chainN _ _ _ _) | (with_reducible exact chain1 (by assumption)) | (with_reducible exact old0 (by assumption) (by assumption)) | (with_reducible exact old1 (by assumption) (by assumption)) | (with_reducible exact new1 (by assumption))) (by rw [row_size]; kernel_rfl) (by simp [row_size]) (row_cells _ _ _ rfl) _ (row_over _ _ 12 _ _ (by simp)) ?_))
  refine (a2sameN_b hN hP1 hP2).mono ?_
  rintro e w9 ⟨rfl, hb⟩
  have hg5' : w9.heap[g5]? = some (.cells (train r s t F) 28 (0, 0)) := (by first | (with_reducible assumption) | (with_reducible exact blk_new _ _ _ rfl) | (with_reducible exact chainN _ _ _ _) | (with_reducible exact chain1 (by assumption)) | (with_reducible exact old0 (by assumption) (by assumption)) | (with_reducible exact old1 (by assumption) (by assumption)) | (with_reducible exact new1 (by assumption)))
  have hg12' : w9.heap[g12]? = some (.cells (#[.float .f32 (sumTo (fun _ => fed) N), .float .f32 (sumTo (prF r s t fed cov F) N), .float .f32 (sumTo (itF r s t fed cov F N) r.toNat)]) 36 (0, 0)) := (by first | (with_reducible assumption) | (with_reducible exact blk_new _ _ _ rfl) | (with_reducible exact chainN _ _ _ _) | (with_reducible exact chain1 (by assumption)) | (with_reducible exact old0 (by assumption) (by assumption)) | (with_reducible exact old1 (by assumption) (by assumption)) | (with_reducible exact new1 (by assumption)))
  have hg14' : w9.heap[g14]? = some (.cells (train r s t (itF r s t fed cov F N)) 28 (0, 0)) := (by first | (with_reducible assumption) | (with_reducible exact blk_new _ _ _ rfl) | (with_reducible exact chainN _ _ _ _) | (with_reducible exact chain1 (by assumption)) | (with_reducible exact old0 (by assumption) (by assumption)) | (with_reducible exact old1 (by assumption) (by assumption)) | (with_reducible exact new1 (by assumption)))
  have hg15' : w9.heap[g15]? = some (.cells (#[.float .f32 (sumTo (fun _ => fed) N), .float .f32 (sumTo (prF r s t fed cov F) N), .float .f32 (sumTo (itF r s t fed cov F N) r.toNat)]) 36 (0, 0)) := (by first | (with_reducible assumption) | (with_reducible exact blk_new _ _ _ rfl) | (with_reducible exact chainN _ _ _ _) | (with_reducible exact chain1 (by assumption)) | (with_reducible exact old0 (by assumption) (by assumption)) | (with_reducible exact old1 (by assumption) (by assumption)) | (with_reducible exact new1 (by assumption)))
  have hB' : Below w.heap.size w w9 := (by first | (with_reducible assumption) | (with_reducible exact bel0 (by assumption) (by assumption) hB.size) | (with_reducible exact bel1 (by assumption) (by assumption) hB.size) | (with_reducible exact belr hB hB.size))
  have hP1' : FltsAt w9 B1 ao1 N (prF r s t fed cov F) := flts_below (C := w8.heap.size) (by first | (with_reducible exact hb) | (with_reducible exact bel1 hb (Below.refl _ _) (Nat.le_refl _))) (by omega) hP1
  have hP2' : FltsAt w9 B2 ao2 N (prF r s t fed cov F) := flts_below (C := w8.heap.size) (by first | (with_reducible exact hb) | (with_reducible exact bel1 hb (Below.refl _ _) (Nat.le_refl _))) (by omega) hP2
  have hz9 := hb.size
  try simp at hz9
  clear hB hb hP1 hP2 hg5 hg12 hg14 hg15 c120 c121 c122 c150 c151 c152
  generalize hgz8 : w8.heap.size = z8 at *
  clear hgz8
  have hB := hB'; clear hB'
  have hg5 := hg5'; clear hg5'
  have hg12 := hg12'; clear hg12'
  have hg14 := hg14'; clear hg14'
  have hg15 := hg15'; clear hg15'
  have c120 : w9.cell? ⟨g12, 0, none⟩ = some (.float .f32 (sumTo (fun _ => fed) N)) := (cell_of_row _ _ (0) _ _ _ hg12).trans (rfl)
  have c121 : w9.cell? ⟨g12, 1, none⟩ = some (.float .f32 (sumTo (prF r s t fed cov F) N)) := (cell_of_row _ _ (1) _ _ _ hg12).trans (rfl)
  have c122 : w9.cell? ⟨g12, 2, none⟩ = some (.float .f32 (sumTo (itF r s t fed cov F N) r.toNat)) := (cell_of_row _ _ (2) _ _ _ hg12).trans (rfl)
  have c150 : w9.cell? ⟨g15, 0, none⟩ = some (.float .f32 (sumTo (fun _ => fed) N)) := (cell_of_row _ _ (0) _ _ _ hg15).trans (rfl)
  have c151 : w9.cell? ⟨g15, 1, none⟩ = some (.float .f32 (sumTo (prF r s t fed cov F) N)) := (cell_of_row _ _ (1) _ _ _ hg15).trans (rfl)
  have c152 : w9.cell? ⟨g15, 2, none⟩ = some (.float .f32 (sumTo (itF r s t fed cov F N) r.toNat)) := (cell_of_row _ _ (2) _ _ _ hg15).trans (rfl)
  have hP1 := hP1'; clear hP1'
  have hP2 := hP2'; clear hP2'
  have e1 := fun w => run_fadd (P := Tryz.prog) w 25 n1 n2
  have e2 := fun w => run_fadd (P := Tryz.prog) w 25 n3 n4
  go_wp2_with (first | ((with_reducible refine at_load 28 ?_); refine wpList_load_part rfl 28 _ rfl _ 0 15 rfl _ _ _ _ (by first | (with_reducible assumption) | (with_reducible exact blk_new _ _ _ rfl) | (with_reducible exact chainN _ _ _ _) | (with_reducible exact chain1 (by assumption)) | (with_reducible exact old0 (by assumption) (by assumption)) | (with_reducible exact old1 (by assumption) (by assumption)) | (with_reducible exact new1 (by assumption))) Tryz.underlying28 rfl (by kernel_rfl) (by simp [row_size]) _ (row_all [_, _, _] 12 _) ?_) | ((with_reducible refine at_load 28 ?_); refine wpList_load_partg (by first | rfl | (simp only [hff]; rfl) | (go_simp; done)) 28 _ rfl _ 0 15 rfl _ _ _ _ (by first | (with_reducible assumption) | (with_reducible exact blk_new _ _ _ rfl) | (with_reducible exact chainN _ _ _ _) | (with_reducible exact chain1 (by assumption)) | (with_reducible exact old0 (by assumption) (by assumption)) | (with_reducible exact old1 (by assumption) (by assumption)) | (with_reducible exact new1 (by assumption))) Tryz.underlying28 rfl (by kernel_rfl) (by simp [row_size]) _ (row_all [_, _, _] 12 _) ?_) | ((with_reducible refine at_store 28 ?_); refine wpList_store_part rfl 28 _ _ rfl _ 0 _ rfl rfl _ _ (by first | (with_reducible assumption) | (with_reducible exact blk_new _ _ _ rfl) | (with_reducible exact chainN _ _ _ _) | (with_reducible exact chain1 (by assumption)) | (with_reducible exact old0 (by assumption) (by assumption)) | (with_reducible exact old1 (by assumption) (by assumption)) | (with_reducible exact new1 (by assumption))) (by rw [row_size]; kernel_rfl) (by simp [row_size]) (row_cells _ _ _ rfl) _ (row_over _ _ 12 _ _ (by simp)) ?_))
  refine (near_b n5 n6 n7 (by decide) n8 _).mono ?_
  rintro e w10 ⟨rfl, hb⟩
  have hg5' : w10.heap[g5]? = some (.cells (train r s t F) 28 (0, 0)) := (by first | (with_reducible assumption) | (with_reducible exact blk_new _ _ _ rfl) | (with_reducible exact chainN _ _ _ _) | (with_reducible exact chain1 (by assumption)) | (with_reducible exact old0 (by assumption) (by assumption)) | (with_reducible exact old1 (by assumption) (by assumption)) | (with_reducible exact new1 (by assumption)))
  have hg12' : w10.heap[g12]? = some (.cells (#[.float .f32 (sumTo (fun _ => fed) N), .float .f32 (sumTo (prF r s t fed cov F) N), .float .f32 (sumTo (itF r s t fed cov F N) r.toNat)]) 36 (0, 0)) := (by first | (with_reducible assumption) | (with_reducible exact blk_new _ _ _ rfl) | (with_reducible exact chainN _ _ _ _) | (with_reducible exact chain1 (by assumption)) | (with_reducible exact old0 (by assumption) (by assumption)) | (with_reducible exact old1 (by assumption) (by assumption)) | (with_reducible exact new1 (by assumption)))
  have hg14' : w10.heap[g14]? = some (.cells (train r s t (itF r s t fed cov F N)) 28 (0, 0)) := (by first | (with_reducible assumption) | (with_reducible exact blk_new _ _ _ rfl) | (with_reducible exact chainN _ _ _ _) | (with_reducible exact chain1 (by assumption)) | (with_reducible exact old0 (by assumption) (by assumption)) | (with_reducible exact old1 (by assumption) (by assumption)) | (with_reducible exact new1 (by assumption)))
  have hg15' : w10.heap[g15]? = some (.cells (#[.float .f32 (sumTo (fun _ => fed) N), .float .f32 (sumTo (prF r s t fed cov F) N), .float .f32 (sumTo (itF r s t fed cov F N) r.toNat)]) 36 (0, 0)) := (by first | (with_reducible assumption) | (with_reducible exact blk_new _ _ _ rfl) | (with_reducible exact chainN _ _ _ _) | (with_reducible exact chain1 (by assumption)) | (with_reducible exact old0 (by assumption) (by assumption)) | (with_reducible exact old1 (by assumption) (by assumption)) | (with_reducible exact new1 (by assumption)))
  have hB' : Below w.heap.size w w10 := (by first | (with_reducible assumption) | (with_reducible exact bel0 (by assumption) (by assumption) hB.size) | (with_reducible exact bel1 (by assumption) (by assumption) hB.size) | (with_reducible exact belr hB hB.size))
  have hP1' : FltsAt w10 B1 ao1 N (prF r s t fed cov F) := flts_below (C := w9.heap.size) (by first | (with_reducible exact hb) | (with_reducible exact bel1 hb (Below.refl _ _) (Nat.le_refl _))) (by omega) hP1
  have hP2' : FltsAt w10 B2 ao2 N (prF r s t fed cov F) := flts_below (C := w9.heap.size) (by first | (with_reducible exact hb) | (with_reducible exact bel1 hb (Below.refl _ _) (Nat.le_refl _))) (by omega) hP2
  have hz10 := hb.size
  try simp at hz10
  clear hB hb hP1 hP2 hg5 hg12 hg14 hg15 c120 c121 c122 c150 c151 c152
  generalize hgz9 : w9.heap.size = z9 at *
  clear hgz9
  have hB := hB'; clear hB'
  have hg5 := hg5'; clear hg5'
  have hg12 := hg12'; clear hg12'
  have hg14 := hg14'; clear hg14'
  have hg15 := hg15'; clear hg15'
  have c120 : w10.cell? ⟨g12, 0, none⟩ = some (.float .f32 (sumTo (fun _ => fed) N)) := (cell_of_row _ _ (0) _ _ _ hg12).trans (rfl)
  have c121 : w10.cell? ⟨g12, 1, none⟩ = some (.float .f32 (sumTo (prF r s t fed cov F) N)) := (cell_of_row _ _ (1) _ _ _ hg12).trans (rfl)
  have c122 : w10.cell? ⟨g12, 2, none⟩ = some (.float .f32 (sumTo (itF r s t fed cov F N) r.toNat)) := (cell_of_row _ _ (2) _ _ _ hg12).trans (rfl)
  have c150 : w10.cell? ⟨g15, 0, none⟩ = some (.float .f32 (sumTo (fun _ => fed) N)) := (cell_of_row _ _ (0) _ _ _ hg15).trans (rfl)
  have c151 : w10.cell? ⟨g15, 1, none⟩ = some (.float .f32 (sumTo (prF r s t fed cov F) N)) := (cell_of_row _ _ (1) _ _ _ hg15).trans (rfl)
  have c152 : w10.cell? ⟨g15, 2, none⟩ = some (.float .f32 (sumTo (itF r s t fed cov F N) r.toNat)) := (cell_of_row _ _ (2) _ _ _ hg15).trans (rfl)
  have hP1 := hP1'; clear hP1'
  have hP2 := hP2'; clear hP2'
  go_wp2_with (fail)
  refine Met.intro ?_
  (repeat apply Exists.intro)
  refine ⟨⟨?_, hg5, hg14, hP2, hB, by omega⟩, rfl⟩
  first | rfl | (simp; done)
end Go.Proofs.YtkokekndiammpaaGreatDoor
