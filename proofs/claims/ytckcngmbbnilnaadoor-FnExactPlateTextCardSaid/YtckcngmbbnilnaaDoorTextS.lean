/- The text of a train, as the reference makes it. -/
import Derived.Test.YtckcngmbbnilnaaDoorTextQ
set_option linter.unusedVariables false
set_option linter.unusedSimpArgs false
namespace Go.Proofs.YtckcngmbbnilnaaDoor
open Go.RowKit Go.Lib

theorem norm_actS {Q : Exit → Act → World → Prop} {a a1 : Act} {w : World} (h : a = a1) (hq : Q .normal a1 w) : Q .normal a w := h ▸ hq

set_option maxHeartbeats 2000000 in
set_option maxRecDepth 100000 in
theorem specTrainTx (n s t : Nat) (F : Nat → Nat) (h2 : 2 ≤ n) (h12 : n ≤ 12) (hs : s < 2 ^ 32) (ht : t < 2 ^ 32) (hF : ∀ i, i < 12 → F i < 2 ^ 32) (w : World) (B : Nat) (hB : w.heap[B]? = some (.cells (train n s t F) 30 (0, 0))) :
    Calls Tryd.prog 32 #[.pointer (some ⟨B, 0, none⟩)] w fun e w' => e = .returned (.string ⟨(trainTx n s t F).toArray⟩) ∧ Below w.heap.size w w' := by
  have c0 : w.cell? ⟨B, 0, none⟩ = some (.int .i8 n) := (cell_of_row w B 0 _ _ _ hB).trans rfl
  have c1 : w.cell? ⟨B, 1, none⟩ = some (.float .f32 s) := (cell_of_row w B 1 _ _ _ hB).trans rfl
  have c2 : w.cell? ⟨B, 2, none⟩ = some (.float .f32 t) := (cell_of_row w B 2 _ _ _ hB).trans rfl
  have c3 : ∀ k, k < 12 → w.cell? ⟨B, 3 + k, none⟩ = some (.float .f32 (F k)) := fun k hk => (cell_of_row w B (3 + k) _ _ _ hB).trans (row_k3 _ _ _ _ _ hk)
  have hBlt : B < w.heap.size := World.block_lt_of_cell? _ _ c0
  obtain ⟨D, hDe, hDz, hD⟩ : ∃ D : ByteArray, D = ⟨(Lib.decDigits n).toArray⟩ ∧ D.size ≤ 2 ∧ ∀ w, Calls Tryd.prog 66 #[.int .i64 n] w fun e w' => ∃ v, e = .returned v ∧ v = .string D ∧ Below w.heap.size w w' :=
    ⟨_, rfl, (dec_len n (by omega)).1, fun w => (decAny n (by omega) w).mono fun e w' ⟨h1, h2⟩ => ⟨_, h1, rfl, h2⟩⟩
  have hexC : ∀ x, x < 2 ^ 32 → ∃ S : ByteArray, S = ⟨(numText x).toArray⟩ ∧ S.size = 8 ∧ ∀ w, Calls Tryd.prog 26 #[.float .f32 x] w fun e w' => ∃ v, e = .returned v ∧ v = .string S ∧ Below w.heap.size w w' :=
    fun x hx => ⟨_, rfl, numText_length x, fun w => (specHex x hx w).mono fun e w' ⟨h1, h2⟩ => ⟨_, h1, rfl, h2⟩⟩
  have HX := Lib.hid hexC
  have C0 := Lib.hid c0
  have C3 := Lib.hid c3
  have HF := Lib.hid hF
  obtain ⟨S1, hS1, z1, h1⟩ := hexC s hs
  obtain ⟨S2, hS2, z2, h2'⟩ := hexC t ht
  obtain ⟨BL, hBLe⟩ : ∃ BL : ByteArray, BL = ⟨#[32]⟩ := ⟨_, rfl⟩
  have zB : BL.size = 1 := by rw [hBLe]; rfl
  have l1 : D.size + BL.size ≤ maxLen := by unfold maxLen; omega
  have l2 : (D ++ BL).size + S1.size ≤ maxLen := by simp only [ByteArray.size_append]; unfold maxLen; omega
  have l3 : (D ++ BL ++ S1).size + BL.size ≤ maxLen := by simp only [ByteArray.size_append]; unfold maxLen; omega
  have l4 : (D ++ BL ++ S1 ++ BL).size + S2.size ≤ maxLen := by simp only [ByteArray.size_append]; unfold maxLen; omega
  have hT : (D ++ BL ++ S1 ++ BL ++ S2) = ⟨(Lib.decDigits n ++ (32 :: numText s) ++ (32 :: numText t)).toArray⟩ := by
    rw [hDe, hBLe, hS1, hS2, show (⟨#[32]⟩ : ByteArray) = ⟨[(32 : UInt8)].toArray⟩ from rfl, str_app, str_app, str_app, str_app]
    congr 2
    simp
  have hBB : w.heap.size ≤ w.heap.size := Nat.le_refl _
  have hK : KeptS w.heap.size w w w := KeptS.refl (Below.refl _ _)
  have n8 : IntKind.i64.wrap (n : Int) = n := by rw [IntKind.wrap_i64]; omega
  subst hBLe
  go_enter Tryd.func32, Tryd.ntmps32
  go_upto_region 1 with fail
  refine region_merge (fun a0 a' W' => a' = ({ tmps := ((Value.pointer (some ⟨B, 0, none⟩)) :: undef :: (Value.string { data := #[] }) :: (Value.string (D ++ ⟨#[32]⟩ ++ S1 ++ ⟨#[32]⟩ ++ S2)) :: undef :: (Value.pointer (some ⟨B, 0, none⟩)) :: (Value.pointer (some ⟨B, 0, none⟩)) :: (Value.pointer (some ⟨B, 0, none⟩)) :: (Value.int .i8 n) :: (Value.int .i64 n) :: (Value.string D) :: (Value.string (D ++ ⟨#[32]⟩)) :: (Value.pointer (some ⟨B, 0, none⟩)) :: (Value.pointer (some ⟨B, 0, none⟩)) :: (Value.pointer (some ⟨B, 1, none⟩)) :: (Value.float .f32 s) :: (Value.string S1) :: (Value.string (D ++ ⟨#[32]⟩ ++ S1)) :: (Value.string (D ++ ⟨#[32]⟩ ++ S1 ++ ⟨#[32]⟩)) :: (Value.pointer (some ⟨B, 0, none⟩)) :: (Value.pointer (some ⟨B, 0, none⟩)) :: (Value.pointer (some ⟨B, 2, none⟩)) :: (Value.float .f32 t) :: (Value.string S2) :: (Value.string (D ++ ⟨#[32]⟩ ++ S1 ++ ⟨#[32]⟩ ++ S2)) :: undef :: undef :: undef :: undef :: undef :: undef :: undef :: undef :: undef :: undef :: undef :: undef :: undef :: undef :: undef :: undef :: undef :: undef :: undef :: undef :: []).toArray, defers := [] } : Act) ∧ Below w.heap.size w W') ?_ ?_
  · refine wp_region_held_drew (S := fun w' => KeptS w.heap.size w w w') (by kernel_rfl) hK.drew (fun hS => ?_)
    refine held_yield 0 rfl rfl (by kernel_rfl) (by kernel_rfl) (by kernel_rfl) (fun _ _ _ _ h => nomatch h.1) (.pointer (some ⟨B, 0, none⟩)) (fun w' hw' => by (first | kernel_rfl | go_simp)) hS ?_
    refine held_yield 1 rfl rfl (by kernel_rfl) (by kernel_rfl) (by kernel_rfl) (fun _ _ _ _ h => nomatch h.1) (.pointer (some ⟨B, 0, none⟩)) (fun w' hw' => by (first | kernel_rfl | go_simp)) hS ?_
    refine held_yield 2 rfl rfl (by kernel_rfl) (by kernel_rfl) (by kernel_rfl) (fun _ _ _ _ h => nomatch h.1) (.pointer (some ⟨B, 0, none⟩)) (fun w' hw' => by go_simp) hS ?_
    refine held_yield 3 rfl rfl (by kernel_rfl) (by kernel_rfl) (by kernel_rfl) (fun _ _ _ _ h => nomatch h.1) (.int .i8 n) (fun w' hw' => by (have c := (hw'.cell (p := ⟨B, 0, none⟩) hBlt).trans c0; go_simp)) hS ?_
    refine held_yield 4 rfl rfl (by kernel_rfl) (by kernel_rfl) (by kernel_rfl) (fun _ _ _ _ h => nomatch h.1) (.int .i64 n) (fun w' hw' => by (go_simp)) hS ?_
    refine held_yield 7 rfl rfl (by kernel_rfl) (by kernel_rfl) (by kernel_rfl) (fun _ _ _ _ h => nomatch h.1) (.pointer (some ⟨B, 0, none⟩)) (fun w' hw' => by (first | kernel_rfl | go_simp)) hS ?_
    refine held_yield 8 rfl rfl (by kernel_rfl) (by kernel_rfl) (by kernel_rfl) (fun _ _ _ _ h => nomatch h.1) (.pointer (some ⟨B, 0, none⟩)) (fun w' hw' => by (first | kernel_rfl | go_simp)) hS ?_
    refine held_yield 9 rfl rfl (by kernel_rfl) (by kernel_rfl) (by kernel_rfl) (fun _ _ _ _ h => nomatch h.1) (.pointer (some ⟨B, 1, none⟩)) (fun w' hw' => by go_simp) hS ?_
    refine held_yield 10 rfl rfl (by kernel_rfl) (by kernel_rfl) (by kernel_rfl) (fun _ _ _ _ h => nomatch h.1) (.float .f32 s) (fun w' hw' => by (have c := (hw'.cell (p := ⟨B, 1, none⟩) hBlt).trans c1; go_simp)) hS ?_
    refine held_yield 14 rfl rfl (by kernel_rfl) (by kernel_rfl) (by kernel_rfl) (fun _ _ _ _ h => nomatch h.1) (.pointer (some ⟨B, 0, none⟩)) (fun w' hw' => by (first | kernel_rfl | go_simp)) hS ?_
    refine held_yield 15 rfl rfl (by kernel_rfl) (by kernel_rfl) (by kernel_rfl) (fun _ _ _ _ h => nomatch h.1) (.pointer (some ⟨B, 0, none⟩)) (fun w' hw' => by (first | kernel_rfl | go_simp)) hS ?_
    refine held_yield 16 rfl rfl (by kernel_rfl) (by kernel_rfl) (by kernel_rfl) (fun _ _ _ _ h => nomatch h.1) (.pointer (some ⟨B, 2, none⟩)) (fun w' hw' => by go_simp) hS ?_
    refine held_yield 17 rfl rfl (by kernel_rfl) (by kernel_rfl) (by kernel_rfl) (fun _ _ _ _ h => nomatch h.1) (.float .f32 t) (fun w' hw' => by (have c := (hw'.cell (p := ⟨B, 2, none⟩) hBlt).trans c2; go_simp)) hS ?_
    refine held_one 5 (by kernel_rfl) rfl rfl ?_
    with_reducible refine oper_call 66 #[.int .i64 n] ?he (hD _) (fun v0 W0 hR => ?_)
    case he => first | kernel_rfl | go_simp
    obtain ⟨rfl, hb0⟩ := hR
    have hk0 := hS.call hBB hb0
    have hs0 := hb0.size
    refine ⟨hk0, ?_⟩
    refine held_yield 6 rfl rfl (by kernel_rfl) (by kernel_rfl) (by kernel_rfl) (fun _ _ _ _ h => nomatch h.1) (.string (D ++ ⟨#[32]⟩)) (fun w' hw' => by exact exec_cat 9 9 (.tmp 10) (.const (.string ⟨#[32]⟩)) (by kernel_rfl) (D) (⟨#[32]⟩) (by kernel_rfl) (by kernel_rfl) l1 w') hk0 ?_
    refine held_one 11 (by kernel_rfl) rfl rfl ?_
    with_reducible refine oper_call 26 #[.float .f32 s] ?he (h1 _) (fun v0 W1 hR => ?_)
    case he => first | kernel_rfl | go_simp
    obtain ⟨rfl, hb1⟩ := hR
    have hk1 := hk0.call hBB hb1
    have hs1 := hb1.size
    refine ⟨hk1, ?_⟩
    refine held_yield 12 rfl rfl (by kernel_rfl) (by kernel_rfl) (by kernel_rfl) (fun _ _ _ _ h => nomatch h.1) (.string (D ++ ⟨#[32]⟩ ++ S1)) (fun w' hw' => by exact exec_cat 9 9 (.tmp 11) (.tmp 16) (by kernel_rfl) (D ++ ⟨#[32]⟩) (S1) (by kernel_rfl) (by kernel_rfl) l2 w') hk1 ?_
    refine held_yield 13 rfl rfl (by kernel_rfl) (by kernel_rfl) (by kernel_rfl) (fun _ _ _ _ h => nomatch h.1) (.string (D ++ ⟨#[32]⟩ ++ S1 ++ ⟨#[32]⟩)) (fun w' hw' => by exact exec_cat 9 9 (.tmp 17) (.const (.string ⟨#[32]⟩)) (by kernel_rfl) (D ++ ⟨#[32]⟩ ++ S1) (⟨#[32]⟩) (by kernel_rfl) (by kernel_rfl) l3 w') hk1 ?_
    refine held_one 18 (by kernel_rfl) rfl rfl ?_
    with_reducible refine oper_call 26 #[.float .f32 t] ?he (h2' _) (fun v0 W2 hR => ?_)
    case he => first | kernel_rfl | go_simp
    obtain ⟨rfl, hb2⟩ := hR
    have hk2 := hk1.call hBB hb2
    have hs2 := hb2.size
    refine ⟨hk2, ?_⟩
    refine held_yield 19 rfl rfl (by kernel_rfl) (by kernel_rfl) (by kernel_rfl) (fun _ _ _ _ h => nomatch h.1) (.string (D ++ ⟨#[32]⟩ ++ S1 ++ ⟨#[32]⟩ ++ S2)) (fun w' hw' => by exact exec_cat 9 9 (.tmp 18) (.tmp 23) (by kernel_rfl) (D ++ ⟨#[32]⟩ ++ S1 ++ ⟨#[32]⟩) (S2) (by kernel_rfl) (by kernel_rfl) l4 w') hk2 ?_
    refine held_yield 20 rfl rfl (by kernel_rfl) (by kernel_rfl) (by kernel_rfl) (fun _ _ _ _ h => nomatch h.1) (.string (D ++ ⟨#[32]⟩ ++ S1 ++ ⟨#[32]⟩ ++ S2)) (fun w' hw' => by (first | kernel_rfl | go_simp)) hk2 ?_
    refine wpAnyH_done (by kernel_rfl) ⟨rfl, by kernel_rfl, hk2.2.2⟩ _
  · rintro a' W' ⟨rfl, hb⟩
    have g0 : W'.cell? ⟨B, 0, none⟩ = some (.int .i8 n) := (hb.cell (p := ⟨B, 0, none⟩) hBlt).trans c0
    clear hD h1 h2' hexC c0 c1 c2 c3 hF hK hBB hDe hS1 hS2
    have HB0 := Lib.hid hb
    have HT := Lib.hid hT
    obtain ⟨A0, hA0⟩ : ∃ A0, A0 = D ++ ⟨#[32]⟩ ++ S1 ++ ⟨#[32]⟩ ++ S2 := ⟨_, rfl⟩
    rw [← hA0] at hT ⊢
    have HA0 := Lib.hid hT
    clear HT hA0 l1 l2 l3 l4 hb hT
    have zB1 : (⟨#[32]⟩ : ByteArray).size = 1 := rfl
    have hdl := dec_len n (by omega)
    go_wp2
    go_loopw [3, 4] (fun v i wr => ∃ (k : Nat) (A : ByteArray), k ≤ n ∧ i = .int .i64 k ∧ v = .string A ∧ Hid (A = ⟨(Lib.decDigits n ++ (32 :: numText s) ++ (32 :: numText t) ++ tailT F k).toArray⟩) ∧ Below w.heap.size w wr) (fun _ i _ => 13 - (RowKit.intOf i).toNat)
    case atStart => exact ⟨0, A0, by omega, rfl, rfl, Lib.hid (by rw [HA0.out]; simp [tailT]), HB0.out⟩
    case round =>
      clear HA0 HB0 g0
      obtain ⟨k, A, hk, rfl, rfl, hA, hb⟩ := hrel
      have g0 : wr.cell? ⟨B, 0, none⟩ = some (.int .i8 n) := (hb.cell (p := ⟨B, 0, none⟩) hBlt).trans C0.out
      have hsz := hb.size
      by_cases hlt : k < n
      · have gk : wr.cell? ⟨B, 3 + k, none⟩ = some (.float .f32 (F k)) := (hb.cell (p := ⟨B, 3 + k, none⟩) hBlt).trans (C3.out k (by omega))
        obtain ⟨S, hS, zS, hH⟩ := HX.out (F k) (HF.out k (by omega))
        have zA : A.size ≤ 200 := by
          have e := hA.out
          rw [e, size_of_list]
          simp only [List.length_append, List.length_cons, numText_length, tailT_length]
          omega
        obtain ⟨q, hq⟩ : ∃ q, A.size = q := ⟨_, rfl⟩
        have hq2 : q ≤ 200 := by omega
        have HN : Hid (A ++ (⟨#[32]⟩ ++ S) = ⟨(Lib.decDigits n ++ (32 :: numText s) ++ (32 :: numText t) ++ tailT F (k + 1)).toArray⟩) := Lib.hid (by
          rw [hA.out, hS, show (⟨#[32]⟩ : ByteArray) = ⟨[(32 : UInt8)].toArray⟩ from rfl, str_app, str_app]
          congr 2
          simp [tailT])
        have z9 : (⟨#[32]⟩ ++ S : ByteArray).size = 9 := by rw [ByteArray.size_append, zS, zB1]
        have i1 : (k : Int) < n := by omega
        have i2 : (k : Int) < 12 := by omega
        have HB := Lib.hid hb
        clear hA hS zA hb
        generalize F k = x at gk hH
        go_wp2_with (go_at_call 26; with_reducible refine (hH _).mono ?_; rintro e w1 ⟨v, rfl, rfl, hb1⟩)
        go_roundw
        case rel =>
          exact ⟨k + 1, _, by omega, by first | rfl | go_num, rfl, HN, HB.out.trans (hb1.mono hsz)⟩
        case measure => simp [RowKit.intOf]; omega
      · obtain rfl : k = n := by omega
        go_wp2
        go_ret
        exact ⟨by rw [hA.out]; rfl, hb⟩
end Go.Proofs.YtckcngmbbnilnaaDoor
