/- The text of a plate, as the reference makes it. -/
import Derived.Test.YtckcngmbbnilnaaDoorPlateP
set_option linter.unusedVariables false
set_option linter.unusedSimpArgs false
namespace Go.Proofs.YtckcngmbbnilnaaDoor
open Go.RowKit Go.Lib

set_option maxHeartbeats 2000000 in
set_option maxRecDepth 100000 in
theorem specBare (a b : Nat) (F : Nat → Nat) (ha : a < 9) (hb : b < 9) (hz : ∀ i, i < 64 → isC a b i = false → F i = 0 ∨ F i = 2147483648) (w : World) (B : Nat) (hB : w.heap[B]? = some (.cells (plate a b F) 39 (0, 0))) :
    Calls Tryd.prog 39 #[.pointer (some ⟨B, 0, none⟩)] w fun e w' => e = .returned (.bool (bareTo a b F 64)) ∧ w = w' := by
  have c0 : w.cell? ⟨B, 0, none⟩ = some (.int .i8 a) := (cell_of_row w B 0 _ _ _ hB).trans rfl
  have c1 : w.cell? ⟨B, 1, none⟩ = some (.int .i8 b) := (cell_of_row w B 1 _ _ _ hB).trans rfl
  have c2 : ∀ k, k < 64 → w.cell? ⟨B, 2 + k, none⟩ = some (.float .f32 (F k)) := fun k hk => (cell_of_row w B (2 + k) _ _ _ hB).trans (row_k2 _ _ _ _ hk)
  have HZ := Lib.hid hz
  have C2 := Lib.hid c2
  have HB := Lib.hid hB
  clear hz c2 hB
  go_enter Tryd.func39, Tryd.ntmps39
  go_wp2
  go_loop [3] (fun i => ∃ k : Nat, k ≤ 64 ∧ i = .int .i64 k ∧ Hid (bareTo a b F k = true)) (fun i => 65 - (RowKit.intOf i).toNat)
  case atStart => exact ⟨0, by omega, rfl, rfl⟩
  case round =>
    obtain ⟨k, hk, rfl, hA⟩ := hrel
    by_cases hlt : k < 64
    · have hI := fun w c0 c1 => specIs_any (a := a) (b := b) (i := k) ha hb hlt w B c0 c1
      have gk := C2.out k hlt
      have i2 : (k : Int) < 64 := by omega
      cases hc : isC a b k
      · rw [hc] at hI
        rcases HZ.out k hlt hc with h0 | h0
        · have hS := fun w' => specBits (F k) (by rw [h0]; decide) w'
          rw [canon_zero (Or.inl h0)] at hS
          have HN : Hid (bareTo a b F (k + 1) = true) := Lib.hid (bareTo_step hA.out (Or.inr h0))
          rw [h0] at gk hS
          clear hA h0 hc
          go_wp2_with (first | (go_at_call 72; with_reducible refine (hI _ c0 c1).mono ?_; rintro e w1 ⟨rfl, rfl⟩) | (go_at_call 31; with_reducible refine (hS _).mono ?_; rintro e w1 ⟨rfl, rfl⟩))
          go_round
          case rel => exact ⟨k + 1, by omega, by first | rfl | go_num, HN⟩
          case measure => simp [RowKit.intOf]; omega
        · have hS := fun w' => specBits (F k) (by rw [h0]; decide) w'
          rw [canon_zero (Or.inr h0)] at hS
          have HN : Hid (bareTo a b F 64 = false) := Lib.hid (bareTo_no hlt hc (by rw [h0]; decide))
          rw [h0] at gk hS
          clear hA h0 hc
          go_wp2_with (first | (go_at_call 72; with_reducible refine (hI _ c0 c1).mono ?_; rintro e w1 ⟨rfl, rfl⟩) | (go_at_call 31; with_reducible refine (hS _).mono ?_; rintro e w1 ⟨rfl, rfl⟩))
          go_ret
          exact ⟨by rw [HN.out]; rfl, rfl⟩
      · rw [hc] at hI
        have HN : Hid (bareTo a b F (k + 1) = true) := Lib.hid (bareTo_step hA.out (Or.inl hc))
        clear hA hc
        go_wp2_with (go_at_call 72; with_reducible refine (hI _ c0 c1).mono ?_; rintro e w1 ⟨rfl, rfl⟩)
        go_round
        case rel => exact ⟨k + 1, by omega, by first | rfl | go_num, HN⟩
        case measure => simp [RowKit.intOf]; omega
    · obtain rfl : k = 64 := by omega
      go_wp2
      go_ret
      exact ⟨by rw [hA.out]; rfl, rfl⟩

set_option maxHeartbeats 2000000 in
set_option maxRecDepth 100000 in
theorem specPlateTx (a b : Nat) (F : Nat → Nat) (ha1 : 1 ≤ a) (ha : a < 9) (hb1 : 1 ≤ b) (hb : b < 9) (hF : ∀ i, i < 64 → F i < 2 ^ 32) (w : World) (B : Nat) (hB : w.heap[B]? = some (.cells (plate a b F) 39 (0, 0))) :
    Calls Tryd.prog 40 #[.pointer (some ⟨B, 0, none⟩)] w fun e w' => e = .returned (.string ⟨(plateTx a b F).toArray⟩) ∧ Below w.heap.size w w' := by
  have c0 : w.cell? ⟨B, 0, none⟩ = some (.int .i8 a) := (cell_of_row w B 0 _ _ _ hB).trans rfl
  have c1 : w.cell? ⟨B, 1, none⟩ = some (.int .i8 b) := (cell_of_row w B 1 _ _ _ hB).trans rfl
  have c2 : ∀ k, k < 64 → w.cell? ⟨B, 2 + k, none⟩ = some (.float .f32 (F k)) := fun k hk => (cell_of_row w B (2 + k) _ _ _ hB).trans (row_k2 _ _ _ _ hk)
  have hBlt : B < w.heap.size := World.block_lt_of_cell? _ _ c0
  have decC : ∀ n, n < 100 → ∃ D : ByteArray, D = ⟨(Lib.decDigits n).toArray⟩ ∧ D.size ≤ 2 ∧ ∀ w, Calls Tryd.prog 66 #[.int .i64 n] w fun e w' => ∃ v, e = .returned v ∧ v = .string D ∧ Below w.heap.size w w' :=
    fun n hn => ⟨_, rfl, (dec_len n hn).1, fun w => (decAny n hn w).mono fun e w' ⟨h1, h2⟩ => ⟨_, h1, rfl, h2⟩⟩
  have hexC : ∀ x, x < 2 ^ 32 → ∃ S : ByteArray, S = ⟨(numText x).toArray⟩ ∧ S.size = 8 ∧ ∀ w, Calls Tryd.prog 26 #[.float .f32 x] w fun e w' => ∃ v, e = .returned v ∧ v = .string S ∧ Below w.heap.size w w' :=
    fun x hx => ⟨_, rfl, numText_length x, fun w => (specHex x hx w).mono fun e w' ⟨h1, h2⟩ => ⟨_, h1, rfl, h2⟩⟩
  have HX := Lib.hid hexC
  have C0 := Lib.hid c0
  have C1 := Lib.hid c1
  have C2 := Lib.hid c2
  have HF := Lib.hid hF
  obtain ⟨D1, e1, z1, h1⟩ := decC a (by omega)
  obtain ⟨D2, e2, z2, h2⟩ := decC b (by omega)
  have zB : (⟨#[32]⟩ : ByteArray).size = 1 := rfl
  have zN : (⟨#[10]⟩ : ByteArray).size = 1 := rfl
  have l1 : D1.size + (⟨#[32]⟩ : ByteArray).size ≤ maxLen := by unfold maxLen; omega
  have l2 : (D1 ++ ⟨#[32]⟩).size + D2.size ≤ maxLen := by simp only [ByteArray.size_append]; unfold maxLen; omega
  have l3 : (D1 ++ ⟨#[32]⟩ ++ D2).size + (⟨#[10]⟩ : ByteArray).size ≤ maxLen := by simp only [ByteArray.size_append]; unfold maxLen; omega
  have hT : (D1 ++ ⟨#[32]⟩ ++ D2 ++ ⟨#[10]⟩) = ⟨(Lib.decDigits a ++ (32 :: Lib.decDigits b) ++ [10]).toArray⟩ := by
    rw [e1, e2, show (⟨#[32]⟩ : ByteArray) = ⟨[(32 : UInt8)].toArray⟩ from rfl, show (⟨#[10]⟩ : ByteArray) = ⟨[(10 : UInt8)].toArray⟩ from rfl, str_app, str_app, str_app]
    congr 2
    simp
  have hBB : w.heap.size ≤ w.heap.size := Nat.le_refl _
  have hK : KeptS w.heap.size w w w := KeptS.refl (Below.refl _ _)
  have na : IntKind.i64.wrap (a : Int) = a := by rw [IntKind.wrap_i64]; omega
  have nb : IntKind.i64.wrap (b : Int) = b := by rw [IntKind.wrap_i64]; omega
  go_enter Tryd.func40, Tryd.ntmps40
  go_upto_region 1 with fail
  refine region_merge (fun a0 a' W' => a' = ({ tmps := ((Value.pointer (some ⟨B, 0, none⟩)) :: undef :: (Value.string { data := #[] }) :: (Value.string (D1 ++ ⟨#[32]⟩ ++ D2 ++ ⟨#[10]⟩)) :: undef :: undef :: (Value.pointer (some ⟨B, 0, none⟩)) :: (Value.pointer (some ⟨B, 0, none⟩)) :: (Value.pointer (some ⟨B, 0, none⟩)) :: (Value.int .i8 a) :: (Value.int .i64 a) :: (Value.string D1) :: (Value.string (D1 ++ ⟨#[32]⟩)) :: (Value.pointer (some ⟨B, 0, none⟩)) :: (Value.pointer (some ⟨B, 0, none⟩)) :: (Value.pointer (some ⟨B, 1, none⟩)) :: (Value.int .i8 b) :: (Value.int .i64 b) :: (Value.string D2) :: (Value.string (D1 ++ ⟨#[32]⟩ ++ D2)) :: (Value.string (D1 ++ ⟨#[32]⟩ ++ D2 ++ ⟨#[10]⟩)) :: undef :: undef :: undef :: undef :: undef :: undef :: undef :: undef :: undef :: undef :: undef :: undef :: undef :: undef :: undef :: undef :: undef :: undef :: undef :: undef :: undef :: undef :: undef :: undef :: undef :: undef :: undef :: undef :: undef :: undef :: undef :: undef :: undef :: undef :: undef :: undef :: undef :: []).toArray, defers := [] } : Act) ∧ Below w.heap.size w W') ?_ ?_
  · refine wp_region_held_drew (S := fun w' => KeptS w.heap.size w w w') (by kernel_rfl) hK.drew (fun hS => ?_)
    refine held_yield 0 rfl rfl (by kernel_rfl) (by kernel_rfl) (by kernel_rfl) (fun _ _ _ _ h => nomatch h.1) (.pointer (some ⟨B, 0, none⟩)) (fun w' hw' => by (first | kernel_rfl | go_simp)) hS ?_
    refine held_yield 1 rfl rfl (by kernel_rfl) (by kernel_rfl) (by kernel_rfl) (fun _ _ _ _ h => nomatch h.1) (.pointer (some ⟨B, 0, none⟩)) (fun w' hw' => by (first | kernel_rfl | go_simp)) hS ?_
    refine held_yield 2 rfl rfl (by kernel_rfl) (by kernel_rfl) (by kernel_rfl) (fun _ _ _ _ h => nomatch h.1) (.pointer (some ⟨B, 0, none⟩)) (fun w' hw' => by go_simp) hS ?_
    refine held_yield 3 rfl rfl (by kernel_rfl) (by kernel_rfl) (by kernel_rfl) (fun _ _ _ _ h => nomatch h.1) (.int .i8 a) (fun w' hw' => by (have c := (hw'.cell (p := ⟨B, 0, none⟩) hBlt).trans c0; go_simp)) hS ?_
    refine held_yield 4 rfl rfl (by kernel_rfl) (by kernel_rfl) (by kernel_rfl) (fun _ _ _ _ h => nomatch h.1) (.int .i64 a) (fun w' hw' => by go_simp) hS ?_
    refine held_yield 7 rfl rfl (by kernel_rfl) (by kernel_rfl) (by kernel_rfl) (fun _ _ _ _ h => nomatch h.1) (.pointer (some ⟨B, 0, none⟩)) (fun w' hw' => by (first | kernel_rfl | go_simp)) hS ?_
    refine held_yield 8 rfl rfl (by kernel_rfl) (by kernel_rfl) (by kernel_rfl) (fun _ _ _ _ h => nomatch h.1) (.pointer (some ⟨B, 0, none⟩)) (fun w' hw' => by (first | kernel_rfl | go_simp)) hS ?_
    refine held_yield 9 rfl rfl (by kernel_rfl) (by kernel_rfl) (by kernel_rfl) (fun _ _ _ _ h => nomatch h.1) (.pointer (some ⟨B, 1, none⟩)) (fun w' hw' => by go_simp) hS ?_
    refine held_yield 10 rfl rfl (by kernel_rfl) (by kernel_rfl) (by kernel_rfl) (fun _ _ _ _ h => nomatch h.1) (.int .i8 b) (fun w' hw' => by (have c := (hw'.cell (p := ⟨B, 1, none⟩) hBlt).trans c1; go_simp)) hS ?_
    refine held_yield 11 rfl rfl (by kernel_rfl) (by kernel_rfl) (by kernel_rfl) (fun _ _ _ _ h => nomatch h.1) (.int .i64 b) (fun w' hw' => by go_simp) hS ?_
    refine held_one 5 (by kernel_rfl) rfl rfl ?_
    with_reducible refine oper_call 66 #[.int .i64 a] ?he (h1 _) (fun v0 W0 hR => ?_)
    case he => first | kernel_rfl | go_simp
    obtain ⟨rfl, hb0⟩ := hR
    have hk0 := hS.call hBB hb0
    have hs0 := hb0.size
    refine ⟨hk0, ?_⟩
    refine held_yield 6 rfl rfl (by kernel_rfl) (by kernel_rfl) (by kernel_rfl) (fun _ _ _ _ h => nomatch h.1) (.string (D1 ++ ⟨#[32]⟩)) (fun w' hw' => by exact exec_cat 9 9 (.tmp 11) (.const (.string ⟨#[32]⟩)) (by kernel_rfl) (D1) (⟨#[32]⟩) (by kernel_rfl) (by kernel_rfl) l1 w') hk0 ?_
    refine held_one 12 (by kernel_rfl) rfl rfl ?_
    with_reducible refine oper_call 66 #[.int .i64 b] ?he (h2 _) (fun v0 W1 hR => ?_)
    case he => first | kernel_rfl | go_simp
    obtain ⟨rfl, hb1⟩ := hR
    have hk1 := hk0.call hBB hb1
    have hs1 := hb1.size
    refine ⟨hk1, ?_⟩
    refine held_yield 13 rfl rfl (by kernel_rfl) (by kernel_rfl) (by kernel_rfl) (fun _ _ _ _ h => nomatch h.1) (.string (D1 ++ ⟨#[32]⟩ ++ D2)) (fun w' hw' => by exact exec_cat 9 9 (.tmp 12) (.tmp 18) (by kernel_rfl) (D1 ++ ⟨#[32]⟩) (D2) (by kernel_rfl) (by kernel_rfl) l2 w') hk1 ?_
    refine held_yield 14 rfl rfl (by kernel_rfl) (by kernel_rfl) (by kernel_rfl) (fun _ _ _ _ h => nomatch h.1) (.string (D1 ++ ⟨#[32]⟩ ++ D2 ++ ⟨#[10]⟩)) (fun w' hw' => by exact exec_cat 9 9 (.tmp 19) (.const (.string ⟨#[10]⟩)) (by kernel_rfl) (D1 ++ ⟨#[32]⟩ ++ D2) (⟨#[10]⟩) (by kernel_rfl) (by kernel_rfl) l3 w') hk1 ?_
    refine held_yield 15 rfl rfl (by kernel_rfl) (by kernel_rfl) (by kernel_rfl) (fun _ _ _ _ h => nomatch h.1) (.string (D1 ++ ⟨#[32]⟩ ++ D2 ++ ⟨#[10]⟩)) (fun w' hw' => by (first | kernel_rfl | go_simp)) hk1 ?_
    refine wpAnyH_done (by kernel_rfl) ⟨rfl, by kernel_rfl, hk1.2.2⟩ _
  · rintro a' W' ⟨rfl, hbW⟩
    clear h1 h2 hexC decC c0 c1 c2 hF hK hBB e1 e2 na nb
    obtain ⟨A0, hA0⟩ : ∃ A0, A0 = D1 ++ ⟨#[32]⟩ ++ D2 ++ ⟨#[10]⟩ := ⟨_, rfl⟩
    rw [← hA0] at hT ⊢
    have HA0 := Lib.hid hT
    have HBW := Lib.hid hbW
    clear hA0 l1 l2 l3 hT hbW
    have hda := dec_len a (by omega)
    have hdb := dec_len b (by omega)
    have j2 : (b : Int) ≤ 8 := by omega
    have j3 : (a : Int) ≤ 8 := by omega
    go_wp2
    go_loopw [3, 4] (fun v i wr => ∃ (k : Nat) (A : ByteArray), k ≤ b ∧ i = .int .i64 k ∧ v = .string A ∧ Hid (A = ⟨(Lib.decDigits a ++ (32 :: Lib.decDigits b) ++ [10] ++ rowsT a F k).toArray⟩) ∧ Below w.heap.size w wr) (fun _ i _ => 13 - (RowKit.intOf i).toNat)
    case atStart => exact ⟨0, A0, by omega, rfl, rfl, Lib.hid (by rw [HA0.out]; simp [rowsT]), HBW.out⟩
    case round =>
      clear HA0 HBW
      obtain ⟨k, A, hk, rfl, rfl, hA, hbr⟩ := hrel
      have g0 : wr.cell? ⟨B, 0, none⟩ = some (.int .i8 a) := (hbr.cell (p := ⟨B, 0, none⟩) hBlt).trans C0.out
      have g1 : wr.cell? ⟨B, 1, none⟩ = some (.int .i8 b) := (hbr.cell (p := ⟨B, 1, none⟩) hBlt).trans C1.out
      have hsz := hbr.size
      by_cases hlt : k < b
      · have i1 : (k : Int) < b := by omega
        have zA : A.size ≤ 700 := by
          have e := hA.out
          rw [e, size_of_list]
          have := rowsT_small (F := F) ha (show k < 9 by omega)
          simp only [List.length_append, List.length_cons, List.length_nil]
          omega
        have HBR := Lib.hid hbr
        clear hbr
        go_wp2
        go_loopw [3, 5] (fun v i w5 => ∃ (x : Nat) (A5 : ByteArray), x ≤ a ∧ i = .int .i64 x ∧ v = .string A5 ∧ Hid (A5 = ⟨(Lib.decDigits a ++ (32 :: Lib.decDigits b) ++ [10] ++ rowsT a F k ++ joinT (rowG F k) x).toArray⟩) ∧ Below w.heap.size w w5) (fun _ i _ => 13 - (RowKit.intOf i).toNat)
        case atStart => exact ⟨0, A, by omega, rfl, rfl, Lib.hid (by rw [hA.out, joinT_zero]; simp), HBR.out⟩
        case round =>
          clear g0 g1 HBR
          obtain ⟨x, A5, hx, rfl, rfl, hA5, hb5⟩ := hrel
          rename World => w5
          have g0 : w5.cell? ⟨B, 0, none⟩ = some (.int .i8 a) := (hb5.cell (p := ⟨B, 0, none⟩) hBlt).trans C0.out
          have hsz5 := hb5.size
          have zA5 : A5.size ≤ 800 := by
            have e := hA5.out
            rw [e, size_of_list]
            have := rowsT_small (F := F) ha (show k < 9 by omega)
            have := joinT_le (rowG F k) x
            simp only [List.length_append, List.length_cons, List.length_nil]
            omega
          obtain ⟨q, hq⟩ : ∃ q, A5.size = q := ⟨_, rfl⟩
          have hq2 : q ≤ 800 := by omega
          by_cases hxa : x < a
          · have hi : x + 8 * k < 64 := by omega
            have gk : w5.cell? ⟨B, 2 + (x + 8 * k), none⟩ = some (.float .f32 (F (x + 8 * k))) := (hb5.cell (p := ⟨B, 2 + (x + 8 * k), none⟩) hBlt).trans (C2.out _ hi)
            obtain ⟨S, hS, zS, hH⟩ := HX.out (F (x + 8 * k)) (HF.out _ hi)
            have i3 : (x : Int) < a := by omega
            have i4 : (x : Int) + 8 * (k : Int) < 64 := by omega
            have HB5 := Lib.hid hb5
            by_cases hx0 : x = 0
            · subst hx0
              have HN : Hid (A5 ++ S = ⟨(Lib.decDigits a ++ (32 :: Lib.decDigits b) ++ [10] ++ rowsT a F k ++ joinT (rowG F k) (0 + 1)).toArray⟩) := Lib.hid (by
                rw [hA5.out, hS, str_app, joinT_one, joinT_zero]
                simp [rowG])
              clear hA5 hS zA5 hb5 zA hA
              simp only [Nat.zero_add] at gk hH hi
              generalize F (8 * k) = z at gk hH
              go_wp2_with (go_at_call 26; with_reducible refine (hH _).mono ?_; rintro e w1 ⟨v, rfl, rfl, hb1⟩)
              go_roundw
              case rel => exact ⟨1, _, by omega, by first | rfl | go_num, rfl, HN, HB5.out.trans (hb1.mono hsz5)⟩
              case measure => simp [RowKit.intOf]
            · have HN : Hid (A5 ++ ⟨#[32]⟩ ++ S = ⟨(Lib.decDigits a ++ (32 :: Lib.decDigits b) ++ [10] ++ rowsT a F k ++ joinT (rowG F k) (x + 1)).toArray⟩) := Lib.hid (by
                rw [hA5.out, hS, show (⟨#[32]⟩ : ByteArray) = ⟨[(32 : UInt8)].toArray⟩ from rfl, str_app, str_app, joinT_succ _ _ (by omega)]
                simp [rowG])
              have zq : (A5 ++ ⟨#[32]⟩ : ByteArray).size = q + 1 := by rw [ByteArray.size_append, hq, zB]
              have x0 : (0 : Int) < x := by omega
              clear hA5 hS zA5 hb5 zA hA
              generalize F (x + 8 * k) = z at gk hH
              go_wp2_with (go_at_call 26; with_reducible refine (hH _).mono ?_; rintro e w1 ⟨v, rfl, rfl, hb1⟩)
              go_roundw
              case rel => exact ⟨x + 1, _, by omega, by first | rfl | go_num, rfl, HN, HB5.out.trans (hb1.mono hsz5)⟩
              case measure => simp [RowKit.intOf]; omega
          · obtain rfl : x = a := by omega
            have HN : Hid (A5 ++ ⟨#[10]⟩ = ⟨(Lib.decDigits x ++ (32 :: Lib.decDigits b) ++ [10] ++ rowsT x F (k + 1)).toArray⟩) := Lib.hid (by
              rw [hA5.out, show (⟨#[10]⟩ : ByteArray) = ⟨[(10 : UInt8)].toArray⟩ from rfl, str_app]
              simp [rowsT])
            have HB5 := Lib.hid hb5
            clear hA5 zA5 hb5 zA hA
            go_wp2
            go_roundw
            case rel => exact ⟨k + 1, _, by omega, by first | rfl | go_num, rfl, HN, HB5.out⟩
            case measure => simp [RowKit.intOf]; omega
      · obtain rfl : k = b := by omega
        go_wp2
        go_ret
        exact ⟨by rw [hA.out]; rfl, hbr⟩
end Go.Proofs.YtckcngmbbnilnaaDoor
