/- Decimals of numbers below 100, as the reference makes them. -/
import Derived.Test.YtckcngmbbnilnaaDoorTextN
import Derived.Test.YtckcngmbbnilnaaDoorKept
set_option linter.unusedVariables false
set_option linter.unusedSimpArgs false
namespace Go.Proofs.YtckcngmbbnilnaaDoor
open Go.RowKit Go.Lib

theorem conv_one (w : World) (B : Nat) (x : UInt8) (z : Int) (hz : z = (x.toNat : Int)) (h : w.cell? ⟨B, 0, none⟩ = some (.int .u8 z)) :
    (convert 92 9 (.slice (some ⟨B, 0, none⟩) 1 1)).run Tryd.prog w = .ok (.string ⟨[x].toArray⟩) w := by
  have h1 := run_convert_bytes_back (P := Tryd.prog) w 92 9 5 ⟨B, 0, none⟩ 1 [x] Tryd.underlying92 Tryd.underlying5 Tryd.underlying9 (fun j hj => by
    obtain rfl : j = 0 := by simpa using hj
    rw [hz] at h
    exact h)
  exact h1
theorem cell_blk {w : World} {B : Nat} {c : Value} {t : TypeId} (h : w.heap[B]? = some (.cells #[c] t (0, 0))) : w.cell? ⟨B, 0, none⟩ = some c := cell_of_row w B 0 _ _ _ h
theorem run_cat {P : Program} (t : TypeId) (a b : ByteArray) (h : a.size + b.size ≤ maxLen) (w : World) : (binOp .add t (.string a) (.string b)).run P w = .ok (.string (a ++ b)) w := by
  rw [binOp_string_add]
  unfold Op.stringOp
  have h' : ¬ maxLen < a.size + b.size := by omega
  have h2 : (a.size : Int) + (b.size : Int) ≤ 9223372036854775807 := by unfold maxLen at h; omega
  simp [h', h2]
theorem exec_cat {P : Program} {o : Oper} {a : Act} (t u : TypeId) (x y : Operand) (ho : o.op = .binOp .add t x y u) (sx sy : ByteArray) (hx : a.eval x = .string sx) (hy : a.eval y = .string sy) (hl : sx.size + sy.size ≤ maxLen) (w : World) :
    (execOp a.eval o).run P w = .ok (.value (.string (sx ++ sy))) w := by
  unfold execOp
  have hg : (eqGuard .add t x y (.string sx) (.string sy)).run P w = .ok () w := by simp [eqGuard]
  simp only [ho, hx, hy, hg, run_cat t sx sy hl w, Sem.run_bind, Sem.run_pure, Result.andThen_ok]
theorem exec_conv {P : Program} {o : Oper} {a : Act} {src dst : TypeId} {x : Operand} {w : World} {v r : Value} (ho : o.op = .convert src dst x) (hx : a.eval x = v) (hr : (convert src dst v).run P w = .ok r w) :
    (execOp a.eval o).run P w = .ok (.value r) w := by
  unfold execOp
  simp only [ho, hx, hr, Sem.run_bind, Sem.run_pure, Result.andThen_ok]

set_option maxHeartbeats 1000000 in
set_option maxRecDepth 100000 in
theorem decSmall (n : Nat) (hn : n < 10) (w : World) :
    Calls Tryd.prog 66 #[.int .i64 n] w fun e w' => e = .returned (.string ⟨(Lib.decDigits n).toArray⟩) ∧ Below w.heap.size w w' := by
  rw [dec_small hn]
  obtain ⟨c, hc⟩ : ∃ c, c = UInt8.ofNat (48 + n) := ⟨_, rfl⟩
  have hx : 48 + (n : Int) = (c.toNat : Int) := by
    rw [hc]
    simp
    omega
  rw [← hc]
  have hcv : (convert 92 9 (.slice (some ⟨w.heap.size, 0, none⟩) 1 1)).run Tryd.prog (w.alloc (.cells #[.int .u8 (48 + (n : Int))] 5)) = .ok (.string ⟨[c].toArray⟩) (w.alloc (.cells #[.int .u8 (48 + (n : Int))] 5)) :=
    conv_one _ _ c _ hx (by rw [World.cell?_alloc_new]; rfl)
  have HC := Lib.hid hc
  have HX := Lib.hid hx
  clear hc hx
  go_enter Tryd.func66, Tryd.ntmps66
  go_wp2
  go_ret
  exact ⟨rfl, Below.alloc (Below.refl _ _) (Nat.le_refl _) _⟩

set_option maxHeartbeats 1000000 in
set_option maxRecDepth 100000 in
theorem decTwo (n : Nat) (h1 : 10 ≤ n) (h2 : n < 100) (w : World) :
    Calls Tryd.prog 66 #[.int .i64 n] w fun e w' => e = .returned (.string ⟨(Lib.decDigits n).toArray⟩) ∧ Below w.heap.size w w' := by
  obtain ⟨S, hS, hD⟩ : ∃ S : ByteArray, S = ⟨(Lib.decDigits (n / 10)).toArray⟩ ∧ ∀ w, Calls Tryd.prog 66 #[.int .i64 ((n / 10 : Nat) : Int)] w fun e w' => ∃ v, e = .returned v ∧ v = .string S ∧ Below w.heap.size w w' :=
    ⟨_, rfl, fun w => (decSmall (n / 10) (by omega) w).mono fun e w' ⟨h1, h2⟩ => ⟨_, h1, rfl, h2⟩⟩
  obtain ⟨c, hc⟩ : ∃ c, c = UInt8.ofNat (48 + n % 10) := ⟨_, rfl⟩
  have hx : 48 + ((n % 10 : Nat) : Int) = (c.toNat : Int) := by
    rw [hc]
    simp
    omega
  obtain ⟨X, hX⟩ : ∃ X : ByteArray, X = ⟨[c].toArray⟩ := ⟨_, rfl⟩
  have hcv : ∀ (w : World) (B : Nat), w.cell? ⟨B, 0, none⟩ = some (.int .u8 (48 + ((n % 10 : Nat) : Int))) → (convert 92 9 (.slice (some ⟨B, 0, none⟩) 1 1)).run Tryd.prog w = .ok (.string X) w := fun w B h => by
    rw [hX]; exact conv_one w B c _ hx h
  have hT : (⟨(Lib.decDigits n).toArray⟩ : ByteArray) = S ++ X := by
    rw [hS, hX, hc, str_app, ← dec_step (by omega)]
  have hSX : S.size + X.size ≤ maxLen := by
    have e1 : S.size = 1 := by rw [hS, dec_small (show n / 10 < 10 by omega)]; rfl
    have e2 : X.size = 1 := by rw [hX]; rfl
    rw [e1, e2]; decide
  rw [hT]
  clear hT hS hX hx hc
  have hBB : w.heap.size ≤ w.heap.size := Nat.le_refl _
  have aw1 : IntKind.i64.wrap ((n : Int) / 10) = (n : Int) / 10 := by simp [IntKind.wrap, IntKind.signed, IntKind.bits]; omega
  have aw2 : (n : Int).tmod 10 = (n : Int) % 10 := by rw [Int.tmod_eq_emod_of_nonneg (by omega)]
  have aw3 : IntKind.i64.wrap (48 + (n : Int) % 10) = 48 + (n : Int) % 10 := by simp [IntKind.wrap, IntKind.signed, IntKind.bits]; omega
  have aw4 : IntKind.u8.wrap (48 + (n : Int) % 10) = 48 + (n : Int) % 10 := by simp [IntKind.wrap, IntKind.signed, IntKind.bits]; omega
  have h1i : (10 : Int) ≤ (n : Int) := by omega
  have hK : KeptS w.heap.size w w w := KeptS.refl (Below.refl _ _)
  go_enter Tryd.func66, Tryd.ntmps66
  go_upto_region 2 with fail
  refine region_merge (fun a0 a' W' => a'.tmps.getD 2 undef = .string (S ++ X) ∧ a'.defers = [] ∧ Below w.heap.size w W') ?_ ?_
  · refine wp_region_held_drew (S := fun w' => KeptS w.heap.size w w w') (by kernel_rfl) hK.drew (fun hS => ?_)
    refine held_yield 0 rfl rfl (by kernel_rfl) (by kernel_rfl) (by kernel_rfl) (fun _ _ _ _ h => nomatch h.1) (.int .i64 n) (fun w' hw' => by (first | kernel_rfl | go_simp)) hS ?_
    refine held_yield 1 rfl rfl (by kernel_rfl) (by kernel_rfl) (by kernel_rfl) (fun _ _ _ _ h => nomatch h.1) (.int .i64 ((n / 10 : Nat) : Int)) (fun w' hw' => by go_simp) hS ?_
    refine held_yield 3 rfl rfl (by kernel_rfl) (by kernel_rfl) (by kernel_rfl) (fun _ _ _ _ h => nomatch h.1) (.int .i64 n) (fun w' hw' => by (first | kernel_rfl | go_simp)) hS ?_
    refine held_yield 4 rfl rfl (by kernel_rfl) (by kernel_rfl) (by kernel_rfl) (fun _ _ _ _ h => nomatch h.1) (.int .i64 ((n % 10 : Nat) : Int)) (fun w' hw' => by go_simp) hS ?_
    refine held_yield 5 rfl rfl (by kernel_rfl) (by kernel_rfl) (by kernel_rfl) (fun _ _ _ _ h => nomatch h.1) (.int .i64 (48 + ((n % 10 : Nat) : Int))) (fun w' hw' => by go_simp) hS ?_
    refine held_yield 6 rfl rfl (by kernel_rfl) (by kernel_rfl) (by kernel_rfl) (fun _ _ _ _ h => nomatch h.1) (.int .u8 (48 + ((n % 10 : Nat) : Int))) (fun w' hw' => by go_simp) hS ?_
    refine held_two 2 7 (by kernel_rfl) rfl rfl rfl rfl ?_ ?_
    · with_reducible refine oper_call 66 #[.int .i64 ((n / 10 : Nat) : Int)] ?he (hD _) (fun v0 W0 hR => ?_)
      case he => first | kernel_rfl | go_simp
      obtain ⟨rfl, hb0⟩ := hR
      have hk0 := hS.call hBB hb0
      have hs0 := hb0.size
      refine ⟨hk0, ?_⟩
      refine held_one 7 (by kernel_rfl) rfl rfl ?_
      with_reducible refine oper_value (.slice (some ⟨W0.heap.size, 0, none⟩) 1 1) (w1 := W0.alloc (.cells #[.int .u8 (48 + ((n % 10 : Nat) : Int))] 5)) ?he ?_
      case he => first | kernel_rfl | go_simp
      have hk1 := hk0.alloc hBB (.cells #[.int .u8 (48 + ((n % 10 : Nat) : Int))] 5)
      obtain ⟨bk1, hbk1⟩ : ∃ b, b = W0.heap.size := ⟨_, rfl⟩
      obtain ⟨V1, hV1⟩ : ∃ V, V = W0.alloc (.cells #[.int .u8 (48 + ((n % 10 : Nat) : Int))] 5) := ⟨_, rfl⟩
      have hn1 : V1.heap[bk1]? = some (.cells #[.int .u8 (48 + ((n % 10 : Nat) : Int))] 5) := by rw [hV1, hbk1]; exact heap_alloc_new _ _
      have hz1 : bk1 < V1.heap.size := by rw [hV1, hbk1]; simp
      rw [← hV1] at hk1 ⊢
      rw [← hbk1]
      clear hV1 hbk1
      refine ⟨hk1, ?_⟩
      refine held_one 8 (by kernel_rfl) rfl rfl ?_
      with_reducible refine oper_value (.string X) (w1 := V1) ?he ?_
      case he => exact exec_conv (x := .tmp 12) (v := .slice (some ⟨bk1, 0, none⟩) 1 1) (src := 92) (dst := 9) (by kernel_rfl) (by kernel_rfl) (hcv _ _ (cell_blk hn1))
      refine ⟨hk1, ?_⟩
      refine held_yield 9 rfl rfl (by kernel_rfl) (by kernel_rfl) (by kernel_rfl) (fun _ _ _ _ h => nomatch h.1) (.string (S ++ X)) (fun w' hw' => by exact exec_cat 9 9 (.tmp 7) (.tmp 13) (by kernel_rfl) S X (by kernel_rfl) (by kernel_rfl) hSX w') hk1 ?_
      refine held_yield 10 rfl rfl (by kernel_rfl) (by kernel_rfl) (by kernel_rfl) (fun _ _ _ _ h => nomatch h.1) (.string (S ++ X)) (fun w' hw' => by (first | kernel_rfl | go_simp)) hk1 ?_
      refine wpAnyH_done (by kernel_rfl) ⟨rfl, by kernel_rfl, by kernel_rfl, hk1.2.2⟩ _
    · with_reducible refine oper_value (.slice (some ⟨w.drew.heap.size, 0, none⟩) 1 1) (w1 := w.drew.alloc (.cells #[.int .u8 (48 + ((n % 10 : Nat) : Int))] 5)) ?he ?_
      case he => first | kernel_rfl | go_simp
      have hk0 := hS.alloc hBB (.cells #[.int .u8 (48 + ((n % 10 : Nat) : Int))] 5)
      obtain ⟨bk0, hbk0⟩ : ∃ b, b = w.drew.heap.size := ⟨_, rfl⟩
      obtain ⟨V0, hV0⟩ : ∃ V, V = w.drew.alloc (.cells #[.int .u8 (48 + ((n % 10 : Nat) : Int))] 5) := ⟨_, rfl⟩
      have hn0 : V0.heap[bk0]? = some (.cells #[.int .u8 (48 + ((n % 10 : Nat) : Int))] 5) := by rw [hV0, hbk0]; exact heap_alloc_new _ _
      have hz0 : bk0 < V0.heap.size := by rw [hV0, hbk0]; simp
      rw [← hV0] at hk0 ⊢
      rw [← hbk0]
      clear hV0 hbk0
      refine ⟨hk0, ?_⟩
      refine held_two 2 8 (by kernel_rfl) rfl rfl rfl rfl ?_ ?_
      · with_reducible refine oper_call 66 #[.int .i64 ((n / 10 : Nat) : Int)] ?he (hD _) (fun v0 W1 hR => ?_)
        case he => first | kernel_rfl | go_simp
        obtain ⟨rfl, hb1⟩ := hR
        have hk1 := hk0.call hBB hb1
        have hs1 := hb1.size
        have hn0_1 := (hb1.block bk0 (by first | omega | (simp; omega) | simp)).trans hn0
        refine ⟨hk1, ?_⟩
        refine held_one 8 (by kernel_rfl) rfl rfl ?_
        with_reducible refine oper_value (.string X) (w1 := W1) ?he ?_
        case he => exact exec_conv (x := .tmp 12) (v := .slice (some ⟨bk0, 0, none⟩) 1 1) (src := 92) (dst := 9) (by kernel_rfl) (by kernel_rfl) (hcv _ _ (cell_blk hn0_1))
        refine ⟨hk1, ?_⟩
        refine held_yield 9 rfl rfl (by kernel_rfl) (by kernel_rfl) (by kernel_rfl) (fun _ _ _ _ h => nomatch h.1) (.string (S ++ X)) (fun w' hw' => by exact exec_cat 9 9 (.tmp 7) (.tmp 13) (by kernel_rfl) S X (by kernel_rfl) (by kernel_rfl) hSX w') hk1 ?_
        refine held_yield 10 rfl rfl (by kernel_rfl) (by kernel_rfl) (by kernel_rfl) (fun _ _ _ _ h => nomatch h.1) (.string (S ++ X)) (fun w' hw' => by (first | kernel_rfl | go_simp)) hk1 ?_
        refine wpAnyH_done (by kernel_rfl) ⟨rfl, by kernel_rfl, by kernel_rfl, hk1.2.2⟩ _
      · with_reducible refine oper_value (.string X) (w1 := V0) ?he ?_
        case he => exact exec_conv (x := .tmp 12) (v := .slice (some ⟨bk0, 0, none⟩) 1 1) (src := 92) (dst := 9) (by kernel_rfl) (by kernel_rfl) (hcv _ _ (cell_blk hn0))
        refine ⟨hk0, ?_⟩
        refine held_one 2 (by kernel_rfl) rfl rfl ?_
        with_reducible refine oper_call 66 #[.int .i64 ((n / 10 : Nat) : Int)] ?he (hD _) (fun v0 W2 hR => ?_)
        case he => first | kernel_rfl | go_simp
        obtain ⟨rfl, hb2⟩ := hR
        have hk2 := hk0.call hBB hb2
        have hs2 := hb2.size
        have hn0_2 := (hb2.block bk0 (by first | omega | (simp; omega) | simp)).trans hn0
        refine ⟨hk2, ?_⟩
        refine held_yield 9 rfl rfl (by kernel_rfl) (by kernel_rfl) (by kernel_rfl) (fun _ _ _ _ h => nomatch h.1) (.string (S ++ X)) (fun w' hw' => by exact exec_cat 9 9 (.tmp 7) (.tmp 13) (by kernel_rfl) S X (by kernel_rfl) (by kernel_rfl) hSX w') hk2 ?_
        refine held_yield 10 rfl rfl (by kernel_rfl) (by kernel_rfl) (by kernel_rfl) (fun _ _ _ _ h => nomatch h.1) (.string (S ++ X)) (fun w' hw' => by (first | kernel_rfl | go_simp)) hk2 ?_
        refine wpAnyH_done (by kernel_rfl) ⟨rfl, by kernel_rfl, by kernel_rfl, hk2.2.2⟩ _
  · rintro a' W' ⟨hv, hd, hb⟩
    go_wp2
    exact bodyPost_ret (results_tmp Tryd.results66 _ _ _) hd ⟨by rw [hv], hb⟩
end Go.Proofs.YtckcngmbbnilnaaDoor
