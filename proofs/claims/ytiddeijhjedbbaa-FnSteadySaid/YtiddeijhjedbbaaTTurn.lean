/- Contracts of l02Turn and turn. -/
import Derived.Test.YtiddeijhjedbbaaTTurnF
import Derived.Test.YtiddeijhjedbbaaTLaw4
set_option linter.unusedVariables false
set_option linter.unusedSimpArgs false
namespace Go.Proofs.Ytiddeijhjedbbaa
open Go.RowKit Ieee

@[go_sem] theorem row_t3 (a b c : Value) (F : Nat → Nat) : (row [a, b, c] 12 F)[3]? = some (.float .f32 (F 0)) := row_get [a, b, c] 12 F (i := 0) (by omega)
@[go_sem] theorem row_t4 (a b c : Value) (F : Nat → Nat) : (row [a, b, c] 12 F)[4]? = some (.float .f32 (F 1)) := row_get [a, b, c] 12 F (i := 1) (by omega)
@[go_sem] theorem row_ts3 (a b c : Value) (F : Nat → Nat) (v : Nat) : (row [a, b, c] 12 F).setIfInBounds 3 (.float .f32 v) = row [a, b, c] 12 (upd F 0 v) := row_set [a, b, c] 12 F (i := 0) (by omega)
@[go_sem] theorem row_ts4 (a b c : Value) (F : Nat → Nat) (v : Nat) : (row [a, b, c] 12 F).setIfInBounds 4 (.float .f32 v) = row [a, b, c] 12 (upd F 1 v) := row_set [a, b, c] 12 F (i := 1) (by omega)
@[go_sem] theorem upd_same (F : Nat → Nat) (i v : Nat) : upd F i v i = v := by simp [upd]
@[go_sem] theorem upd_01 (F : Nat → Nat) (v : Nat) : upd F 0 v 1 = F 1 := by simp [upd]
@[go_sem] theorem upd_00 (F : Nat → Nat) (v u : Nat) : upd (upd F 0 v) 0 u = upd F 0 u := by funext j; unfold upd; split <;> rfl

theorem specSplit_q {a b : Nat} (h1 : Fin32 a) (h2 : Fin32 b) (h3 : Fin32 (fadd a b)) (w : World) (n : Nat) : Calls Try.prog 54 #[.float .f32 a, .float .f32 b] (w.drewN n) fun e w' => e = .returned (.float .f32 (halfF a b)) ∧ ∃ m, w' = w.drewN m :=
  (specSplit_fin h1 h2 h3 (w.drewN n)).mono fun _ _ h => ⟨h.1, n, h.2⟩
theorem implSplit_q {a b : Nat} (h1 : Fin32 a) (h2 : Fin32 b) (h3 : Fin32 (fadd a b)) (w : World) (n : Nat) : Calls Try.prog 27 #[.float .f32 a, .float .f32 b] (w.drewN n) fun e w' => e = .returned (.float .f32 (halfF a b)) ∧ ∃ m, w' = w.drewN m :=
  (implSplit_fin h1 h2 h3 (w.drewN n)).mono fun _ _ h => ⟨h.1, n, h.2⟩

set_option maxRecDepth 100000 in
set_option maxHeartbeats 1600000 in
theorem specTurn_any (r : Int) (s t : Nat) (F : Nat → Nat) (fed cover : Nat) (w : World) (lr : -128 ≤ r) (ur : r ≤ 127) (ho : trainB r s t F = true) (hf : filmB fed = true) (hc : partB cover = true) : Calls Try.prog 42 #[.agg (train r s t F), .float .f32 fed, .float .f32 cover] w fun e w' => e = .returned (.tuple #[.agg (train r s t (turnF r s t F fed cover)), .float .f32 (turnP r s t F fed cover), .bool (trainB r s t (turnF r s t F fed cover))]) ∧ Below w.heap.size w w' := by
  have hz : (#[Value.int IntKind.i8 0, Value.float FloatKind.f32 0, Value.float FloatKind.f32 0, Value.float FloatKind.f32 0, Value.float FloatKind.f32 0, Value.float FloatKind.f32 0, Value.float FloatKind.f32 0, Value.float FloatKind.f32 0, Value.float FloatKind.f32 0, Value.float FloatKind.f32 0, Value.float FloatKind.f32 0, Value.float FloatKind.f32 0, Value.float FloatKind.f32 0, Value.float FloatKind.f32 0, Value.float FloatKind.f32 0] : Array Value) = row [Value.int IntKind.i8 0, Value.float FloatKind.f32 0, Value.float FloatKind.f32 0] 12 (fun _ => 0) := rfl
  obtain ⟨h2, h12, _, _, _, _⟩ := trainB_facts ho
  have st := turn_start ho hf
  have en := turn_end ho hf hc
  have e1 := fun w => run_fadd (P := Try.prog) w 25 st.fa st.ff
  have e2 := fun w => run_fmul (P := Try.prog) w 25 st.hs st.ha.1
  have e3 := fun w => run_fsub (P := Try.prog) w 25 st.ha.1 st.ho.1
  have e4 := fun w => run_fadd (P := Try.prog) w 25 st.f1 st.ho.1
  have e7 := fun w => run_fmul (P := Try.prog) w 25 en.ft en.fc
  have EN := Lib.hid en
  have hcs := fun b w => run_conv_same (P := Try.prog) 25 25 .f32 b w (by kernel_rfl) (by kernel_rfl)
  simp only [turnA, turnO] at e2 e3 e4
  clear st en
  go_enter Try.func42, Try.ntmps42
  have e5 := turnK_up ho hf
  have E5 := Lib.hid e5
  have HO := Lib.hid ho
  clear e5 ho
  go_wp2_with (first | (go_at_call 52; (with_reducible refine (specOk_any r s t F _ lr ur _ ?_).mono ?_); (focus (repeat (first | (with_reducible assumption) | ((with_reducible refine blk_new _ _ _ ?_); focus (simp; done)) | ((with_reducible refine blk_old _ _ _ ?_ ?_); focus (simp; done)) | ((with_reducible refine blk_old _ _ _ ?_ ?_); focus (first | omega | (simp; omega))) | ((with_reducible apply blk_set); focus (simp; done)) | ((with_reducible refine blk_off _ _ _ _ ?_ ?_); focus (simp; done)) | ((with_reducible refine blk_offc _ _ _ _ ?_ ?_); focus (first | (simp; done) | omega | (simp; omega))) | ((with_reducible refine blk_off _ _ _ _ ?_ ?_); focus (first | omega | (simp; omega))) | (with_reducible refine blk_drew _ _ ?_) | ((with_reducible refine blk_below (by assumption) ?_ ?_); focus (simp; done)) | ((with_reducible refine blk_below (by assumption) ?_ ?_); focus (first | omega | (simp; omega)))))); rintro e w' ⟨rfl, rfl⟩) | go_in)
  go_loopw [11] (fun i wr => ∃ k : Nat, (k : Int) + 2 ≤ r ∧ i = .int .i64 (k + 1) ∧ wr.heap[w.heap.size]? = some (.cells (train r s t (turnK s F fed k)) 28 (0, 0)) ∧ wr.heap[w.heap.size + 1]? = some (.cells (train 0 0 0 (fun _ => 0)) 28 (0, 0)) ∧ Below w.heap.size w wr) (fun i _ => 12 - (intOf i).toNat)
  case atStart => exact ⟨0, by omega, by go_num, (by simp only [turnK, turn0, turnO, turnA]; repeat (first | (with_reducible assumption) | ((with_reducible refine blk_new _ _ _ ?_); focus (simp; done)) | ((with_reducible refine blk_old _ _ _ ?_ ?_); focus (simp; done)) | ((with_reducible refine blk_old _ _ _ ?_ ?_); focus (first | omega | (simp; omega))) | ((with_reducible apply blk_set); focus (simp; done)) | ((with_reducible refine blk_off _ _ _ _ ?_ ?_); focus (simp; done)) | ((with_reducible refine blk_offc _ _ _ _ ?_ ?_); focus (first | (simp; done) | omega | (simp; omega))) | ((with_reducible refine blk_off _ _ _ _ ?_ ?_); focus (first | omega | (simp; omega))) | (with_reducible refine blk_drew _ _ ?_) | ((with_reducible refine blk_below (by assumption) ?_ ?_); focus (simp; done)) | ((with_reducible refine blk_below (by assumption) ?_ ?_); focus (first | omega | (simp; omega))))), (by repeat (first | (with_reducible assumption) | ((with_reducible refine blk_new _ _ _ ?_); focus (simp; done)) | ((with_reducible refine blk_old _ _ _ ?_ ?_); focus (simp; done)) | ((with_reducible refine blk_old _ _ _ ?_ ?_); focus (first | omega | (simp; omega))) | ((with_reducible apply blk_set); focus (simp; done)) | ((with_reducible refine blk_off _ _ _ _ ?_ ?_); focus (simp; done)) | ((with_reducible refine blk_offc _ _ _ _ ?_ ?_); focus (first | (simp; done) | omega | (simp; omega))) | ((with_reducible refine blk_off _ _ _ _ ?_ ?_); focus (first | omega | (simp; omega))) | (with_reducible refine blk_drew _ _ ?_) | ((with_reducible refine blk_below (by assumption) ?_ ?_); focus (simp; done)) | ((with_reducible refine blk_below (by assumption) ?_ ?_); focus (first | omega | (simp; omega))))), (by repeat (first | (with_reducible assumption) | (with_reducible exact Below.refl _ _) | ((with_reducible refine bel_alloc _ ?_ ?_); focus (first | omega | (simp; done) | (simp; omega))) | ((with_reducible refine bel_row _ ?_ ?_); focus (first | omega | (simp; done) | (simp; omega))) | ((with_reducible refine bel_cell _ ?_ ?_); focus (first | omega | (simp; done) | (simp; omega))) | (with_reducible refine Below.drew ?_) | (with_reducible refine below_wideW _ ?_) | ((with_reducible refine bel_next (by assumption) ?_ ?_); focus (first | omega | (simp; done) | (simp; omega)))))⟩
  case round =>
    obtain ⟨k, hk, rfl, h1, h3, hb⟩ := hrel
    have HB := Lib.hid hb
    have H3 := Lib.hid h3
    clear hb h3
    by_cases hlt : (k : Int) + 3 ≤ r
    · have c1 : wr.cell? ⟨w.heap.size, 3 + (k + 1), none⟩ = some (.float .f32 (turnK s F fed k (k + 1))) := (cell_of_row wr _ (3 + (k + 1)) _ _ _ h1).trans (row_k3 _ _ _ _ _ (by omega))
      have c2 : wr.cell? ⟨w.heap.size, 3 + (k + 1 + 1), none⟩ = some (.float .f32 (turnK s F fed k (k + 1 + 1))) := (cell_of_row wr _ (3 + (k + 1 + 1)) _ _ _ h1).trans (row_k3 _ _ _ _ _ (by omega))
      have f1 : wr.frozen? ⟨w.heap.size, 3 + (k + 1), none⟩ = false := frozen_of_row wr _ _ _ _ h1
      have f2 : wr.frozen? ⟨w.heap.size, 3 + (k + 1 + 1), none⟩ = false := frozen_of_row wr _ _ _ _ h1
      have H1 := Lib.hid h1
      have u1 := E5.out k hk (k + 1) (by omega) (by omega)
      have u2 := E5.out k hk (k + 1 + 1) (by omega) (by omega)
      have hh := half_up (c := 1245708288) (c2 := 1254096896) (by decide) (by decide) (by decide +kernel) (by decide +kernel) u1 u2
      have U1 := Lib.hid (show Fin32 _ from u1.1)
      have U2 := Lib.hid (show Fin32 _ from u2.1)
      have HH := Lib.hid hh.1
      clear h1 u1 u2 hh
      have k0 : (0 : Int) ≤ (k : Int) := by omega
      have k1 : (k : Int) + 1 < 12 := by omega
      have k2 : (k : Int) + 1 + 1 < 12 := by omega
      have z1 : (0 : Int) ≤ (k : Int) + 1 := by omega
      have z2 : (0 : Int) ≤ (k : Int) + 1 + 1 := by omega
      have t1 : ((k : Int) + 1).toNat = k + 1 := by omega
      have t2 : ((k : Int) + 1 + 1).toNat = k + 1 + 1 := by omega
      have wr1 : IntKind.i64.wrap ((k : Int) + 1 + 1) = (k : Int) + 1 + 1 := IntWalk.i64_in _ (by omega)
      go_wp2
      go_outline
      go_quiet ((go_at_call 54; with_reducible exact specSplit_q U1.out U2.out HH.out _ _))
      go_wp2
      go_roundw
      case rel => exact ⟨k + 1, by omega, by go_num, put_row (pre := tpre r s t) (k := k + 1 + 1) (by omega) (put_row (pre := tpre r s t) (k := k + 1) (by omega) H1.out), put_off (by omega) (put_off (by omega) H3.out), bel_cell _ (by simp) (bel_cell _ (by simp) (bel_drewN _ HB.out))⟩
      case measure => simp [intOf]; omega
    · obtain ⟨j, hj⟩ : ∃ j : Nat, j = k := ⟨k, rfl⟩
      have hr1 : r - 1 = (k : Int) + 1 := by omega
      have z1 : (0 : Int) ≤ r - 1 := by omega
      have z2 : r - 1 < 12 := by omega
      have t1 : (r - 1).toNat = k + 1 := by omega
      have hE : turnE r s F fed = turnK s F fed k := by unfold turnE; rw [show (r - 2).toNat = k from by omega]
      have hP : turnP r s t F fed cover = fmul (turnK s F fed k (k + 1)) (fmul t cover) := by unfold turnP; rw [hE, t1]
      have en := EN.out
      have fe : Fin32 (turnK s F fed k (k + 1)) := by have := en.fe; rwa [hE, t1] at this
      have fp : Fin32 (fmul (turnK s F fed k (k + 1)) (fmul t cover)) := by have := en.fp; rwa [hP] at this
      have e8 := fun w => run_fmul (P := Try.prog) w 25 fe en.fk
      have e9 := fun w => run_fsub (P := Try.prog) w 25 fe fp
      have HE := Lib.hid hE
      have HP := Lib.hid hP
      clear hr1 hj hE hP en fe fp
      have c1 : wr.cell? ⟨w.heap.size, 3 + (k + 1), none⟩ = some (.float .f32 (turnK s F fed k (k + 1))) := (cell_of_row wr _ (3 + (k + 1)) _ _ _ h1).trans (row_k3 _ _ _ _ _ (by omega))
      have c2 : wr.cell? ⟨w.heap.size, 2, none⟩ = some (.float .f32 t) := (cell_of_row wr _ 2 _ _ _ h1).trans (row_g2 _ _ _ _ _ _)
      have f1 : wr.frozen? ⟨w.heap.size, 3 + (k + 1), none⟩ = false := frozen_of_row wr _ _ _ _ h1
      have k0 : (0 : Int) ≤ (k : Int) := by omega
      have k1 : (k : Int) + 1 < 12 := by omega
      have HF : train r s t (upd (turnK s F fed k) (k + 1) (fsub (turnK s F fed k (k + 1)) (fmul (turnK s F fed k (k + 1)) (fmul t cover)))) = train r s t (turnF r s t F fed cover) := by unfold turnF; rw [HP.out, HE.out, t1]
      have hq : (wr.setCell ⟨w.heap.size, 3 + (k + 1), none⟩ (.float .f32 (fsub (turnK s F fed k (k + 1)) (fmul (turnK s F fed k (k + 1)) (fmul t cover))))).heap[w.heap.size]? = some (.cells (train r s t (turnF r s t F fed cover)) 28 (0, 0)) := by
        rw [← HF]
        exact put_row (pre := tpre r s t) (k := k + 1) (by omega) h1
      have hz3 := put_off (g := w.heap.size) (o := 3 + (k + 1)) (v := .float .f32 (fsub (turnK s F fed k (k + 1)) (fmul (turnK s F fed k (k + 1)) (fmul t cover)))) (i := w.heap.size + 1) (by omega) H3.out
      go_wp2
      have HP' := HP.out
      have ho := HO.out
      refine wp_region_noPanic ?_
      refine wp_region_held_drew (S := fun w' => w'.heap[w.heap.size]? = some (.cells (train r s t (turnF r s t F fed cover)) 28 (0, 0))) (by kernel_rfl) ?_ (fun hHeld => ?_)
      · exact (by repeat (first | (with_reducible assumption) | ((with_reducible refine blk_new _ _ _ ?_); focus (simp; done)) | ((with_reducible refine blk_old _ _ _ ?_ ?_); focus (simp; done)) | ((with_reducible refine blk_old _ _ _ ?_ ?_); focus (first | omega | (simp; omega))) | ((with_reducible apply blk_set); focus (simp; done)) | ((with_reducible refine blk_off _ _ _ _ ?_ ?_); focus (simp; done)) | ((with_reducible refine blk_offc _ _ _ _ ?_ ?_); focus (first | (simp; done) | omega | (simp; omega))) | ((with_reducible refine blk_off _ _ _ _ ?_ ?_); focus (first | omega | (simp; omega))) | (with_reducible refine blk_drew _ _ ?_) | ((with_reducible refine blk_below (by assumption) ?_ ?_); focus (simp; done)) | ((with_reducible refine blk_below (by assumption) ?_ ?_); focus (first | omega | (simp; omega)))))
      refine wpAnyH_take (i := 0) rfl (by kernel_rfl) (by kernel_rfl) (by kernel_rfl) (fun _ _ _ h => h) (yieldsIf_load_row (by rfl) 28 _ rfl _ (by rfl) _ _ _ 28 (0, 0) _ (fun _ h => h) Try.underlying28 rfl (by kernel_rfl)) hHeld ?_
      simp only [Act.put, List.setIfInBounds_toArray, List.set_cons_zero, List.set_cons_succ]
      refine wpAnyH_take (i := 1) (v := .float .f32 (fmul (turnK s F fed k (k + 1)) (fmul t cover))) rfl (by kernel_rfl) (by kernel_rfl) (by kernel_rfl) (fun _ _ _ h => h) (Or.inl ⟨by rfl, fun w hSw => by clear hSw; go_simp⟩) hHeld ?_
      simp only [Act.put, List.setIfInBounds_toArray, List.set_cons_zero, List.set_cons_succ]
      refine wpAnyH_ready (rs := [2]) (by kernel_rfl) (by simp) ?_
      refine AllReadyH.cons rfl (fun K hK => ?_) AllReadyH.nil
      go_simp
      (go_at_call 52; (with_reducible refine (specOk_any r s t (turnF r s t F fed cover) _ lr ur _ ?_).mono ?_); (focus (repeat (first | (with_reducible assumption) | ((with_reducible refine blk_new _ _ _ ?_); focus (simp; done)) | ((with_reducible refine blk_old _ _ _ ?_ ?_); focus (simp; done)) | ((with_reducible refine blk_old _ _ _ ?_ ?_); focus (first | omega | (simp; omega))) | ((with_reducible apply blk_set); focus (simp; done)) | ((with_reducible refine blk_off _ _ _ _ ?_ ?_); focus (simp; done)) | ((with_reducible refine blk_offc _ _ _ _ ?_ ?_); focus (first | (simp; done) | omega | (simp; omega))) | ((with_reducible refine blk_off _ _ _ _ ?_ ?_); focus (first | omega | (simp; omega))) | (with_reducible refine blk_drew _ _ ?_) | ((with_reducible refine blk_below (by assumption) ?_ ?_); focus (simp; done)) | ((with_reducible refine blk_below (by assumption) ?_ ?_); focus (first | omega | (simp; omega)))))); rintro e w' ⟨rfl, rfl⟩)
      (try go_wp2_with fail)
      refine hK.out _ _ ?_ (fun hHeld => ?_)
      · exact (by repeat (first | (with_reducible assumption) | ((with_reducible refine blk_new _ _ _ ?_); focus (simp; done)) | ((with_reducible refine blk_old _ _ _ ?_ ?_); focus (simp; done)) | ((with_reducible refine blk_old _ _ _ ?_ ?_); focus (first | omega | (simp; omega))) | ((with_reducible apply blk_set); focus (simp; done)) | ((with_reducible refine blk_off _ _ _ _ ?_ ?_); focus (simp; done)) | ((with_reducible refine blk_offc _ _ _ _ ?_ ?_); focus (first | (simp; done) | omega | (simp; omega))) | ((with_reducible refine blk_off _ _ _ _ ?_ ?_); focus (first | omega | (simp; omega))) | (with_reducible refine blk_drew _ _ ?_) | ((with_reducible refine blk_below (by assumption) ?_ ?_); focus (simp; done)) | ((with_reducible refine blk_below (by assumption) ?_ ?_); focus (first | omega | (simp; omega)))))
      clear hK K
      (try simp only [Act.put, List.setIfInBounds_toArray, List.set_cons_zero, List.set_cons_succ])
      refine wpAnyH_ready (rs := [3]) (by kernel_rfl) (by simp) ?_
      refine AllReadyH.cons rfl (fun K hK => ?_) AllReadyH.nil
      simp only [List.getElem_toArray, List.getElem_cons_succ, List.getElem_cons_zero]
      rw [if_pos (by rfl)]
      refine wp_store_row 28 (.tmp 6) (.tmp 89) (by rfl) _ [.int .i8 0, .float .f32 0, .float .f32 0] (tpre r s t) 12 (fun _ => 0) (turnF r s t F fed cover) (by rfl) (by rfl) 28 (by repeat (first | (with_reducible assumption) | ((with_reducible refine blk_new _ _ _ ?_); focus (simp; done)) | ((with_reducible refine blk_old _ _ _ ?_ ?_); focus (simp; done)) | ((with_reducible refine blk_old _ _ _ ?_ ?_); focus (first | omega | (simp; omega))) | ((with_reducible apply blk_set); focus (simp; done)) | ((with_reducible refine blk_off _ _ _ _ ?_ ?_); focus (simp; done)) | ((with_reducible refine blk_offc _ _ _ _ ?_ ?_); focus (first | (simp; done) | omega | (simp; omega))) | ((with_reducible refine blk_off _ _ _ _ ?_ ?_); focus (first | omega | (simp; omega))) | (with_reducible refine blk_drew _ _ ?_) | ((with_reducible refine blk_below (by assumption) ?_ ?_); focus (simp; done)) | ((with_reducible refine blk_below (by assumption) ?_ ?_); focus (first | omega | (simp; omega))))) rfl (by kernel_rfl) rfl ?_
      refine hK.out _ _ ?_ (fun hHeld => ?_)
      · exact (by repeat (first | (with_reducible assumption) | ((with_reducible refine blk_new _ _ _ ?_); focus (simp; done)) | ((with_reducible refine blk_old _ _ _ ?_ ?_); focus (simp; done)) | ((with_reducible refine blk_old _ _ _ ?_ ?_); focus (first | omega | (simp; omega))) | ((with_reducible apply blk_set); focus (simp; done)) | ((with_reducible refine blk_off _ _ _ _ ?_ ?_); focus (simp; done)) | ((with_reducible refine blk_offc _ _ _ _ ?_ ?_); focus (first | (simp; done) | omega | (simp; omega))) | ((with_reducible refine blk_off _ _ _ _ ?_ ?_); focus (first | omega | (simp; omega))) | (with_reducible refine blk_drew _ _ ?_) | ((with_reducible refine blk_below (by assumption) ?_ ?_); focus (simp; done)) | ((with_reducible refine blk_below (by assumption) ?_ ?_); focus (first | omega | (simp; omega)))))
      clear hK K
      (try simp only [Act.put, List.setIfInBounds_toArray, List.set_cons_zero, List.set_cons_succ])
      refine wpAnyH_ready (rs := [4]) (by kernel_rfl) (by simp) ?_
      refine AllReadyH.cons rfl (fun K hK => ?_) AllReadyH.nil
      go_simp
      refine hK.out _ _ ?_ (fun hHeld => ?_)
      · exact (by repeat (first | (with_reducible assumption) | ((with_reducible refine blk_new _ _ _ ?_); focus (simp; done)) | ((with_reducible refine blk_old _ _ _ ?_ ?_); focus (simp; done)) | ((with_reducible refine blk_old _ _ _ ?_ ?_); focus (first | omega | (simp; omega))) | ((with_reducible apply blk_set); focus (simp; done)) | ((with_reducible refine blk_off _ _ _ _ ?_ ?_); focus (simp; done)) | ((with_reducible refine blk_offc _ _ _ _ ?_ ?_); focus (first | (simp; done) | omega | (simp; omega))) | ((with_reducible refine blk_off _ _ _ _ ?_ ?_); focus (first | omega | (simp; omega))) | (with_reducible refine blk_drew _ _ ?_) | ((with_reducible refine blk_below (by assumption) ?_ ?_); focus (simp; done)) | ((with_reducible refine blk_below (by assumption) ?_ ?_); focus (first | omega | (simp; omega)))))
      clear hK K
      (try simp only [Act.put, List.setIfInBounds_toArray, List.set_cons_zero, List.set_cons_succ])
      refine wpAnyH_ready (rs := [5]) (by kernel_rfl) (by simp) ?_
      refine AllReadyH.cons rfl (fun K hK => ?_) AllReadyH.nil
      go_simp
      refine hK.out _ _ ?_ (fun hHeld => ?_)
      · exact (by repeat (first | (with_reducible assumption) | ((with_reducible refine blk_new _ _ _ ?_); focus (simp; done)) | ((with_reducible refine blk_old _ _ _ ?_ ?_); focus (simp; done)) | ((with_reducible refine blk_old _ _ _ ?_ ?_); focus (first | omega | (simp; omega))) | ((with_reducible apply blk_set); focus (simp; done)) | ((with_reducible refine blk_off _ _ _ _ ?_ ?_); focus (simp; done)) | ((with_reducible refine blk_offc _ _ _ _ ?_ ?_); focus (first | (simp; done) | omega | (simp; omega))) | ((with_reducible refine blk_off _ _ _ _ ?_ ?_); focus (first | omega | (simp; omega))) | (with_reducible refine blk_drew _ _ ?_) | ((with_reducible refine blk_below (by assumption) ?_ ?_); focus (simp; done)) | ((with_reducible refine blk_below (by assumption) ?_ ?_); focus (first | omega | (simp; omega)))))
      clear hK K
      (try simp only [Act.put, List.setIfInBounds_toArray, List.set_cons_zero, List.set_cons_succ])
      refine wpAnyH_done (by kernel_rfl) ?_ _
      refine NoPanic.normal ?_
      clear hHeld
      have hb := HB.out
      go_wp2
      refine bodyPost_ret (v := .tuple #[.agg (train r s t (turnF r s t F fed cover)), .float .f32 (fmul (turnK s F fed k (k + 1)) (fmul t cover)), .bool (trainB r s t (turnF r s t F fed cover))]) ?_ ?_ ?_
      · refine results_row_tmp2 Try.results42 _ _ _ 28 (train r s t (turnF r s t F fed cover)) (0, 0) _ _ _ rfl rfl rfl ?_ Try.underlying28 rfl (by simp only [row_size]; kernel_rfl)
        exact (by repeat (first | (with_reducible assumption) | ((with_reducible refine blk_new _ _ _ ?_); focus (simp; done)) | ((with_reducible refine blk_old _ _ _ ?_ ?_); focus (simp; done)) | ((with_reducible refine blk_old _ _ _ ?_ ?_); focus (first | omega | (simp; omega))) | ((with_reducible apply blk_set); focus (simp; done)) | ((with_reducible refine blk_off _ _ _ _ ?_ ?_); focus (simp; done)) | ((with_reducible refine blk_offc _ _ _ _ ?_ ?_); focus (first | (simp; done) | omega | (simp; omega))) | ((with_reducible refine blk_off _ _ _ _ ?_ ?_); focus (first | omega | (simp; omega))) | (with_reducible refine blk_drew _ _ ?_) | ((with_reducible refine blk_below (by assumption) ?_ ?_); focus (simp; done)) | ((with_reducible refine blk_below (by assumption) ?_ ?_); focus (first | omega | (simp; omega)))))
      · rfl
      · exact ⟨by rw [HP.out], (by repeat (first | (with_reducible assumption) | (with_reducible exact Below.refl _ _) | ((with_reducible refine bel_alloc _ ?_ ?_); focus (first | omega | (simp; done) | (simp; omega))) | ((with_reducible refine bel_row _ ?_ ?_); focus (first | omega | (simp; done) | (simp; omega))) | ((with_reducible refine bel_cell _ ?_ ?_); focus (first | omega | (simp; done) | (simp; omega))) | (with_reducible refine Below.drew ?_) | (with_reducible refine below_wideW _ ?_) | ((with_reducible refine bel_next (by assumption) ?_ ?_); focus (first | omega | (simp; done) | (simp; omega)))))⟩
end Go.Proofs.Ytiddeijhjedbbaa
