/- Parts of a proof, merged; each under its own premises. -/
import Derived.Test.YtkokekndiammpaaGreatDoorPB
import Derived.StillTailTactics
import Derived.Test.YtkokekndiammpaaGreatDoorPA
import Derived.Laws.Cover2

/-! The contract of turn. -/
set_option linter.unusedVariables false
set_option linter.unusedSimpArgs false
namespace Go.Proofs.YtkokekndiammpaaGreatDoor
open Go.RowKit Ieee

theorem wp_name {P : Program} {c : Code} {Q : Exit → Act → World → Prop} {a : Act} {w : World} (S : World → Prop) (hS : S w) (h : ∀ W, S W → c.wp P Q a W) : c.wp P Q a w := h w hS
theorem implMul_any {a b : Nat} (h1 : Fin32 a) (h2 : Fin32 b) (w : World) : Calls Tryz.prog 65 #[.float .f32 a, .float .f32 b] w fun e w' => e = .returned (.float .f32 (fmul a b)) ∧ w = w' := by
  have e1 := fun w => run_fmul (P := Tryz.prog) w 25 h1 h2
  have hcs := fun b w => run_conv_same (P := Tryz.prog) 25 25 .f32 b w (by kernel_rfl) (by kernel_rfl)
  go_enter Tryz.func65, Tryz.ntmps65
  go_wp2
  go_ret
  exact ⟨rfl, rfl⟩
theorem implMul_q {a b : Nat} (h1 : Fin32 a) (h2 : Fin32 b) (w : World) (n : Nat) : Calls Tryz.prog 65 #[.float .f32 a, .float .f32 b] (w.drewN n) fun e w' => e = .returned (.float .f32 (fmul a b)) ∧ ∃ m, w' = w.drewN m := quiet_same (implMul_any h1 h2 _)

set_option maxRecDepth 100000 in
set_option maxHeartbeats 3200000 in
theorem implTurn_any (r : Int) (s t : Nat) (F : Nat → Nat) (fed cover : Nat) (w : World) (lr : -128 ≤ r) (ur : r ≤ 127) (ho : trainB r s t F = true) (hf : filmB fed = true) (hc : partB cover = true) : Calls Tryz.prog 47 #[.agg (train r s t F), .float .f32 fed, .float .f32 cover] w fun e w' => e = .returned (.tuple #[.agg (train r s t (turnF r s t F fed cover)), .float .f32 (turnP r s t F fed cover), .bool (trainB r s t (turnF r s t F fed cover))]) ∧ Below w.heap.size w w' := by
  have hz : (#[Value.int IntKind.i8 0, Value.float FloatKind.f32 0, Value.float FloatKind.f32 0, Value.float FloatKind.f32 0, Value.float FloatKind.f32 0, Value.float FloatKind.f32 0, Value.float FloatKind.f32 0, Value.float FloatKind.f32 0, Value.float FloatKind.f32 0, Value.float FloatKind.f32 0, Value.float FloatKind.f32 0, Value.float FloatKind.f32 0, Value.float FloatKind.f32 0, Value.float FloatKind.f32 0, Value.float FloatKind.f32 0] : Array Value) = row [Value.int IntKind.i8 0, Value.float FloatKind.f32 0, Value.float FloatKind.f32 0] 12 (fun _ => 0) := rfl
  obtain ⟨h2, h12, _, _, _, _⟩ := trainB_facts ho
  have st := turn_start ho hf
  have en := turn_end ho hf hc
  have ST := Lib.hid st
  have EN := Lib.hid en
  have e1 := fun w => run_fadd (P := Tryz.prog) w 25 st.fa st.ff
  have e3 := fun w => run_fsub (P := Tryz.prog) w 25 st.ha.1 st.ho.1
  have e4 := fun w => run_fadd (P := Tryz.prog) w 25 st.f1 st.ho.1
  have hm1 := fun w n => implMul_q st.hs st.ha.1 w n
  have hm2 := fun w n => implMul_q en.ft en.fc w n
  have e5 := turnK_up ho hf
  have E5 := Lib.hid e5
  have HO := Lib.hid ho
  have hAe : fadd (F 0) fed = turnA F fed := rfl
  have hOe : fmul s (turnA F fed) = turnO s F fed := rfl
  rw [hAe] at e1
  rw [hOe] at hm1
  generalize hAA : turnA F fed = A at e1 e3 hm1
  generalize hOO : turnO s F fed = O at e3 e4 hm1
  have HAA := Lib.hid hAA
  have HOO := Lib.hid hOO
  clear st en e5 ho hAe hOe hAA hOO
  have hcs := fun b w => run_conv_same (P := Tryz.prog) 25 25 .f32 b w (by kernel_rfl) (by kernel_rfl)
  go_enter Tryz.func47, Tryz.ntmps47
  go_wp2
  go_quiet (fail)
  go_wp2
  refine wp_name (fun W => W.heap[w.heap.size]? = some (.cells (train r s t (F)) 28 (0, 0)) ∧ W.heap[w.heap.size + 1]? = some (.cells (train 0 0 0 (fun _ => 0)) 28 (0, 0)) ∧ Below w.heap.size w W) ⟨(by repeat (first | (with_reducible assumption) | (with_reducible refine blk_drewN _ _ _ ?_) | ((with_reducible refine blk_new _ _ _ ?_); focus (simp; done)) | ((with_reducible refine blk_old _ _ _ ?_ ?_); focus (simp; done)) | ((with_reducible refine blk_old _ _ _ ?_ ?_); focus (first | omega | (simp; omega))) | ((with_reducible apply blk_set); focus (simp; done)) | ((with_reducible refine blk_off _ _ _ _ ?_ ?_); focus (simp; done)) | ((with_reducible refine blk_offc _ _ _ _ ?_ ?_); focus (first | (simp; done) | omega | (simp; omega))) | ((with_reducible refine blk_off _ _ _ _ ?_ ?_); focus (first | omega | (simp; omega))) | (with_reducible refine blk_drew _ _ ?_) | ((with_reducible refine blk_below (by assumption) ?_ ?_); focus (simp; done)) | ((with_reducible refine blk_below (by assumption) ?_ ?_); focus (first | omega | (simp; omega))))), (by repeat (first | (with_reducible assumption) | (with_reducible refine blk_drewN _ _ _ ?_) | ((with_reducible refine blk_new _ _ _ ?_); focus (simp; done)) | ((with_reducible refine blk_old _ _ _ ?_ ?_); focus (simp; done)) | ((with_reducible refine blk_old _ _ _ ?_ ?_); focus (first | omega | (simp; omega))) | ((with_reducible apply blk_set); focus (simp; done)) | ((with_reducible refine blk_off _ _ _ _ ?_ ?_); focus (simp; done)) | ((with_reducible refine blk_offc _ _ _ _ ?_ ?_); focus (first | (simp; done) | omega | (simp; omega))) | ((with_reducible refine blk_off _ _ _ _ ?_ ?_); focus (first | omega | (simp; omega))) | (with_reducible refine blk_drew _ _ ?_) | ((with_reducible refine blk_below (by assumption) ?_ ?_); focus (simp; done)) | ((with_reducible refine blk_below (by assumption) ?_ ?_); focus (first | omega | (simp; omega))))), (by repeat (first | (with_reducible assumption) | (with_reducible refine bel_drewN _ ?_) | (with_reducible exact Below.refl _ _) | ((with_reducible refine bel_alloc _ ?_ ?_); focus (first | omega | (simp; done) | (simp; omega))) | ((with_reducible refine bel_row _ ?_ ?_); focus (first | omega | (simp; done) | (simp; omega))) | ((with_reducible refine bel_cell _ ?_ ?_); focus (first | omega | (simp; done) | (simp; omega))) | (with_reducible refine Below.drew ?_) | (with_reducible refine below_wideW _ ?_) | ((with_reducible refine bel_next (by assumption) ?_ ?_); focus (first | omega | (simp; done) | (simp; omega)))))⟩ (fun W1 ⟨b1, b2, b5⟩ => ?_)
  have c0 : W1.cell? ⟨w.heap.size, 3, none⟩ = some (.float .f32 (F 0)) := by
    have := (cell_of_row W1 _ 3 _ _ _ b1).trans (row_k3 _ _ _ _ _ (by omega : 0 < 12))
    simpa [upd] using this
  have fz : ∀ o, W1.frozen? ⟨w.heap.size, o, none⟩ = false := fun o => frozen_of_row W1 _ _ _ _ b1
  have B1 := Lib.hid b1
  have B2 := Lib.hid b2
  have B5 := Lib.hid b5
  clear b1 b2 b5
  go_still_tail 9, (by kernel_rfl)
  go_wp2
  refine wp_name (fun W => W.heap[w.heap.size]? = some (.cells (train r s t (upd F 0 A)) 28 (0, 0)) ∧ W.heap[w.heap.size + 1]? = some (.cells (train 0 0 0 (fun _ => 0)) 28 (0, 0)) ∧ Below w.heap.size w W) ⟨(blk_drew _ _ (put_row (pre := tpre r s t) (k := 0) (by omega) B1.out)), (blk_drew _ _ (put_off (by omega) B2.out)), (Below.drew (bel_cell _ (by simp) B5.out))⟩ (fun W2 ⟨b1, b2, b5⟩ => ?_)
  clear B1 B2 B5 c0 fz
  have c0 : W2.cell? ⟨w.heap.size, 3, none⟩ = some (.float .f32 (A)) := by
    have := (cell_of_row W2 _ 3 _ _ _ b1).trans (row_k3 _ _ _ _ _ (by omega : 0 < 12))
    simpa [upd] using this
  have fz : ∀ o, W2.frozen? ⟨w.heap.size, o, none⟩ = false := fun o => frozen_of_row W2 _ _ _ _ b1
  have cs : W2.cell? ⟨w.heap.size, 1, none⟩ = some (.float .f32 s) := (cell_of_row W2 _ 1 _ _ _ b1).trans (row_g1 _ _ _ _ _)
  have B1 := Lib.hid b1
  have B2 := Lib.hid b2
  have B5 := Lib.hid b5
  clear b1 b2 b5
  go_quiet ((go_at_call 65; with_reducible exact hm1 _ _))
  go_wp2
  refine wp_name (fun W => W.heap[w.heap.size]? = some (.cells (train r s t (upd F 0 A)) 28 (0, 0)) ∧ W.heap[w.heap.size + 1]? = some (.cells (train 0 0 0 (fun _ => 0)) 28 (0, 0)) ∧ Below w.heap.size w W) ⟨blk_drewN _ _ _ B1.out, blk_drewN _ _ _ B2.out, bel_drewN _ B5.out⟩ (fun W3 ⟨b1, b2, b5⟩ => ?_)
  clear B1 B2 B5 c0 cs fz
  have c0 : W3.cell? ⟨w.heap.size, 3, none⟩ = some (.float .f32 (A)) := by
    have := (cell_of_row W3 _ 3 _ _ _ b1).trans (row_k3 _ _ _ _ _ (by omega : 0 < 12))
    simpa [upd] using this
  have fz : ∀ o, W3.frozen? ⟨w.heap.size, o, none⟩ = false := fun o => frozen_of_row W3 _ _ _ _ b1
  have B1 := Lib.hid b1
  have B2 := Lib.hid b2
  have B5 := Lib.hid b5
  clear b1 b2 b5
  go_still_tail 9, (by kernel_rfl)
  go_wp2
  refine wp_name (fun W => W.heap[w.heap.size]? = some (.cells (train r s t (upd (upd F 0 A) 0 (fsub A O))) 28 (0, 0)) ∧ W.heap[w.heap.size + 1]? = some (.cells (train 0 0 0 (fun _ => 0)) 28 (0, 0)) ∧ Below w.heap.size w W) ⟨(blk_drew _ _ (put_row (pre := tpre r s t) (k := 0) (by omega) B1.out)), (blk_drew _ _ (put_off (by omega) B2.out)), (Below.drew (bel_cell _ (by simp) B5.out))⟩ (fun W4 ⟨b1, b2, b5⟩ => ?_)
  clear B1 B2 B5 c0 fz
  have c1 : W4.cell? ⟨w.heap.size, 4, none⟩ = some (.float .f32 (F 1)) := by
    have := (cell_of_row W4 _ 4 _ _ _ b1).trans (row_k3 _ _ _ _ _ (by omega : 1 < 12))
    simpa [upd] using this
  have fz : ∀ o, W4.frozen? ⟨w.heap.size, o, none⟩ = false := fun o => frozen_of_row W4 _ _ _ _ b1
  have B1 := Lib.hid b1
  have B2 := Lib.hid b2
  have B5 := Lib.hid b5
  clear b1 b2 b5
  go_still_tail 9, (by kernel_rfl)
  go_wp2
  have hT0 : upd (upd (upd F 0 A) 0 (fsub A O)) 1 (fadd (F 1) O) = turnK s F fed 0 := by unfold turnK turn0; rw [HAA.out, HOO.out]; rw [upd_00]
  refine wp_name (fun W => W.heap[w.heap.size]? = some (.cells (train r s t (turnK s F fed 0)) 28 (0, 0)) ∧ W.heap[w.heap.size + 1]? = some (.cells (train 0 0 0 (fun _ => 0)) 28 (0, 0)) ∧ Below w.heap.size w W) ⟨by rw [← hT0]; exact blk_drew _ _ (put_row (pre := tpre r s t) (k := 1) (by omega) B1.out), blk_drew _ _ (put_off (by omega) B2.out), Below.drew (bel_cell _ (by simp) B5.out)⟩ (fun W5 ⟨b1, b2, b5⟩ => ?_)
  clear B1 B2 B5 c1 fz hT0 e1 e3 e4 hm1 HAA HOO
  have B1 := Lib.hid b1
  have B2 := Lib.hid b2
  have B5 := Lib.hid b5
  clear b1 b2 b5
  go_loopw [12] (fun i wr => ∃ k : Nat, (k : Int) + 2 ≤ r ∧ i = .int .i64 (k + 1) ∧ wr.heap[w.heap.size]? = some (.cells (train r s t (turnK s F fed k)) 28 (0, 0)) ∧ wr.heap[w.heap.size + 1]? = some (.cells (train 0 0 0 (fun _ => 0)) 28 (0, 0)) ∧ Below w.heap.size w wr) (fun i _ => 12 - (intOf i).toNat)
  case atStart => exact ⟨0, by omega, by go_num, B1.out, B2.out, B5.out⟩
  case round =>
    obtain ⟨k, hk, rfl, h1, h3, hb⟩ := hrel
    have HB := Lib.hid hb
    have H3 := Lib.hid h3
    clear hb h3 B1 B2 B5
    by_cases hlt : (k : Int) + 3 ≤ r
    · have c1 : wr.cell? ⟨w.heap.size, 3 + (k + 1), none⟩ = some (.float .f32 (turnK s F fed k (k + 1))) := (cell_of_row wr _ (3 + (k + 1)) _ _ _ h1).trans (row_k3 _ _ _ _ _ (by omega))
      have c2 : wr.cell? ⟨w.heap.size, 3 + (k + 1 + 1), none⟩ = some (.float .f32 (turnK s F fed k (k + 1 + 1))) := (cell_of_row wr _ (3 + (k + 1 + 1)) _ _ _ h1).trans (row_k3 _ _ _ _ _ (by omega))
      have f1 : wr.frozen? ⟨w.heap.size, 3 + (k + 1), none⟩ = false := frozen_of_row wr _ _ _ _ h1
      have f2 : wr.frozen? ⟨w.heap.size, 3 + (k + 1 + 1), none⟩ = false := frozen_of_row wr _ _ _ _ h1
      have H1 := Lib.hid h1
      have u1 := E5.out k hk (k + 1) (by omega) (by omega)
      have u2 := E5.out k hk (k + 1 + 1) (by omega) (by omega)
      have hh := half_up (c := 1245708288) (c2 := 1254096896) (by decide) (by decide) (by decide +kernel) (by decide +kernel) u1 u2
      have U1 := Lib.hid (show Fin32 _ from u1.1)
      have U2 := Lib.hid (show Fin32 _ from u2.1)
      have HH := Lib.hid hh.1
      clear h1 u1 u2 hh
      have k0 : (0 : Int) ≤ (k : Int) := by omega
      have k1 : (k : Int) + 1 < 12 := by omega
      have k2 : (k : Int) + 1 + 1 < 12 := by omega
      have z1 : (0 : Int) ≤ (k : Int) + 1 := by omega
      have z2 : (0 : Int) ≤ (k : Int) + 1 + 1 := by omega
      have t1 : ((k : Int) + 1).toNat = k + 1 := by omega
      have t2 : ((k : Int) + 1 + 1).toNat = k + 1 + 1 := by omega
      have wr1 : IntKind.i64.wrap ((k : Int) + 1 + 1) = (k : Int) + 1 + 1 := IntWalk.i64_in _ (by omega)
      have hltb : (k : Int) + 1 < r - 1 := by omega
      go_wp2
      go_quiet ((go_at_call 66; with_reducible exact implSplit_q U1.out U2.out HH.out _ _))
      go_wp2
      go_region
      all_goals (go_wp2; go_roundw; (case rel => exact ⟨k + 1, by omega, by go_num, put_row (pre := tpre r s t) (k := k + 1 + 1) (by omega) (put_row (pre := tpre r s t) (k := k + 1) (by omega) (blk_drewN _ _ _ H1.out)), put_off (by omega) (put_off (by omega) (blk_drewN _ _ _ H3.out)), bel_cell _ (by simp) (bel_cell _ (by simp) (bel_drewN _ HB.out))⟩); (case measure => simp [intOf]; omega))
    · have hkr : r = (k : Int) + 2 := by omega
      have hltb : ¬ (k : Int) + 1 < r - 1 := by omega
      have hltc : decide ((k : Int) + 1 < r - 1) = false := by simpa using hltb
      have z1 : (0 : Int) ≤ r - 1 := by omega
      have z2 : r - 1 < 12 := by omega
      have z3 : 1 ≤ r := by omega
      have z4 : r < 13 := by omega
      have z5 : r < 12 + 1 := by omega
      have t1 : (r - 1).toNat = k + 1 := by omega
      have hE : turnE r s F fed = turnK s F fed k := by unfold turnE; rw [show (r - 2).toNat = k from by omega]
      have hP : turnP r s t F fed cover = fmul (turnK s F fed k (k + 1)) (fmul t cover) := by unfold turnP; rw [hE, t1]
      have en := EN.out
      have fe : Fin32 (turnK s F fed k (k + 1)) := by have := en.fe; rwa [hE, t1] at this
      have fp : Fin32 (fmul (turnK s F fed k (k + 1)) (fmul t cover)) := by have := en.fp; rwa [hP] at this
      have hm3 := fun w n => implMul_q fe en.fk w n
      have e9 := fun w => run_fsub (P := Tryz.prog) w 25 fe fp
      have HF : train r s t (upd (turnK s F fed k) (k + 1) (fsub (turnK s F fed k (k + 1)) (fmul (turnK s F fed k (k + 1)) (fmul t cover)))) = train r s t (turnF r s t F fed cover) := by unfold turnF; rw [hP, hE, t1]
      have HP := Lib.hid hP
      have HHF := Lib.hid HF
      have c1 : wr.cell? ⟨w.heap.size, 3 + (k + 1), none⟩ = some (.float .f32 (turnK s F fed k (k + 1))) := (cell_of_row wr _ (3 + (k + 1)) _ _ _ h1).trans (row_k3 _ _ _ _ _ (by omega))
      have c2 : wr.cell? ⟨w.heap.size, 2, none⟩ = some (.float .f32 t) := (cell_of_row wr _ 2 _ _ _ h1).trans (row_g2 _ _ _ _ _ _)
      have H1 := Lib.hid h1
      have k0 : (0 : Int) ≤ (k : Int) := by omega
      have k12 : k + 1 < 12 := by omega
      clear hkr hE hP en fe fp HF h1 hltb
      go_wp2
      go_quiet (first | (go_at_call 65; with_reducible exact hm2 _ _) | (go_at_call 65; with_reducible exact hm3 _ _))
      go_wp2
      refine wp_name (fun W => W.heap[w.heap.size]? = some (.cells (train r s t (turnK s F fed k)) 28 (0, 0)) ∧ W.heap[w.heap.size + 1]? = some (.cells (train 0 0 0 (fun _ => 0)) 28 (0, 0)) ∧ Below w.heap.size w W) ⟨blk_drewN _ _ _ H1.out, blk_drewN _ _ _ H3.out, bel_drewN _ HB.out⟩ (fun W6 ⟨b1, b2, b5⟩ => ?_)
      clear c1 c2 H1 H3 HB hm2 hm3
      have c1 : W6.cell? ⟨w.heap.size, 3 + (k + 1), none⟩ = some (.float .f32 (turnK s F fed k (k + 1))) := (cell_of_row W6 _ (3 + (k + 1)) _ _ _ b1).trans (row_k3 _ _ _ _ _ (by omega))
      have f1 : W6.frozen? ⟨w.heap.size, 3 + (k + 1), none⟩ = false := frozen_of_row W6 _ _ _ _ b1
      have B1 := Lib.hid b1
      have B2 := Lib.hid b2
      have B5 := Lib.hid b5
      clear b1 b2 b5
      go_still_tail 11, (by kernel_rfl)
      go_wp2
      refine wp_name (fun W => W.heap[w.heap.size]? = some (.cells (train r s t (turnF r s t F fed cover)) 28 (0, 0)) ∧ W.heap[w.heap.size + 1]? = some (.cells (train 0 0 0 (fun _ => 0)) 28 (0, 0)) ∧ Below w.heap.size w W) ⟨by rw [← HHF.out]; exact blk_drew _ _ (put_row (pre := tpre r s t) (k := k + 1) (by omega) B1.out), blk_drew _ _ (put_off (by omega) B2.out), Below.drew (bel_cell _ (by simp) B5.out)⟩ (fun W7 ⟨b1, b2, b5⟩ => ?_)
      clear B1 B2 B5 c1 f1 e9 HHF
      have hz7 := b5.size
      have hsz7 : w.heap.size + 1 < W7.heap.size := by
        cases hlt : decide (w.heap.size + 1 < W7.heap.size)
        · simp only [decide_eq_false_iff_not] at hlt
          rw [Array.getElem?_eq_none (by omega)] at b2
          cases b2
        · simpa using hlt
      refine wp_region_noPanic ?_
      refine wp_region_held_drew (S := (fun w' => w'.heap[w.heap.size]? = some (.cells (train r s t (turnF r s t F fed cover)) 28 (0, 0)) ∧ w'.heap[w.heap.size]? = some (.cells (train r s t (turnF r s t F fed cover)) 28 (0, 0)))) (by kernel_rfl) ?_ (fun hHeld => ?_)
      · exact ⟨(by repeat (first | (with_reducible assumption) | ((with_reducible refine blk_new _ _ _ ?_); focus (simp; done)) | ((with_reducible refine blk_old _ _ _ ?_ ?_); focus (simp; done)) | ((with_reducible refine blk_old _ _ _ ?_ ?_); focus (first | omega | (simp; omega))) | ((with_reducible apply blk_set); focus (simp; done)) | ((with_reducible refine blk_off _ _ _ _ ?_ ?_); focus (simp; done)) | ((with_reducible refine blk_offc _ _ _ _ ?_ ?_); focus (first | (simp; done) | omega | (simp; omega))) | ((with_reducible refine blk_off _ _ _ _ ?_ ?_); focus (first | omega | (simp; omega))) | (with_reducible refine blk_drew _ _ ?_) | ((with_reducible refine blk_below (by assumption) ?_ ?_); focus (simp; done)) | ((with_reducible refine blk_below (by assumption) ?_ ?_); focus (first | omega | (simp; omega))))), (by repeat (first | (with_reducible assumption) | ((with_reducible refine blk_new _ _ _ ?_); focus (simp; done)) | ((with_reducible refine blk_old _ _ _ ?_ ?_); focus (simp; done)) | ((with_reducible refine blk_old _ _ _ ?_ ?_); focus (first | omega | (simp; omega))) | ((with_reducible apply blk_set); focus (simp; done)) | ((with_reducible refine blk_off _ _ _ _ ?_ ?_); focus (simp; done)) | ((with_reducible refine blk_offc _ _ _ _ ?_ ?_); focus (first | (simp; done) | omega | (simp; omega))) | ((with_reducible refine blk_off _ _ _ _ ?_ ?_); focus (first | omega | (simp; omega))) | (with_reducible refine blk_drew _ _ ?_) | ((with_reducible refine blk_below (by assumption) ?_ ?_); focus (simp; done)) | ((with_reducible refine blk_below (by assumption) ?_ ?_); focus (first | omega | (simp; omega)))))⟩
      refine wpAnyH_take (i := 0) rfl (by kernel_rfl) (by kernel_rfl) (by kernel_rfl) (fun _ _ _ h => h) (yieldsIf_load_row (by rfl) 28 _ rfl _ (by rfl) _ _ _ 28 (0, 0) _ (fun _ h => h.1) Tryz.underlying28 rfl (by kernel_rfl)) hHeld ?_
      simp only [Act.put, List.setIfInBounds_toArray, List.set_cons_zero, List.set_cons_succ]
      refine wpAnyH_take (i := 2) rfl (by kernel_rfl) (by kernel_rfl) (by kernel_rfl) (fun _ _ _ h => h) (yieldsIf_load_row (by rfl) 28 _ rfl _ (by rfl) _ _ _ 28 (0, 0) _ (fun _ h => h.1) Tryz.underlying28 rfl (by kernel_rfl)) hHeld ?_
      simp only [Act.put, List.setIfInBounds_toArray, List.set_cons_zero, List.set_cons_succ]
      refine wpAnyH_take (i := 1) (v := .float .f32 (fmul (turnK s F fed k (k + 1)) (fmul t cover))) rfl (by kernel_rfl) (by kernel_rfl) (by kernel_rfl) (fun _ _ _ h => h) (Or.inl ⟨by rfl, fun w hSw => by clear hSw; go_simp⟩) hHeld ?_
      simp only [Act.put, List.setIfInBounds_toArray, List.set_cons_zero, List.set_cons_succ]
      refine wpAnyH_ready (rs := [3]) (by kernel_rfl) (by simp) ?_
      refine AllReadyH.cons rfl (fun K hK => ?_) AllReadyH.nil
      go_simp
      (go_at_call 18; (with_reducible refine (implOk_any r s t (turnF r s t F fed cover) _ lr ur).mono ?_); rintro e w8 ⟨rfl, hb8⟩; have hz8 := hb8.size; (try simp at hz8); obtain ⟨hc8, hf8⟩ := bcell hb8)
      (try go_wp2_with fail)
      refine hK.out _ _ ?_ (fun hHeld => ?_)
      · exact ⟨(by repeat (first | (with_reducible assumption) | ((with_reducible refine blk_new _ _ _ ?_); focus (simp; done)) | ((with_reducible refine blk_old _ _ _ ?_ ?_); focus (simp; done)) | ((with_reducible refine blk_old _ _ _ ?_ ?_); focus (first | omega | (simp; omega))) | ((with_reducible apply blk_set); focus (simp; done)) | ((with_reducible refine blk_off _ _ _ _ ?_ ?_); focus (simp; done)) | ((with_reducible refine blk_offc _ _ _ _ ?_ ?_); focus (first | (simp; done) | omega | (simp; omega))) | ((with_reducible refine blk_off _ _ _ _ ?_ ?_); focus (first | omega | (simp; omega))) | (with_reducible refine blk_drew _ _ ?_) | ((with_reducible refine blk_below (by assumption) ?_ ?_); focus (simp; done)) | ((with_reducible refine blk_below (by assumption) ?_ ?_); focus (first | omega | (simp; omega))))), (by repeat (first | (with_reducible assumption) | ((with_reducible refine blk_new _ _ _ ?_); focus (simp; done)) | ((with_reducible refine blk_old _ _ _ ?_ ?_); focus (simp; done)) | ((with_reducible refine blk_old _ _ _ ?_ ?_); focus (first | omega | (simp; omega))) | ((with_reducible apply blk_set); focus (simp; done)) | ((with_reducible refine blk_off _ _ _ _ ?_ ?_); focus (simp; done)) | ((with_reducible refine blk_offc _ _ _ _ ?_ ?_); focus (first | (simp; done) | omega | (simp; omega))) | ((with_reducible refine blk_off _ _ _ _ ?_ ?_); focus (first | omega | (simp; omega))) | (with_reducible refine blk_drew _ _ ?_) | ((with_reducible refine blk_below (by assumption) ?_ ?_); focus (simp; done)) | ((with_reducible refine blk_below (by assumption) ?_ ?_); focus (first | omega | (simp; omega)))))⟩
      clear hK K
      (try simp only [Act.put, List.setIfInBounds_toArray, List.set_cons_zero, List.set_cons_succ])
      refine wpAnyH_ready (rs := [4]) (by kernel_rfl) (by simp) ?_
      refine AllReadyH.cons rfl (fun K hK => ?_) AllReadyH.nil
      simp only [List.getElem_toArray, List.getElem_cons_succ, List.getElem_cons_zero]
      rw [if_pos (by rfl)]
      refine wp_store_row 28 (.tmp 6) (.tmp 103) (by rfl) _ [.int .i8 0, .float .f32 0, .float .f32 0] (tpre r s t) 12 (fun _ => 0) (turnF r s t F fed cover) (by rfl) (by rfl) 28 (by repeat (first | (with_reducible assumption) | ((with_reducible refine blk_new _ _ _ ?_); focus (simp; done)) | ((with_reducible refine blk_old _ _ _ ?_ ?_); focus (simp; done)) | ((with_reducible refine blk_old _ _ _ ?_ ?_); focus (first | omega | (simp; omega))) | ((with_reducible apply blk_set); focus (simp; done)) | ((with_reducible refine blk_off _ _ _ _ ?_ ?_); focus (simp; done)) | ((with_reducible refine blk_offc _ _ _ _ ?_ ?_); focus (first | (simp; done) | omega | (simp; omega))) | ((with_reducible refine blk_off _ _ _ _ ?_ ?_); focus (first | omega | (simp; omega))) | (with_reducible refine blk_drew _ _ ?_) | ((with_reducible refine blk_below (by assumption) ?_ ?_); focus (simp; done)) | ((with_reducible refine blk_below (by assumption) ?_ ?_); focus (first | omega | (simp; omega))))) rfl (by kernel_rfl) rfl ?_
      refine hK.out _ _ ?_ (fun hHeld => ?_)
      · exact ⟨(by repeat (first | (with_reducible assumption) | ((with_reducible refine blk_new _ _ _ ?_); focus (simp; done)) | ((with_reducible refine blk_old _ _ _ ?_ ?_); focus (simp; done)) | ((with_reducible refine blk_old _ _ _ ?_ ?_); focus (first | omega | (simp; omega))) | ((with_reducible apply blk_set); focus (simp; done)) | ((with_reducible refine blk_off _ _ _ _ ?_ ?_); focus (simp; done)) | ((with_reducible refine blk_offc _ _ _ _ ?_ ?_); focus (first | (simp; done) | omega | (simp; omega))) | ((with_reducible refine blk_off _ _ _ _ ?_ ?_); focus (first | omega | (simp; omega))) | (with_reducible refine blk_drew _ _ ?_) | ((with_reducible refine blk_below (by assumption) ?_ ?_); focus (simp; done)) | ((with_reducible refine blk_below (by assumption) ?_ ?_); focus (first | omega | (simp; omega))))), (by repeat (first | (with_reducible assumption) | ((with_reducible refine blk_new _ _ _ ?_); focus (simp; done)) | ((with_reducible refine blk_old _ _ _ ?_ ?_); focus (simp; done)) | ((with_reducible refine blk_old _ _ _ ?_ ?_); focus (first | omega | (simp; omega))) | ((with_reducible apply blk_set); focus (simp; done)) | ((with_reducible refine blk_off _ _ _ _ ?_ ?_); focus (simp; done)) | ((with_reducible refine blk_offc _ _ _ _ ?_ ?_); focus (first | (simp; done) | omega | (simp; omega))) | ((with_reducible refine blk_off _ _ _ _ ?_ ?_); focus (first | omega | (simp; omega))) | (with_reducible refine blk_drew _ _ ?_) | ((with_reducible refine blk_below (by assumption) ?_ ?_); focus (simp; done)) | ((with_reducible refine blk_below (by assumption) ?_ ?_); focus (first | omega | (simp; omega)))))⟩
      clear hK K
      (try simp only [Act.put, List.setIfInBounds_toArray, List.set_cons_zero, List.set_cons_succ])
      refine wpAnyH_ready (rs := [5]) (by kernel_rfl) (by simp) ?_
      refine AllReadyH.cons rfl (fun K hK => ?_) AllReadyH.nil
      go_simp
      refine hK.out _ _ ?_ (fun hHeld => ?_)
      · exact ⟨(by repeat (first | (with_reducible assumption) | ((with_reducible refine blk_new _ _ _ ?_); focus (simp; done)) | ((with_reducible refine blk_old _ _ _ ?_ ?_); focus (simp; done)) | ((with_reducible refine blk_old _ _ _ ?_ ?_); focus (first | omega | (simp; omega))) | ((with_reducible apply blk_set); focus (simp; done)) | ((with_reducible refine blk_off _ _ _ _ ?_ ?_); focus (simp; done)) | ((with_reducible refine blk_offc _ _ _ _ ?_ ?_); focus (first | (simp; done) | omega | (simp; omega))) | ((with_reducible refine blk_off _ _ _ _ ?_ ?_); focus (first | omega | (simp; omega))) | (with_reducible refine blk_drew _ _ ?_) | ((with_reducible refine blk_below (by assumption) ?_ ?_); focus (simp; done)) | ((with_reducible refine blk_below (by assumption) ?_ ?_); focus (first | omega | (simp; omega))))), (by repeat (first | (with_reducible assumption) | ((with_reducible refine blk_new _ _ _ ?_); focus (simp; done)) | ((with_reducible refine blk_old _ _ _ ?_ ?_); focus (simp; done)) | ((with_reducible refine blk_old _ _ _ ?_ ?_); focus (first | omega | (simp; omega))) | ((with_reducible apply blk_set); focus (simp; done)) | ((with_reducible refine blk_off _ _ _ _ ?_ ?_); focus (simp; done)) | ((with_reducible refine blk_offc _ _ _ _ ?_ ?_); focus (first | (simp; done) | omega | (simp; omega))) | ((with_reducible refine blk_off _ _ _ _ ?_ ?_); focus (first | omega | (simp; omega))) | (with_reducible refine blk_drew _ _ ?_) | ((with_reducible refine blk_below (by assumption) ?_ ?_); focus (simp; done)) | ((with_reducible refine blk_below (by assumption) ?_ ?_); focus (first | omega | (simp; omega)))))⟩
      clear hK K
      (try simp only [Act.put, List.setIfInBounds_toArray, List.set_cons_zero, List.set_cons_succ])
      refine wpAnyH_ready (rs := [6]) (by kernel_rfl) (by simp) ?_
      refine AllReadyH.cons rfl (fun K hK => ?_) AllReadyH.nil
      go_simp
      refine hK.out _ _ ?_ (fun hHeld => ?_)
      · exact ⟨(by repeat (first | (with_reducible assumption) | ((with_reducible refine blk_new _ _ _ ?_); focus (simp; done)) | ((with_reducible refine blk_old _ _ _ ?_ ?_); focus (simp; done)) | ((with_reducible refine blk_old _ _ _ ?_ ?_); focus (first | omega | (simp; omega))) | ((with_reducible apply blk_set); focus (simp; done)) | ((with_reducible refine blk_off _ _ _ _ ?_ ?_); focus (simp; done)) | ((with_reducible refine blk_offc _ _ _ _ ?_ ?_); focus (first | (simp; done) | omega | (simp; omega))) | ((with_reducible refine blk_off _ _ _ _ ?_ ?_); focus (first | omega | (simp; omega))) | (with_reducible refine blk_drew _ _ ?_) | ((with_reducible refine blk_below (by assumption) ?_ ?_); focus (simp; done)) | ((with_reducible refine blk_below (by assumption) ?_ ?_); focus (first | omega | (simp; omega))))), (by repeat (first | (with_reducible assumption) | ((with_reducible refine blk_new _ _ _ ?_); focus (simp; done)) | ((with_reducible refine blk_old _ _ _ ?_ ?_); focus (simp; done)) | ((with_reducible refine blk_old _ _ _ ?_ ?_); focus (first | omega | (simp; omega))) | ((with_reducible apply blk_set); focus (simp; done)) | ((with_reducible refine blk_off _ _ _ _ ?_ ?_); focus (simp; done)) | ((with_reducible refine blk_offc _ _ _ _ ?_ ?_); focus (first | (simp; done) | omega | (simp; omega))) | ((with_reducible refine blk_off _ _ _ _ ?_ ?_); focus (first | omega | (simp; omega))) | (with_reducible refine blk_drew _ _ ?_) | ((with_reducible refine blk_below (by assumption) ?_ ?_); focus (simp; done)) | ((with_reducible refine blk_below (by assumption) ?_ ?_); focus (first | omega | (simp; omega)))))⟩
      clear hK K
      (try simp only [Act.put, List.setIfInBounds_toArray, List.set_cons_zero, List.set_cons_succ])
      refine wpAnyH_done (by kernel_rfl) ?_ _
      refine NoPanic.normal ?_
      clear hHeld
      go_wp2
      refine bodyPost_ret (v := .tuple #[.agg (train r s t (turnF r s t F fed cover)), .float .f32 (fmul (turnK s F fed k (k + 1)) (fmul t cover)), .bool (trainB r s t (turnF r s t F fed cover))]) ?_ ?_ ?_
      · refine results_row_tmp2 Tryz.results47 _ _ _ 28 (train r s t (turnF r s t F fed cover)) (0, 0) _ _ _ rfl rfl rfl ?_ Tryz.underlying28 rfl (by simp only [row_size]; kernel_rfl)
        exact (by repeat (first | (with_reducible assumption) | ((with_reducible refine blk_new _ _ _ ?_); focus (simp; done)) | ((with_reducible refine blk_old _ _ _ ?_ ?_); focus (simp; done)) | ((with_reducible refine blk_old _ _ _ ?_ ?_); focus (first | omega | (simp; omega))) | ((with_reducible apply blk_set); focus (simp; done)) | ((with_reducible refine blk_off _ _ _ _ ?_ ?_); focus (simp; done)) | ((with_reducible refine blk_offc _ _ _ _ ?_ ?_); focus (first | (simp; done) | omega | (simp; omega))) | ((with_reducible refine blk_off _ _ _ _ ?_ ?_); focus (first | omega | (simp; omega))) | (with_reducible refine blk_drew _ _ ?_) | ((with_reducible refine blk_below (by assumption) ?_ ?_); focus (simp; done)) | ((with_reducible refine blk_below (by assumption) ?_ ?_); focus (first | omega | (simp; omega)))))
      · rfl
      · exact ⟨by rw [HP.out], (by repeat (first | (with_reducible assumption) | (with_reducible exact Below.refl _ _) | ((with_reducible refine bel_alloc _ ?_ ?_); focus (first | omega | (simp; done) | (simp; omega))) | ((with_reducible refine bel_row _ ?_ ?_); focus (first | omega | (simp; done) | (simp; omega))) | ((with_reducible refine bel_cell _ ?_ ?_); focus (first | omega | (simp; done) | (simp; omega))) | (with_reducible refine Below.drew ?_) | (with_reducible refine below_wideW _ ?_) | ((with_reducible refine bel_next (by assumption) ?_ ?_); focus (first | omega | (simp; done) | (simp; omega)))))⟩
end Go.Proofs.YtkokekndiammpaaGreatDoor

/-! Contracts of l02Asked, turnCode and TurnOnce, and the law on TurnOnce. -/
set_option linter.unusedVariables false
set_option linter.unusedSimpArgs false
namespace Go.Proofs.YtkokekndiammpaaGreatDoor
open Go.RowKit Ieee

def askB (r : Int) (s t : Nat) (F : Nat → Nat) (fed cover : Nat) : Bool := trainB r s t F && (filmB fed && partB cover)
def askC (r : Int) (s t : Nat) (F : Nat → Nat) (fed cover : Nat) : Int := if trainB r s t F then (if filmB fed && partB cover then 0 else 2) else 1
theorem ask_yes {r : Int} {s t : Nat} {F : Nat → Nat} {fed cover : Nat} (h : askB r s t F fed cover = true) : trainB r s t F = true ∧ filmB fed = true ∧ partB cover = true ∧ askC r s t F fed cover = 0 := by
  unfold askB at h
  simp only [Bool.and_eq_true] at h
  obtain ⟨h1, h2, h3⟩ := h
  refine ⟨h1, h2, h3, ?_⟩
  unfold askC
  rw [h1, h2, h3]; rfl
theorem ask_no {r : Int} {s t : Nat} {F : Nat → Nat} {fed cover : Nat} (h : askB r s t F fed cover = false) : ¬ askC r s t F fed cover = 0 := by
  unfold askB at h
  unfold askC
  cases h1 : trainB r s t F <;> cases h2 : filmB fed <;> cases h3 : partB cover <;> rw [h1, h2, h3] at h <;> simp at h ⊢

theorem specAsked_any (r : Int) (s t : Nat) (F : Nat → Nat) (fed cover : Nat) (w : World) (lr : -128 ≤ r) (ur : r ≤ 127) (B : Nat) (hB : w.heap[B]? = some (.cells (train r s t F) 28 (0, 0))) : Calls Tryz.prog 48 #[.pointer (some ⟨B, 0, none⟩), .float .f32 fed, .float .f32 cover] w fun e w' => e = .returned (.int .i64 (askC r s t F fed cover)) ∧ w = w' := by
  unfold askC
  cases ho : trainB r s t F
  · skip
    go_enter Tryz.func48, Tryz.ntmps48
    go_wp2_with (first | (go_at_call 67; (with_reducible refine (specOk_any r s t F _ lr ur _ ?_).mono ?_); (focus (repeat (first | (with_reducible assumption) | ((with_reducible refine blk_new _ _ _ ?_); focus (simp; done)) | ((with_reducible refine blk_old _ _ _ ?_ ?_); focus (simp; done)) | ((with_reducible refine blk_old _ _ _ ?_ ?_); focus (first | omega | (simp; omega))) | ((with_reducible apply blk_set); focus (simp; done)) | ((with_reducible refine blk_off _ _ _ _ ?_ ?_); focus (simp; done)) | ((with_reducible refine blk_offc _ _ _ _ ?_ ?_); focus (first | (simp; done) | omega | (simp; omega))) | ((with_reducible refine blk_off _ _ _ _ ?_ ?_); focus (first | omega | (simp; omega))) | (with_reducible refine blk_drew _ _ ?_) | ((with_reducible refine blk_below (by assumption) ?_ ?_); focus (simp; done)) | ((with_reducible refine blk_below (by assumption) ?_ ?_); focus (first | omega | (simp; omega)))))); rintro e w' ⟨rfl, rfl⟩) | ((with_reducible refine at_load 28 ?_); refine wpList_load_part rfl 28 _ rfl _ 0 15 rfl _ _ _ _ (by repeat (first | (with_reducible assumption) | ((with_reducible refine blk_new _ _ _ ?_); focus (simp; done)) | ((with_reducible refine blk_old _ _ _ ?_ ?_); focus (simp; done)) | ((with_reducible refine blk_old _ _ _ ?_ ?_); focus (first | omega | (simp; omega))) | ((with_reducible apply blk_set); focus (simp; done)) | ((with_reducible refine blk_off _ _ _ _ ?_ ?_); focus (simp; done)) | ((with_reducible refine blk_offc _ _ _ _ ?_ ?_); focus (first | (simp; done) | omega | (simp; omega))) | ((with_reducible refine blk_off _ _ _ _ ?_ ?_); focus (first | omega | (simp; omega))) | (with_reducible refine blk_drew _ _ ?_) | ((with_reducible refine blk_below (by assumption) ?_ ?_); focus (simp; done)) | ((with_reducible refine blk_below (by assumption) ?_ ?_); focus (first | omega | (simp; omega))))) Tryz.underlying28 rfl (by kernel_rfl) (by simp [row_size]) _ (row_all [_, _, _] 12 _) ?_) | (go_at_call 68; (with_reducible refine (specFilm_any _ _).mono ?_); rintro e w' ⟨rfl, rfl⟩) | (go_at_call 69; (with_reducible refine (specPart_any _ _).mono ?_); rintro e w' ⟨rfl, rfl⟩) | go_in)
    go_ret
    exact ⟨rfl, rfl⟩
  · cases hf : filmB fed
    · skip
      go_enter Tryz.func48, Tryz.ntmps48
      go_wp2_with (first | (go_at_call 67; (with_reducible refine (specOk_any r s t F _ lr ur _ ?_).mono ?_); (focus (repeat (first | (with_reducible assumption) | ((with_reducible refine blk_new _ _ _ ?_); focus (simp; done)) | ((with_reducible refine blk_old _ _ _ ?_ ?_); focus (simp; done)) | ((with_reducible refine blk_old _ _ _ ?_ ?_); focus (first | omega | (simp; omega))) | ((with_reducible apply blk_set); focus (simp; done)) | ((with_reducible refine blk_off _ _ _ _ ?_ ?_); focus (simp; done)) | ((with_reducible refine blk_offc _ _ _ _ ?_ ?_); focus (first | (simp; done) | omega | (simp; omega))) | ((with_reducible refine blk_off _ _ _ _ ?_ ?_); focus (first | omega | (simp; omega))) | (with_reducible refine blk_drew _ _ ?_) | ((with_reducible refine blk_below (by assumption) ?_ ?_); focus (simp; done)) | ((with_reducible refine blk_below (by assumption) ?_ ?_); focus (first | omega | (simp; omega)))))); rintro e w' ⟨rfl, rfl⟩) | ((with_reducible refine at_load 28 ?_); refine wpList_load_part rfl 28 _ rfl _ 0 15 rfl _ _ _ _ (by repeat (first | (with_reducible assumption) | ((with_reducible refine blk_new _ _ _ ?_); focus (simp; done)) | ((with_reducible refine blk_old _ _ _ ?_ ?_); focus (simp; done)) | ((with_reducible refine blk_old _ _ _ ?_ ?_); focus (first | omega | (simp; omega))) | ((with_reducible apply blk_set); focus (simp; done)) | ((with_reducible refine blk_off _ _ _ _ ?_ ?_); focus (simp; done)) | ((with_reducible refine blk_offc _ _ _ _ ?_ ?_); focus (first | (simp; done) | omega | (simp; omega))) | ((with_reducible refine blk_off _ _ _ _ ?_ ?_); focus (first | omega | (simp; omega))) | (with_reducible refine blk_drew _ _ ?_) | ((with_reducible refine blk_below (by assumption) ?_ ?_); focus (simp; done)) | ((with_reducible refine blk_below (by assumption) ?_ ?_); focus (first | omega | (simp; omega))))) Tryz.underlying28 rfl (by kernel_rfl) (by simp [row_size]) _ (row_all [_, _, _] 12 _) ?_) | (go_at_call 68; (with_reducible refine (specFilm_any _ _).mono ?_); rintro e w' ⟨rfl, rfl⟩) | (go_at_call 69; (with_reducible refine (specPart_any _ _).mono ?_); rintro e w' ⟨rfl, rfl⟩) | go_in)
      go_ret
      exact ⟨rfl, rfl⟩
    · cases hc : partB cover
      · skip
        go_enter Tryz.func48, Tryz.ntmps48
        go_wp2_with (first | (go_at_call 67; (with_reducible refine (specOk_any r s t F _ lr ur _ ?_).mono ?_); (focus (repeat (first | (with_reducible assumption) | ((with_reducible refine blk_new _ _ _ ?_); focus (simp; done)) | ((with_reducible refine blk_old _ _ _ ?_ ?_); focus (simp; done)) | ((with_reducible refine blk_old _ _ _ ?_ ?_); focus (first | omega | (simp; omega))) | ((with_reducible apply blk_set); focus (simp; done)) | ((with_reducible refine blk_off _ _ _ _ ?_ ?_); focus (simp; done)) | ((with_reducible refine blk_offc _ _ _ _ ?_ ?_); focus (first | (simp; done) | omega | (simp; omega))) | ((with_reducible refine blk_off _ _ _ _ ?_ ?_); focus (first | omega | (simp; omega))) | (with_reducible refine blk_drew _ _ ?_) | ((with_reducible refine blk_below (by assumption) ?_ ?_); focus (simp; done)) | ((with_reducible refine blk_below (by assumption) ?_ ?_); focus (first | omega | (simp; omega)))))); rintro e w' ⟨rfl, rfl⟩) | ((with_reducible refine at_load 28 ?_); refine wpList_load_part rfl 28 _ rfl _ 0 15 rfl _ _ _ _ (by repeat (first | (with_reducible assumption) | ((with_reducible refine blk_new _ _ _ ?_); focus (simp; done)) | ((with_reducible refine blk_old _ _ _ ?_ ?_); focus (simp; done)) | ((with_reducible refine blk_old _ _ _ ?_ ?_); focus (first | omega | (simp; omega))) | ((with_reducible apply blk_set); focus (simp; done)) | ((with_reducible refine blk_off _ _ _ _ ?_ ?_); focus (simp; done)) | ((with_reducible refine blk_offc _ _ _ _ ?_ ?_); focus (first | (simp; done) | omega | (simp; omega))) | ((with_reducible refine blk_off _ _ _ _ ?_ ?_); focus (first | omega | (simp; omega))) | (with_reducible refine blk_drew _ _ ?_) | ((with_reducible refine blk_below (by assumption) ?_ ?_); focus (simp; done)) | ((with_reducible refine blk_below (by assumption) ?_ ?_); focus (first | omega | (simp; omega))))) Tryz.underlying28 rfl (by kernel_rfl) (by simp [row_size]) _ (row_all [_, _, _] 12 _) ?_) | (go_at_call 68; (with_reducible refine (specFilm_any _ _).mono ?_); rintro e w' ⟨rfl, rfl⟩) | (go_at_call 69; (with_reducible refine (specPart_any _ _).mono ?_); rintro e w' ⟨rfl, rfl⟩) | go_in)
        go_ret
        exact ⟨rfl, rfl⟩
      · skip
        go_enter Tryz.func48, Tryz.ntmps48
        go_wp2_with (first | (go_at_call 67; (with_reducible refine (specOk_any r s t F _ lr ur _ ?_).mono ?_); (focus (repeat (first | (with_reducible assumption) | ((with_reducible refine blk_new _ _ _ ?_); focus (simp; done)) | ((with_reducible refine blk_old _ _ _ ?_ ?_); focus (simp; done)) | ((with_reducible refine blk_old _ _ _ ?_ ?_); focus (first | omega | (simp; omega))) | ((with_reducible apply blk_set); focus (simp; done)) | ((with_reducible refine blk_off _ _ _ _ ?_ ?_); focus (simp; done)) | ((with_reducible refine blk_offc _ _ _ _ ?_ ?_); focus (first | (simp; done) | omega | (simp; omega))) | ((with_reducible refine blk_off _ _ _ _ ?_ ?_); focus (first | omega | (simp; omega))) | (with_reducible refine blk_drew _ _ ?_) | ((with_reducible refine blk_below (by assumption) ?_ ?_); focus (simp; done)) | ((with_reducible refine blk_below (by assumption) ?_ ?_); focus (first | omega | (simp; omega)))))); rintro e w' ⟨rfl, rfl⟩) | ((with_reducible refine at_load 28 ?_); refine wpList_load_part rfl 28 _ rfl _ 0 15 rfl _ _ _ _ (by repeat (first | (with_reducible assumption) | ((with_reducible refine blk_new _ _ _ ?_); focus (simp; done)) | ((with_reducible refine blk_old _ _ _ ?_ ?_); focus (simp; done)) | ((with_reducible refine blk_old _ _ _ ?_ ?_); focus (first | omega | (simp; omega))) | ((with_reducible apply blk_set); focus (simp; done)) | ((with_reducible refine blk_off _ _ _ _ ?_ ?_); focus (simp; done)) | ((with_reducible refine blk_offc _ _ _ _ ?_ ?_); focus (first | (simp; done) | omega | (simp; omega))) | ((with_reducible refine blk_off _ _ _ _ ?_ ?_); focus (first | omega | (simp; omega))) | (with_reducible refine blk_drew _ _ ?_) | ((with_reducible refine blk_below (by assumption) ?_ ?_); focus (simp; done)) | ((with_reducible refine blk_below (by assumption) ?_ ?_); focus (first | omega | (simp; omega))))) Tryz.underlying28 rfl (by kernel_rfl) (by simp [row_size]) _ (row_all [_, _, _] 12 _) ?_) | (go_at_call 68; (with_reducible refine (specFilm_any _ _).mono ?_); rintro e w' ⟨rfl, rfl⟩) | (go_at_call 69; (with_reducible refine (specPart_any _ _).mono ?_); rintro e w' ⟨rfl, rfl⟩) | go_in)
        go_ret
        exact ⟨rfl, rfl⟩

theorem implAsked_any (r : Int) (s t : Nat) (F : Nat → Nat) (fed cover : Nat) (w : World) (lr : -128 ≤ r) (ur : r ≤ 127) : Calls Tryz.prog 46 #[.agg (train r s t F), .float .f32 fed, .float .f32 cover] w fun e w' => e = .returned (.int .i64 (askC r s t F fed cover)) ∧ Below w.heap.size w w' := by
  unfold askC
  cases ho : trainB r s t F
  · skip
    go_enter Tryz.func46, Tryz.ntmps46
    go_wp2_with (first | (go_at_call 18; (with_reducible refine (implOk_any r s t F _ lr ur).mono ?_); rintro e w1 ⟨rfl, hb1⟩; have hz1 := hb1.size; (try simp at hz1); obtain ⟨hc1, hf1⟩ := bcell hb1) | ((with_reducible refine at_load 28 ?_); refine wpList_load_part rfl 28 _ rfl _ 0 15 rfl _ _ _ _ (by repeat (first | (with_reducible assumption) | ((with_reducible refine blk_new _ _ _ ?_); focus (simp; done)) | ((with_reducible refine blk_old _ _ _ ?_ ?_); focus (simp; done)) | ((with_reducible refine blk_old _ _ _ ?_ ?_); focus (first | omega | (simp; omega))) | ((with_reducible apply blk_set); focus (simp; done)) | ((with_reducible refine blk_off _ _ _ _ ?_ ?_); focus (simp; done)) | ((with_reducible refine blk_offc _ _ _ _ ?_ ?_); focus (first | (simp; done) | omega | (simp; omega))) | ((with_reducible refine blk_off _ _ _ _ ?_ ?_); focus (first | omega | (simp; omega))) | (with_reducible refine blk_drew _ _ ?_) | ((with_reducible refine blk_below (by assumption) ?_ ?_); focus (simp; done)) | ((with_reducible refine blk_below (by assumption) ?_ ?_); focus (first | omega | (simp; omega))))) Tryz.underlying28 rfl (by kernel_rfl) (by simp [row_size]) _ (row_all [_, _, _] 12 _) ?_) | (go_at_call 43; (with_reducible refine (implFilm_any _ _).mono ?_); rintro e w' ⟨rfl, rfl⟩) | (go_at_call 62; (with_reducible refine (implPart_any _ _).mono ?_); rintro e w' ⟨rfl, rfl⟩) | go_in)
    go_ret
    exact ⟨rfl, (by repeat (first | (with_reducible assumption) | (with_reducible exact Below.refl _ _) | ((with_reducible refine bel_alloc _ ?_ ?_); focus (first | omega | (simp; done) | (simp; omega))) | ((with_reducible refine bel_row _ ?_ ?_); focus (first | omega | (simp; done) | (simp; omega))) | ((with_reducible refine bel_cell _ ?_ ?_); focus (first | omega | (simp; done) | (simp; omega))) | (with_reducible refine Below.drew ?_) | (with_reducible refine below_wideW _ ?_) | ((with_reducible refine bel_next (by assumption) ?_ ?_); focus (first | omega | (simp; done) | (simp; omega)))))⟩
  · cases hf : filmB fed
    · skip
      go_enter Tryz.func46, Tryz.ntmps46
      go_wp2_with (first | (go_at_call 18; (with_reducible refine (implOk_any r s t F _ lr ur).mono ?_); rintro e w1 ⟨rfl, hb1⟩; have hz1 := hb1.size; (try simp at hz1); obtain ⟨hc1, hf1⟩ := bcell hb1) | ((with_reducible refine at_load 28 ?_); refine wpList_load_part rfl 28 _ rfl _ 0 15 rfl _ _ _ _ (by repeat (first | (with_reducible assumption) | ((with_reducible refine blk_new _ _ _ ?_); focus (simp; done)) | ((with_reducible refine blk_old _ _ _ ?_ ?_); focus (simp; done)) | ((with_reducible refine blk_old _ _ _ ?_ ?_); focus (first | omega | (simp; omega))) | ((with_reducible apply blk_set); focus (simp; done)) | ((with_reducible refine blk_off _ _ _ _ ?_ ?_); focus (simp; done)) | ((with_reducible refine blk_offc _ _ _ _ ?_ ?_); focus (first | (simp; done) | omega | (simp; omega))) | ((with_reducible refine blk_off _ _ _ _ ?_ ?_); focus (first | omega | (simp; omega))) | (with_reducible refine blk_drew _ _ ?_) | ((with_reducible refine blk_below (by assumption) ?_ ?_); focus (simp; done)) | ((with_reducible refine blk_below (by assumption) ?_ ?_); focus (first | omega | (simp; omega))))) Tryz.underlying28 rfl (by kernel_rfl) (by simp [row_size]) _ (row_all [_, _, _] 12 _) ?_) | (go_at_call 43; (with_reducible refine (implFilm_any _ _).mono ?_); rintro e w' ⟨rfl, rfl⟩) | (go_at_call 62; (with_reducible refine (implPart_any _ _).mono ?_); rintro e w' ⟨rfl, rfl⟩) | go_in)
      go_ret
      exact ⟨rfl, (by repeat (first | (with_reducible assumption) | (with_reducible exact Below.refl _ _) | ((with_reducible refine bel_alloc _ ?_ ?_); focus (first | omega | (simp; done) | (simp; omega))) | ((with_reducible refine bel_row _ ?_ ?_); focus (first | omega | (simp; done) | (simp; omega))) | ((with_reducible refine bel_cell _ ?_ ?_); focus (first | omega | (simp; done) | (simp; omega))) | (with_reducible refine Below.drew ?_) | (with_reducible refine below_wideW _ ?_) | ((with_reducible refine bel_next (by assumption) ?_ ?_); focus (first | omega | (simp; done) | (simp; omega)))))⟩
    · cases hc : partB cover
      · skip
        go_enter Tryz.func46, Tryz.ntmps46
        go_wp2_with (first | (go_at_call 18; (with_reducible refine (implOk_any r s t F _ lr ur).mono ?_); rintro e w1 ⟨rfl, hb1⟩; have hz1 := hb1.size; (try simp at hz1); obtain ⟨hc1, hf1⟩ := bcell hb1) | ((with_reducible refine at_load 28 ?_); refine wpList_load_part rfl 28 _ rfl _ 0 15 rfl _ _ _ _ (by repeat (first | (with_reducible assumption) | ((with_reducible refine blk_new _ _ _ ?_); focus (simp; done)) | ((with_reducible refine blk_old _ _ _ ?_ ?_); focus (simp; done)) | ((with_reducible refine blk_old _ _ _ ?_ ?_); focus (first | omega | (simp; omega))) | ((with_reducible apply blk_set); focus (simp; done)) | ((with_reducible refine blk_off _ _ _ _ ?_ ?_); focus (simp; done)) | ((with_reducible refine blk_offc _ _ _ _ ?_ ?_); focus (first | (simp; done) | omega | (simp; omega))) | ((with_reducible refine blk_off _ _ _ _ ?_ ?_); focus (first | omega | (simp; omega))) | (with_reducible refine blk_drew _ _ ?_) | ((with_reducible refine blk_below (by assumption) ?_ ?_); focus (simp; done)) | ((with_reducible refine blk_below (by assumption) ?_ ?_); focus (first | omega | (simp; omega))))) Tryz.underlying28 rfl (by kernel_rfl) (by simp [row_size]) _ (row_all [_, _, _] 12 _) ?_) | (go_at_call 43; (with_reducible refine (implFilm_any _ _).mono ?_); rintro e w' ⟨rfl, rfl⟩) | (go_at_call 62; (with_reducible refine (implPart_any _ _).mono ?_); rintro e w' ⟨rfl, rfl⟩) | go_in)
        go_ret
        exact ⟨rfl, (by repeat (first | (with_reducible assumption) | (with_reducible exact Below.refl _ _) | ((with_reducible refine bel_alloc _ ?_ ?_); focus (first | omega | (simp; done) | (simp; omega))) | ((with_reducible refine bel_row _ ?_ ?_); focus (first | omega | (simp; done) | (simp; omega))) | ((with_reducible refine bel_cell _ ?_ ?_); focus (first | omega | (simp; done) | (simp; omega))) | (with_reducible refine Below.drew ?_) | (with_reducible refine below_wideW _ ?_) | ((with_reducible refine bel_next (by assumption) ?_ ?_); focus (first | omega | (simp; done) | (simp; omega)))))⟩
      · skip
        go_enter Tryz.func46, Tryz.ntmps46
        go_wp2_with (first | (go_at_call 18; (with_reducible refine (implOk_any r s t F _ lr ur).mono ?_); rintro e w1 ⟨rfl, hb1⟩; have hz1 := hb1.size; (try simp at hz1); obtain ⟨hc1, hf1⟩ := bcell hb1) | ((with_reducible refine at_load 28 ?_); refine wpList_load_part rfl 28 _ rfl _ 0 15 rfl _ _ _ _ (by repeat (first | (with_reducible assumption) | ((with_reducible refine blk_new _ _ _ ?_); focus (simp; done)) | ((with_reducible refine blk_old _ _ _ ?_ ?_); focus (simp; done)) | ((with_reducible refine blk_old _ _ _ ?_ ?_); focus (first | omega | (simp; omega))) | ((with_reducible apply blk_set); focus (simp; done)) | ((with_reducible refine blk_off _ _ _ _ ?_ ?_); focus (simp; done)) | ((with_reducible refine blk_offc _ _ _ _ ?_ ?_); focus (first | (simp; done) | omega | (simp; omega))) | ((with_reducible refine blk_off _ _ _ _ ?_ ?_); focus (first | omega | (simp; omega))) | (with_reducible refine blk_drew _ _ ?_) | ((with_reducible refine blk_below (by assumption) ?_ ?_); focus (simp; done)) | ((with_reducible refine blk_below (by assumption) ?_ ?_); focus (first | omega | (simp; omega))))) Tryz.underlying28 rfl (by kernel_rfl) (by simp [row_size]) _ (row_all [_, _, _] 12 _) ?_) | (go_at_call 43; (with_reducible refine (implFilm_any _ _).mono ?_); rintro e w' ⟨rfl, rfl⟩) | (go_at_call 62; (with_reducible refine (implPart_any _ _).mono ?_); rintro e w' ⟨rfl, rfl⟩) | go_in)
        go_ret
        exact ⟨rfl, (by repeat (first | (with_reducible assumption) | (with_reducible exact Below.refl _ _) | ((with_reducible refine bel_alloc _ ?_ ?_); focus (first | omega | (simp; done) | (simp; omega))) | ((with_reducible refine bel_row _ ?_ ?_); focus (first | omega | (simp; done) | (simp; omega))) | ((with_reducible refine bel_cell _ ?_ ?_); focus (first | omega | (simp; done) | (simp; omega))) | (with_reducible refine Below.drew ?_) | (with_reducible refine below_wideW _ ?_) | ((with_reducible refine bel_next (by assumption) ?_ ?_); focus (first | omega | (simp; done) | (simp; omega)))))⟩

def onceB (r : Int) (s t : Nat) (F : Nat → Nat) (fed cover : Nat) : Bool := askB r s t F fed cover && trainB r s t (turnF r s t F fed cover)
def onceC (r : Int) (s t : Nat) (F : Nat → Nat) (fed cover : Nat) : Int := if askB r s t F fed cover then (if trainB r s t (turnF r s t F fed cover) then 0 else 3) else askC r s t F fed cover

set_option maxRecDepth 100000 in
set_option maxHeartbeats 3200000 in
theorem specOnce_any (r : Int) (s t : Nat) (F : Nat → Nat) (fed cover : Nat) (w : World) (lr : -128 ≤ r) (ur : r ≤ 127) : Calls Tryz.prog 23 #[.agg (train r s t F), .float .f32 fed, .float .f32 cover] w fun e w' => e = .returned (.tuple #[.agg (if onceB r s t F fed cover then train r s t (turnF r s t F fed cover) else train 0 0 0 (fun _ => 0)), .float .f32 (if onceB r s t F fed cover then turnP r s t F fed cover else 0), .int .i64 (onceC r s t F fed cover)]) ∧ Below w.heap.size w w' := by
  unfold onceB onceC
  have hz : (#[Value.int IntKind.i8 0, Value.float FloatKind.f32 0, Value.float FloatKind.f32 0, Value.float FloatKind.f32 0, Value.float FloatKind.f32 0, Value.float FloatKind.f32 0, Value.float FloatKind.f32 0, Value.float FloatKind.f32 0, Value.float FloatKind.f32 0, Value.float FloatKind.f32 0, Value.float FloatKind.f32 0, Value.float FloatKind.f32 0, Value.float FloatKind.f32 0, Value.float FloatKind.f32 0, Value.float FloatKind.f32 0] : Array Value) = row [Value.int IntKind.i8 0, Value.float FloatKind.f32 0, Value.float FloatKind.f32 0] 12 (fun _ => 0) := rfl
  cases ha : askB r s t F fed cover
  · have hAsk := fun (w : World) B hB => specAsked_any r s t F fed cover w lr ur B hB
    obtain ⟨c, hcc⟩ : ∃ c, askC r s t F fed cover = c := ⟨_, rfl⟩
    have hne : ¬ c = 0 := by rw [← hcc]; exact ask_no ha
    have hnb : (c != 0) = true := by simp [hne]
    rw [hcc] at hAsk ⊢
    clear hcc ha
    go_enter Tryz.func23, Tryz.ntmps23
    go_wp2_with (first | (go_at_call 48; (with_reducible refine (hAsk _ _ ?_).mono ?_); (focus (repeat (first | (with_reducible assumption) | ((with_reducible refine blk_new _ _ _ ?_); focus (simp; done)) | ((with_reducible refine blk_old _ _ _ ?_ ?_); focus (simp; done)) | ((with_reducible refine blk_old _ _ _ ?_ ?_); focus (first | omega | (simp; omega))) | ((with_reducible apply blk_set); focus (simp; done)) | ((with_reducible refine blk_off _ _ _ _ ?_ ?_); focus (simp; done)) | ((with_reducible refine blk_offc _ _ _ _ ?_ ?_); focus (first | (simp; done) | omega | (simp; omega))) | ((with_reducible refine blk_off _ _ _ _ ?_ ?_); focus (first | omega | (simp; omega))) | (with_reducible refine blk_drew _ _ ?_) | ((with_reducible refine blk_below (by assumption) ?_ ?_); focus (simp; done)) | ((with_reducible refine blk_below (by assumption) ?_ ?_); focus (first | omega | (simp; omega)))))); rintro e w' ⟨rfl, rfl⟩) | (go_at_call 49; (with_reducible refine (hTurn _).mono ?_); rintro e w2 ⟨rfl, hb2⟩; have hz2 := hb2.size; (try simp at hz2); obtain ⟨hc2, hf2⟩ := bcell hb2) | ((with_reducible refine at_load 28 ?_); refine wpList_load_part rfl 28 _ rfl _ 0 15 rfl _ _ _ _ (by repeat (first | (with_reducible assumption) | ((with_reducible refine blk_new _ _ _ ?_); focus (simp; done)) | ((with_reducible refine blk_old _ _ _ ?_ ?_); focus (simp; done)) | ((with_reducible refine blk_old _ _ _ ?_ ?_); focus (first | omega | (simp; omega))) | ((with_reducible apply blk_set); focus (simp; done)) | ((with_reducible refine blk_off _ _ _ _ ?_ ?_); focus (simp; done)) | ((with_reducible refine blk_offc _ _ _ _ ?_ ?_); focus (first | (simp; done) | omega | (simp; omega))) | ((with_reducible refine blk_off _ _ _ _ ?_ ?_); focus (first | omega | (simp; omega))) | (with_reducible refine blk_drew _ _ ?_) | ((with_reducible refine blk_below (by assumption) ?_ ?_); focus (simp; done)) | ((with_reducible refine blk_below (by assumption) ?_ ?_); focus (first | omega | (simp; omega))))) Tryz.underlying28 rfl (by kernel_rfl) (by simp [row_size]) _ (row_all [_, _, _] 12 _) ?_) | ((with_reducible refine at_store 28 ?_); refine wpList_store_part rfl 28 _ _ rfl _ 0 _ rfl rfl _ _ (by repeat (first | (with_reducible assumption) | ((with_reducible refine blk_new _ _ _ ?_); focus (simp; done)) | ((with_reducible refine blk_old _ _ _ ?_ ?_); focus (simp; done)) | ((with_reducible refine blk_old _ _ _ ?_ ?_); focus (first | omega | (simp; omega))) | ((with_reducible apply blk_set); focus (simp; done)) | ((with_reducible refine blk_off _ _ _ _ ?_ ?_); focus (simp; done)) | ((with_reducible refine blk_offc _ _ _ _ ?_ ?_); focus (first | (simp; done) | omega | (simp; omega))) | ((with_reducible refine blk_off _ _ _ _ ?_ ?_); focus (first | omega | (simp; omega))) | (with_reducible refine blk_drew _ _ ?_) | ((with_reducible refine blk_below (by assumption) ?_ ?_); focus (simp; done)) | ((with_reducible refine blk_below (by assumption) ?_ ?_); focus (first | omega | (simp; omega))))) (by rw [row_size]; kernel_rfl) (by simp [row_size]) (row_cells _ _ _ rfl) _ (row_over _ _ 12 _ _ (by simp)) ?_) | go_in)
    refine bodyPost_ret (v := .tuple #[.agg (train 0 0 0 (fun _ => 0)), .float .f32 (0), .int .i64 c]) ?_ ?_ ?_
    · refine results_row_tmp2 Tryz.results23 _ _ _ 28 (train 0 0 0 (fun _ => 0)) (0, 0) _ _ _ rfl rfl rfl ?_ Tryz.underlying28 rfl (by simp only [row_size]; kernel_rfl)
      exact (by repeat (first | (with_reducible assumption) | ((with_reducible refine blk_new _ _ _ ?_); focus (simp; done)) | ((with_reducible refine blk_old _ _ _ ?_ ?_); focus (simp; done)) | ((with_reducible refine blk_old _ _ _ ?_ ?_); focus (first | omega | (simp; omega))) | ((with_reducible apply blk_set); focus (simp; done)) | ((with_reducible refine blk_off _ _ _ _ ?_ ?_); focus (simp; done)) | ((with_reducible refine blk_offc _ _ _ _ ?_ ?_); focus (first | (simp; done) | omega | (simp; omega))) | ((with_reducible refine blk_off _ _ _ _ ?_ ?_); focus (first | omega | (simp; omega))) | (with_reducible refine blk_drew _ _ ?_) | ((with_reducible refine blk_below (by assumption) ?_ ?_); focus (simp; done)) | ((with_reducible refine blk_below (by assumption) ?_ ?_); focus (first | omega | (simp; omega)))))
    · rfl
    · exact ⟨rfl, (by repeat (first | (with_reducible assumption) | (with_reducible exact Below.refl _ _) | ((with_reducible refine bel_alloc _ ?_ ?_); focus (first | omega | (simp; done) | (simp; omega))) | ((with_reducible refine bel_row _ ?_ ?_); focus (first | omega | (simp; done) | (simp; omega))) | ((with_reducible refine bel_cell _ ?_ ?_); focus (first | omega | (simp; done) | (simp; omega))) | (with_reducible refine Below.drew ?_) | (with_reducible refine below_wideW _ ?_) | ((with_reducible refine bel_next (by assumption) ?_ ?_); focus (first | omega | (simp; done) | (simp; omega)))))⟩
  · obtain ⟨ho, hf, hc, hC⟩ := ask_yes ha
    have hAsk := fun (w : World) B hB => specAsked_any r s t F fed cover w lr ur B hB
    rw [hC] at hAsk
    cases hk : trainB r s t (turnF r s t F fed cover)
    · have hTurn : ∀ w : World, Calls Tryz.prog 49 #[.agg (train r s t F), .float .f32 fed, .float .f32 cover] w fun e w' => e = .returned (.tuple #[.agg (train r s t (turnF r s t F fed cover)), .float .f32 (turnP r s t F fed cover), .bool false]) ∧ Below w.heap.size w w' := fun w => by have := specTurn_any r s t F fed cover w lr ur ho hf hc; rwa [hk] at this
      clear ha ho hf hc hC hk
      obtain ⟨G, hG⟩ : ∃ G, G = turnF r s t F fed cover := ⟨_, rfl⟩
      obtain ⟨p, hp⟩ : ∃ p, p = turnP r s t F fed cover := ⟨_, rfl⟩
      rw [← hG, ← hp] at hTurn
      rw [← hG, ← hp]
      clear hG hp
      go_enter Tryz.func23, Tryz.ntmps23
      go_wp2_with (first | (go_at_call 48; (with_reducible refine (hAsk _ _ ?_).mono ?_); (focus (repeat (first | (with_reducible assumption) | ((with_reducible refine blk_new _ _ _ ?_); focus (simp; done)) | ((with_reducible refine blk_old _ _ _ ?_ ?_); focus (simp; done)) | ((with_reducible refine blk_old _ _ _ ?_ ?_); focus (first | omega | (simp; omega))) | ((with_reducible apply blk_set); focus (simp; done)) | ((with_reducible refine blk_off _ _ _ _ ?_ ?_); focus (simp; done)) | ((with_reducible refine blk_offc _ _ _ _ ?_ ?_); focus (first | (simp; done) | omega | (simp; omega))) | ((with_reducible refine blk_off _ _ _ _ ?_ ?_); focus (first | omega | (simp; omega))) | (with_reducible refine blk_drew _ _ ?_) | ((with_reducible refine blk_below (by assumption) ?_ ?_); focus (simp; done)) | ((with_reducible refine blk_below (by assumption) ?_ ?_); focus (first | omega | (simp; omega)))))); rintro e w' ⟨rfl, rfl⟩) | (go_at_call 49; (with_reducible refine (hTurn _).mono ?_); rintro e w2 ⟨rfl, hb2⟩; have hz2 := hb2.size; (try simp at hz2); obtain ⟨hc2, hf2⟩ := bcell hb2) | ((with_reducible refine at_load 28 ?_); refine wpList_load_part rfl 28 _ rfl _ 0 15 rfl _ _ _ _ (by repeat (first | (with_reducible assumption) | ((with_reducible refine blk_new _ _ _ ?_); focus (simp; done)) | ((with_reducible refine blk_old _ _ _ ?_ ?_); focus (simp; done)) | ((with_reducible refine blk_old _ _ _ ?_ ?_); focus (first | omega | (simp; omega))) | ((with_reducible apply blk_set); focus (simp; done)) | ((with_reducible refine blk_off _ _ _ _ ?_ ?_); focus (simp; done)) | ((with_reducible refine blk_offc _ _ _ _ ?_ ?_); focus (first | (simp; done) | omega | (simp; omega))) | ((with_reducible refine blk_off _ _ _ _ ?_ ?_); focus (first | omega | (simp; omega))) | (with_reducible refine blk_drew _ _ ?_) | ((with_reducible refine blk_below (by assumption) ?_ ?_); focus (simp; done)) | ((with_reducible refine blk_below (by assumption) ?_ ?_); focus (first | omega | (simp; omega))))) Tryz.underlying28 rfl (by kernel_rfl) (by simp [row_size]) _ (row_all [_, _, _] 12 _) ?_) | ((with_reducible refine at_store 28 ?_); refine wpList_store_part rfl 28 _ _ rfl _ 0 _ rfl rfl _ _ (by repeat (first | (with_reducible assumption) | ((with_reducible refine blk_new _ _ _ ?_); focus (simp; done)) | ((with_reducible refine blk_old _ _ _ ?_ ?_); focus (simp; done)) | ((with_reducible refine blk_old _ _ _ ?_ ?_); focus (first | omega | (simp; omega))) | ((with_reducible apply blk_set); focus (simp; done)) | ((with_reducible refine blk_off _ _ _ _ ?_ ?_); focus (simp; done)) | ((with_reducible refine blk_offc _ _ _ _ ?_ ?_); focus (first | (simp; done) | omega | (simp; omega))) | ((with_reducible refine blk_off _ _ _ _ ?_ ?_); focus (first | omega | (simp; omega))) | (with_reducible refine blk_drew _ _ ?_) | ((with_reducible refine blk_below (by assumption) ?_ ?_); focus (simp; done)) | ((with_reducible refine blk_below (by assumption) ?_ ?_); focus (first | omega | (simp; omega))))) (by rw [row_size]; kernel_rfl) (by simp [row_size]) (row_cells _ _ _ rfl) _ (row_over _ _ 12 _ _ (by simp)) ?_) | go_in)
      refine bodyPost_ret (v := .tuple #[.agg (train 0 0 0 (fun _ => 0)), .float .f32 (0), .int .i64 3]) ?_ ?_ ?_
      · refine results_row_tmp2 Tryz.results23 _ _ _ 28 (train 0 0 0 (fun _ => 0)) (0, 0) _ _ _ rfl rfl rfl ?_ Tryz.underlying28 rfl (by simp only [row_size]; kernel_rfl)
        exact (by repeat (first | (with_reducible assumption) | ((with_reducible refine blk_new _ _ _ ?_); focus (simp; done)) | ((with_reducible refine blk_old _ _ _ ?_ ?_); focus (simp; done)) | ((with_reducible refine blk_old _ _ _ ?_ ?_); focus (first | omega | (simp; omega))) | ((with_reducible apply blk_set); focus (simp; done)) | ((with_reducible refine blk_off _ _ _ _ ?_ ?_); focus (simp; done)) | ((with_reducible refine blk_offc _ _ _ _ ?_ ?_); focus (first | (simp; done) | omega | (simp; omega))) | ((with_reducible refine blk_off _ _ _ _ ?_ ?_); focus (first | omega | (simp; omega))) | (with_reducible refine blk_drew _ _ ?_) | ((with_reducible refine blk_below (by assumption) ?_ ?_); focus (simp; done)) | ((with_reducible refine blk_below (by assumption) ?_ ?_); focus (first | omega | (simp; omega)))))
      · rfl
      · exact ⟨rfl, (by repeat (first | (with_reducible assumption) | (with_reducible exact Below.refl _ _) | ((with_reducible refine bel_alloc _ ?_ ?_); focus (first | omega | (simp; done) | (simp; omega))) | ((with_reducible refine bel_row _ ?_ ?_); focus (first | omega | (simp; done) | (simp; omega))) | ((with_reducible refine bel_cell _ ?_ ?_); focus (first | omega | (simp; done) | (simp; omega))) | (with_reducible refine Below.drew ?_) | (with_reducible refine below_wideW _ ?_) | ((with_reducible refine bel_next (by assumption) ?_ ?_); focus (first | omega | (simp; done) | (simp; omega)))))⟩
    · have hTurn : ∀ w : World, Calls Tryz.prog 49 #[.agg (train r s t F), .float .f32 fed, .float .f32 cover] w fun e w' => e = .returned (.tuple #[.agg (train r s t (turnF r s t F fed cover)), .float .f32 (turnP r s t F fed cover), .bool true]) ∧ Below w.heap.size w w' := fun w => by have := specTurn_any r s t F fed cover w lr ur ho hf hc; rwa [hk] at this
      clear ha ho hf hc hC hk
      obtain ⟨G, hG⟩ : ∃ G, G = turnF r s t F fed cover := ⟨_, rfl⟩
      obtain ⟨p, hp⟩ : ∃ p, p = turnP r s t F fed cover := ⟨_, rfl⟩
      rw [← hG, ← hp] at hTurn
      rw [← hG, ← hp]
      clear hG hp
      go_enter Tryz.func23, Tryz.ntmps23
      go_wp2_with (first | (go_at_call 48; (with_reducible refine (hAsk _ _ ?_).mono ?_); (focus (repeat (first | (with_reducible assumption) | ((with_reducible refine blk_new _ _ _ ?_); focus (simp; done)) | ((with_reducible refine blk_old _ _ _ ?_ ?_); focus (simp; done)) | ((with_reducible refine blk_old _ _ _ ?_ ?_); focus (first | omega | (simp; omega))) | ((with_reducible apply blk_set); focus (simp; done)) | ((with_reducible refine blk_off _ _ _ _ ?_ ?_); focus (simp; done)) | ((with_reducible refine blk_offc _ _ _ _ ?_ ?_); focus (first | (simp; done) | omega | (simp; omega))) | ((with_reducible refine blk_off _ _ _ _ ?_ ?_); focus (first | omega | (simp; omega))) | (with_reducible refine blk_drew _ _ ?_) | ((with_reducible refine blk_below (by assumption) ?_ ?_); focus (simp; done)) | ((with_reducible refine blk_below (by assumption) ?_ ?_); focus (first | omega | (simp; omega)))))); rintro e w' ⟨rfl, rfl⟩) | (go_at_call 49; (with_reducible refine (hTurn _).mono ?_); rintro e w2 ⟨rfl, hb2⟩; have hz2 := hb2.size; (try simp at hz2); obtain ⟨hc2, hf2⟩ := bcell hb2) | ((with_reducible refine at_load 28 ?_); refine wpList_load_part rfl 28 _ rfl _ 0 15 rfl _ _ _ _ (by repeat (first | (with_reducible assumption) | ((with_reducible refine blk_new _ _ _ ?_); focus (simp; done)) | ((with_reducible refine blk_old _ _ _ ?_ ?_); focus (simp; done)) | ((with_reducible refine blk_old _ _ _ ?_ ?_); focus (first | omega | (simp; omega))) | ((with_reducible apply blk_set); focus (simp; done)) | ((with_reducible refine blk_off _ _ _ _ ?_ ?_); focus (simp; done)) | ((with_reducible refine blk_offc _ _ _ _ ?_ ?_); focus (first | (simp; done) | omega | (simp; omega))) | ((with_reducible refine blk_off _ _ _ _ ?_ ?_); focus (first | omega | (simp; omega))) | (with_reducible refine blk_drew _ _ ?_) | ((with_reducible refine blk_below (by assumption) ?_ ?_); focus (simp; done)) | ((with_reducible refine blk_below (by assumption) ?_ ?_); focus (first | omega | (simp; omega))))) Tryz.underlying28 rfl (by kernel_rfl) (by simp [row_size]) _ (row_all [_, _, _] 12 _) ?_) | ((with_reducible refine at_store 28 ?_); refine wpList_store_part rfl 28 _ _ rfl _ 0 _ rfl rfl _ _ (by repeat (first | (with_reducible assumption) | ((with_reducible refine blk_new _ _ _ ?_); focus (simp; done)) | ((with_reducible refine blk_old _ _ _ ?_ ?_); focus (simp; done)) | ((with_reducible refine blk_old _ _ _ ?_ ?_); focus (first | omega | (simp; omega))) | ((with_reducible apply blk_set); focus (simp; done)) | ((with_reducible refine blk_off _ _ _ _ ?_ ?_); focus (simp; done)) | ((with_reducible refine blk_offc _ _ _ _ ?_ ?_); focus (first | (simp; done) | omega | (simp; omega))) | ((with_reducible refine blk_off _ _ _ _ ?_ ?_); focus (first | omega | (simp; omega))) | (with_reducible refine blk_drew _ _ ?_) | ((with_reducible refine blk_below (by assumption) ?_ ?_); focus (simp; done)) | ((with_reducible refine blk_below (by assumption) ?_ ?_); focus (first | omega | (simp; omega))))) (by rw [row_size]; kernel_rfl) (by simp [row_size]) (row_cells _ _ _ rfl) _ (row_over _ _ 12 _ _ (by simp)) ?_) | go_in)
      refine bodyPost_ret (v := .tuple #[.agg (train r s t G), .float .f32 (p), .int .i64 0]) ?_ ?_ ?_
      · refine results_row_tmp2 Tryz.results23 _ _ _ 28 (train r s t G) (0, 0) _ _ _ rfl rfl rfl ?_ Tryz.underlying28 rfl (by simp only [row_size]; kernel_rfl)
        exact (by repeat (first | (with_reducible assumption) | ((with_reducible refine blk_new _ _ _ ?_); focus (simp; done)) | ((with_reducible refine blk_old _ _ _ ?_ ?_); focus (simp; done)) | ((with_reducible refine blk_old _ _ _ ?_ ?_); focus (first | omega | (simp; omega))) | ((with_reducible apply blk_set); focus (simp; done)) | ((with_reducible refine blk_off _ _ _ _ ?_ ?_); focus (simp; done)) | ((with_reducible refine blk_offc _ _ _ _ ?_ ?_); focus (first | (simp; done) | omega | (simp; omega))) | ((with_reducible refine blk_off _ _ _ _ ?_ ?_); focus (first | omega | (simp; omega))) | (with_reducible refine blk_drew _ _ ?_) | ((with_reducible refine blk_below (by assumption) ?_ ?_); focus (simp; done)) | ((with_reducible refine blk_below (by assumption) ?_ ?_); focus (first | omega | (simp; omega)))))
      · rfl
      · exact ⟨rfl, (by repeat (first | (with_reducible assumption) | (with_reducible exact Below.refl _ _) | ((with_reducible refine bel_alloc _ ?_ ?_); focus (first | omega | (simp; done) | (simp; omega))) | ((with_reducible refine bel_row _ ?_ ?_); focus (first | omega | (simp; done) | (simp; omega))) | ((with_reducible refine bel_cell _ ?_ ?_); focus (first | omega | (simp; done) | (simp; omega))) | (with_reducible refine Below.drew ?_) | (with_reducible refine below_wideW _ ?_) | ((with_reducible refine bel_next (by assumption) ?_ ?_); focus (first | omega | (simp; done) | (simp; omega)))))⟩

set_option maxRecDepth 100000 in
set_option maxHeartbeats 3200000 in
theorem implOnce_any (r : Int) (s t : Nat) (F : Nat → Nat) (fed cover : Nat) (w : World) (lr : -128 ≤ r) (ur : r ≤ 127) : Calls Tryz.prog 22 #[.agg (train r s t F), .float .f32 fed, .float .f32 cover] w fun e w' => e = .returned (.tuple #[.agg (if onceB r s t F fed cover then train r s t (turnF r s t F fed cover) else train 0 0 0 (fun _ => 0)), .float .f32 (if onceB r s t F fed cover then turnP r s t F fed cover else 0), .int .i64 (onceC r s t F fed cover)]) ∧ Below w.heap.size w w' := by
  unfold onceB onceC
  have hz : (#[Value.int IntKind.i8 0, Value.float FloatKind.f32 0, Value.float FloatKind.f32 0, Value.float FloatKind.f32 0, Value.float FloatKind.f32 0, Value.float FloatKind.f32 0, Value.float FloatKind.f32 0, Value.float FloatKind.f32 0, Value.float FloatKind.f32 0, Value.float FloatKind.f32 0, Value.float FloatKind.f32 0, Value.float FloatKind.f32 0, Value.float FloatKind.f32 0, Value.float FloatKind.f32 0, Value.float FloatKind.f32 0] : Array Value) = row [Value.int IntKind.i8 0, Value.float FloatKind.f32 0, Value.float FloatKind.f32 0] 12 (fun _ => 0) := rfl
  cases ha : askB r s t F fed cover
  · have hAsk := fun (w : World) => implAsked_any r s t F fed cover w lr ur
    obtain ⟨c, hcc⟩ : ∃ c, askC r s t F fed cover = c := ⟨_, rfl⟩
    have hne : ¬ c = 0 := by rw [← hcc]; exact ask_no ha
    have hnb : (c != 0) = true := by simp [hne]
    rw [hcc] at hAsk ⊢
    clear hcc ha
    go_enter Tryz.func22, Tryz.ntmps22
    go_wp2_with (first | (go_at_call 46; (with_reducible refine (hAsk _).mono ?_); rintro e w1 ⟨rfl, hb1⟩; have hz1 := hb1.size; (try simp at hz1); obtain ⟨hc1, hf1⟩ := bcell hb1) | (go_at_call 47; (with_reducible refine (hTurn _).mono ?_); rintro e w2 ⟨rfl, hb2⟩; have hz2 := hb2.size; (try simp at hz2); obtain ⟨hc2, hf2⟩ := bcell hb2) | ((with_reducible refine at_load 28 ?_); refine wpList_load_part rfl 28 _ rfl _ 0 15 rfl _ _ _ _ (by repeat (first | (with_reducible assumption) | ((with_reducible refine blk_new _ _ _ ?_); focus (simp; done)) | ((with_reducible refine blk_old _ _ _ ?_ ?_); focus (simp; done)) | ((with_reducible refine blk_old _ _ _ ?_ ?_); focus (first | omega | (simp; omega))) | ((with_reducible apply blk_set); focus (simp; done)) | ((with_reducible refine blk_off _ _ _ _ ?_ ?_); focus (simp; done)) | ((with_reducible refine blk_offc _ _ _ _ ?_ ?_); focus (first | (simp; done) | omega | (simp; omega))) | ((with_reducible refine blk_off _ _ _ _ ?_ ?_); focus (first | omega | (simp; omega))) | (with_reducible refine blk_drew _ _ ?_) | ((with_reducible refine blk_below (by assumption) ?_ ?_); focus (simp; done)) | ((with_reducible refine blk_below (by assumption) ?_ ?_); focus (first | omega | (simp; omega))))) Tryz.underlying28 rfl (by kernel_rfl) (by simp [row_size]) _ (row_all [_, _, _] 12 _) ?_) | ((with_reducible refine at_store 28 ?_); refine wpList_store_part rfl 28 _ _ rfl _ 0 _ rfl rfl _ _ (by repeat (first | (with_reducible assumption) | ((with_reducible refine blk_new _ _ _ ?_); focus (simp; done)) | ((with_reducible refine blk_old _ _ _ ?_ ?_); focus (simp; done)) | ((with_reducible refine blk_old _ _ _ ?_ ?_); focus (first | omega | (simp; omega))) | ((with_reducible apply blk_set); focus (simp; done)) | ((with_reducible refine blk_off _ _ _ _ ?_ ?_); focus (simp; done)) | ((with_reducible refine blk_offc _ _ _ _ ?_ ?_); focus (first | (simp; done) | omega | (simp; omega))) | ((with_reducible refine blk_off _ _ _ _ ?_ ?_); focus (first | omega | (simp; omega))) | (with_reducible refine blk_drew _ _ ?_) | ((with_reducible refine blk_below (by assumption) ?_ ?_); focus (simp; done)) | ((with_reducible refine blk_below (by assumption) ?_ ?_); focus (first | omega | (simp; omega))))) (by rw [row_size]; kernel_rfl) (by simp [row_size]) (row_cells _ _ _ rfl) _ (row_over _ _ 12 _ _ (by simp)) ?_) | go_in)
    refine bodyPost_ret (v := .tuple #[.agg (train 0 0 0 (fun _ => 0)), .float .f32 (0), .int .i64 c]) ?_ ?_ ?_
    · refine results_row_tmp2 Tryz.results22 _ _ _ 28 (train 0 0 0 (fun _ => 0)) (0, 0) _ _ _ rfl rfl rfl ?_ Tryz.underlying28 rfl (by simp only [row_size]; kernel_rfl)
      exact (by repeat (first | (with_reducible assumption) | ((with_reducible refine blk_new _ _ _ ?_); focus (simp; done)) | ((with_reducible refine blk_old _ _ _ ?_ ?_); focus (simp; done)) | ((with_reducible refine blk_old _ _ _ ?_ ?_); focus (first | omega | (simp; omega))) | ((with_reducible apply blk_set); focus (simp; done)) | ((with_reducible refine blk_off _ _ _ _ ?_ ?_); focus (simp; done)) | ((with_reducible refine blk_offc _ _ _ _ ?_ ?_); focus (first | (simp; done) | omega | (simp; omega))) | ((with_reducible refine blk_off _ _ _ _ ?_ ?_); focus (first | omega | (simp; omega))) | (with_reducible refine blk_drew _ _ ?_) | ((with_reducible refine blk_below (by assumption) ?_ ?_); focus (simp; done)) | ((with_reducible refine blk_below (by assumption) ?_ ?_); focus (first | omega | (simp; omega)))))
    · rfl
    · exact ⟨rfl, (by repeat (first | (with_reducible assumption) | (with_reducible exact Below.refl _ _) | ((with_reducible refine bel_alloc _ ?_ ?_); focus (first | omega | (simp; done) | (simp; omega))) | ((with_reducible refine bel_row _ ?_ ?_); focus (first | omega | (simp; done) | (simp; omega))) | ((with_reducible refine bel_cell _ ?_ ?_); focus (first | omega | (simp; done) | (simp; omega))) | (with_reducible refine Below.drew ?_) | (with_reducible refine below_wideW _ ?_) | ((with_reducible refine bel_next (by assumption) ?_ ?_); focus (first | omega | (simp; done) | (simp; omega)))))⟩
  · obtain ⟨ho, hf, hc, hC⟩ := ask_yes ha
    have hAsk := fun (w : World) => implAsked_any r s t F fed cover w lr ur
    rw [hC] at hAsk
    cases hk : trainB r s t (turnF r s t F fed cover)
    · have hTurn : ∀ w : World, Calls Tryz.prog 47 #[.agg (train r s t F), .float .f32 fed, .float .f32 cover] w fun e w' => e = .returned (.tuple #[.agg (train r s t (turnF r s t F fed cover)), .float .f32 (turnP r s t F fed cover), .bool false]) ∧ Below w.heap.size w w' := fun w => by have := implTurn_any r s t F fed cover w lr ur ho hf hc; rwa [hk] at this
      clear ha ho hf hc hC hk
      obtain ⟨G, hG⟩ : ∃ G, G = turnF r s t F fed cover := ⟨_, rfl⟩
      obtain ⟨p, hp⟩ : ∃ p, p = turnP r s t F fed cover := ⟨_, rfl⟩
      rw [← hG, ← hp] at hTurn
      rw [← hG, ← hp]
      clear hG hp
      go_enter Tryz.func22, Tryz.ntmps22
      go_wp2_with (first | (go_at_call 46; (with_reducible refine (hAsk _).mono ?_); rintro e w1 ⟨rfl, hb1⟩; have hz1 := hb1.size; (try simp at hz1); obtain ⟨hc1, hf1⟩ := bcell hb1) | (go_at_call 47; (with_reducible refine (hTurn _).mono ?_); rintro e w2 ⟨rfl, hb2⟩; have hz2 := hb2.size; (try simp at hz2); obtain ⟨hc2, hf2⟩ := bcell hb2) | ((with_reducible refine at_load 28 ?_); refine wpList_load_part rfl 28 _ rfl _ 0 15 rfl _ _ _ _ (by repeat (first | (with_reducible assumption) | ((with_reducible refine blk_new _ _ _ ?_); focus (simp; done)) | ((with_reducible refine blk_old _ _ _ ?_ ?_); focus (simp; done)) | ((with_reducible refine blk_old _ _ _ ?_ ?_); focus (first | omega | (simp; omega))) | ((with_reducible apply blk_set); focus (simp; done)) | ((with_reducible refine blk_off _ _ _ _ ?_ ?_); focus (simp; done)) | ((with_reducible refine blk_offc _ _ _ _ ?_ ?_); focus (first | (simp; done) | omega | (simp; omega))) | ((with_reducible refine blk_off _ _ _ _ ?_ ?_); focus (first | omega | (simp; omega))) | (with_reducible refine blk_drew _ _ ?_) | ((with_reducible refine blk_below (by assumption) ?_ ?_); focus (simp; done)) | ((with_reducible refine blk_below (by assumption) ?_ ?_); focus (first | omega | (simp; omega))))) Tryz.underlying28 rfl (by kernel_rfl) (by simp [row_size]) _ (row_all [_, _, _] 12 _) ?_) | ((with_reducible refine at_store 28 ?_); refine wpList_store_part rfl 28 _ _ rfl _ 0 _ rfl rfl _ _ (by repeat (first | (with_reducible assumption) | ((with_reducible refine blk_new _ _ _ ?_); focus (simp; done)) | ((with_reducible refine blk_old _ _ _ ?_ ?_); focus (simp; done)) | ((with_reducible refine blk_old _ _ _ ?_ ?_); focus (first | omega | (simp; omega))) | ((with_reducible apply blk_set); focus (simp; done)) | ((with_reducible refine blk_off _ _ _ _ ?_ ?_); focus (simp; done)) | ((with_reducible refine blk_offc _ _ _ _ ?_ ?_); focus (first | (simp; done) | omega | (simp; omega))) | ((with_reducible refine blk_off _ _ _ _ ?_ ?_); focus (first | omega | (simp; omega))) | (with_reducible refine blk_drew _ _ ?_) | ((with_reducible refine blk_below (by assumption) ?_ ?_); focus (simp; done)) | ((with_reducible refine blk_below (by assumption) ?_ ?_); focus (first | omega | (simp; omega))))) (by rw [row_size]; kernel_rfl) (by simp [row_size]) (row_cells _ _ _ rfl) _ (row_over _ _ 12 _ _ (by simp)) ?_) | go_in)
      refine bodyPost_ret (v := .tuple #[.agg (train 0 0 0 (fun _ => 0)), .float .f32 (0), .int .i64 3]) ?_ ?_ ?_
      · refine results_row_tmp2 Tryz.results22 _ _ _ 28 (train 0 0 0 (fun _ => 0)) (0, 0) _ _ _ rfl rfl rfl ?_ Tryz.underlying28 rfl (by simp only [row_size]; kernel_rfl)
        exact (by repeat (first | (with_reducible assumption) | ((with_reducible refine blk_new _ _ _ ?_); focus (simp; done)) | ((with_reducible refine blk_old _ _ _ ?_ ?_); focus (simp; done)) | ((with_reducible refine blk_old _ _ _ ?_ ?_); focus (first | omega | (simp; omega))) | ((with_reducible apply blk_set); focus (simp; done)) | ((with_reducible refine blk_off _ _ _ _ ?_ ?_); focus (simp; done)) | ((with_reducible refine blk_offc _ _ _ _ ?_ ?_); focus (first | (simp; done) | omega | (simp; omega))) | ((with_reducible refine blk_off _ _ _ _ ?_ ?_); focus (first | omega | (simp; omega))) | (with_reducible refine blk_drew _ _ ?_) | ((with_reducible refine blk_below (by assumption) ?_ ?_); focus (simp; done)) | ((with_reducible refine blk_below (by assumption) ?_ ?_); focus (first | omega | (simp; omega)))))
      · rfl
      · exact ⟨rfl, (by repeat (first | (with_reducible assumption) | (with_reducible exact Below.refl _ _) | ((with_reducible refine bel_alloc _ ?_ ?_); focus (first | omega | (simp; done) | (simp; omega))) | ((with_reducible refine bel_row _ ?_ ?_); focus (first | omega | (simp; done) | (simp; omega))) | ((with_reducible refine bel_cell _ ?_ ?_); focus (first | omega | (simp; done) | (simp; omega))) | (with_reducible refine Below.drew ?_) | (with_reducible refine below_wideW _ ?_) | ((with_reducible refine bel_next (by assumption) ?_ ?_); focus (first | omega | (simp; done) | (simp; omega)))))⟩
    · have hTurn : ∀ w : World, Calls Tryz.prog 47 #[.agg (train r s t F), .float .f32 fed, .float .f32 cover] w fun e w' => e = .returned (.tuple #[.agg (train r s t (turnF r s t F fed cover)), .float .f32 (turnP r s t F fed cover), .bool true]) ∧ Below w.heap.size w w' := fun w => by have := implTurn_any r s t F fed cover w lr ur ho hf hc; rwa [hk] at this
      clear ha ho hf hc hC hk
      obtain ⟨G, hG⟩ : ∃ G, G = turnF r s t F fed cover := ⟨_, rfl⟩
      obtain ⟨p, hp⟩ : ∃ p, p = turnP r s t F fed cover := ⟨_, rfl⟩
      rw [← hG, ← hp] at hTurn
      rw [← hG, ← hp]
      clear hG hp
      go_enter Tryz.func22, Tryz.ntmps22
      go_wp2_with (first | (go_at_call 46; (with_reducible refine (hAsk _).mono ?_); rintro e w1 ⟨rfl, hb1⟩; have hz1 := hb1.size; (try simp at hz1); obtain ⟨hc1, hf1⟩ := bcell hb1) | (go_at_call 47; (with_reducible refine (hTurn _).mono ?_); rintro e w2 ⟨rfl, hb2⟩; have hz2 := hb2.size; (try simp at hz2); obtain ⟨hc2, hf2⟩ := bcell hb2) | ((with_reducible refine at_load 28 ?_); refine wpList_load_part rfl 28 _ rfl _ 0 15 rfl _ _ _ _ (by repeat (first | (with_reducible assumption) | ((with_reducible refine blk_new _ _ _ ?_); focus (simp; done)) | ((with_reducible refine blk_old _ _ _ ?_ ?_); focus (simp; done)) | ((with_reducible refine blk_old _ _ _ ?_ ?_); focus (first | omega | (simp; omega))) | ((with_reducible apply blk_set); focus (simp; done)) | ((with_reducible refine blk_off _ _ _ _ ?_ ?_); focus (simp; done)) | ((with_reducible refine blk_offc _ _ _ _ ?_ ?_); focus (first | (simp; done) | omega | (simp; omega))) | ((with_reducible refine blk_off _ _ _ _ ?_ ?_); focus (first | omega | (simp; omega))) | (with_reducible refine blk_drew _ _ ?_) | ((with_reducible refine blk_below (by assumption) ?_ ?_); focus (simp; done)) | ((with_reducible refine blk_below (by assumption) ?_ ?_); focus (first | omega | (simp; omega))))) Tryz.underlying28 rfl (by kernel_rfl) (by simp [row_size]) _ (row_all [_, _, _] 12 _) ?_) | ((with_reducible refine at_store 28 ?_); refine wpList_store_part rfl 28 _ _ rfl _ 0 _ rfl rfl _ _ (by repeat (first | (with_reducible assumption) | ((with_reducible refine blk_new _ _ _ ?_); focus (simp; done)) | ((with_reducible refine blk_old _ _ _ ?_ ?_); focus (simp; done)) | ((with_reducible refine blk_old _ _ _ ?_ ?_); focus (first | omega | (simp; omega))) | ((with_reducible apply blk_set); focus (simp; done)) | ((with_reducible refine blk_off _ _ _ _ ?_ ?_); focus (simp; done)) | ((with_reducible refine blk_offc _ _ _ _ ?_ ?_); focus (first | (simp; done) | omega | (simp; omega))) | ((with_reducible refine blk_off _ _ _ _ ?_ ?_); focus (first | omega | (simp; omega))) | (with_reducible refine blk_drew _ _ ?_) | ((with_reducible refine blk_below (by assumption) ?_ ?_); focus (simp; done)) | ((with_reducible refine blk_below (by assumption) ?_ ?_); focus (first | omega | (simp; omega))))) (by rw [row_size]; kernel_rfl) (by simp [row_size]) (row_cells _ _ _ rfl) _ (row_over _ _ 12 _ _ (by simp)) ?_) | go_in)
      refine bodyPost_ret (v := .tuple #[.agg (train r s t G), .float .f32 (p), .int .i64 0]) ?_ ?_ ?_
      · refine results_row_tmp2 Tryz.results22 _ _ _ 28 (train r s t G) (0, 0) _ _ _ rfl rfl rfl ?_ Tryz.underlying28 rfl (by simp only [row_size]; kernel_rfl)
        exact (by repeat (first | (with_reducible assumption) | ((with_reducible refine blk_new _ _ _ ?_); focus (simp; done)) | ((with_reducible refine blk_old _ _ _ ?_ ?_); focus (simp; done)) | ((with_reducible refine blk_old _ _ _ ?_ ?_); focus (first | omega | (simp; omega))) | ((with_reducible apply blk_set); focus (simp; done)) | ((with_reducible refine blk_off _ _ _ _ ?_ ?_); focus (simp; done)) | ((with_reducible refine blk_offc _ _ _ _ ?_ ?_); focus (first | (simp; done) | omega | (simp; omega))) | ((with_reducible refine blk_off _ _ _ _ ?_ ?_); focus (first | omega | (simp; omega))) | (with_reducible refine blk_drew _ _ ?_) | ((with_reducible refine blk_below (by assumption) ?_ ?_); focus (simp; done)) | ((with_reducible refine blk_below (by assumption) ?_ ?_); focus (first | omega | (simp; omega)))))
      · rfl
      · exact ⟨rfl, (by repeat (first | (with_reducible assumption) | (with_reducible exact Below.refl _ _) | ((with_reducible refine bel_alloc _ ?_ ?_); focus (first | omega | (simp; done) | (simp; omega))) | ((with_reducible refine bel_row _ ?_ ?_); focus (first | omega | (simp; done) | (simp; omega))) | ((with_reducible refine bel_cell _ ?_ ?_); focus (first | omega | (simp; done) | (simp; omega))) | (with_reducible refine Below.drew ?_) | (with_reducible refine below_wideW _ ?_) | ((with_reducible refine bel_next (by assumption) ?_ ?_); focus (first | omega | (simp; done) | (simp; omega)))))⟩

end Go.Proofs.YtkokekndiammpaaGreatDoor

/-! Contracts of CoverOf, the reference's and the program's, and the law on it. -/
set_option linter.unusedVariables false
set_option linter.unusedSimpArgs false
namespace Go.Proofs.YtkokekndiammpaaGreatDoor
open Go.RowKit Ieee

/-- Narrow numbers, as values. -/
def floatsV (G : Nat → Nat) (n : Nat) : List Value := (List.range n).map (fun k => Value.float .f32 (G k))
theorem floatsV_snoc (G : Nat → Nat) (n : Nat) : floatsV G n ++ [.float .f32 (G n)] = floatsV G (n + 1) := by simp [floatsV, List.range_succ]
theorem floatsV_at {G : Nat → Nat} {n k : Nat} (h : k < n) : (floatsV G n)[k]? = some (.float .f32 (G k)) := by simp [floatsV, h]
theorem Tryz.info_f32 : (Tryz.prog.info? 25).map (fun i => (i.zero, i.size, i.bytes)) = some (some (.float .f32 0), 1, 4) := by kernel_rfl
theorem own_off {w : World} {base n g : Nat} {e t : TypeId} {v : Value} {xs : List Value} {cs : Array Value} {fr : Nat × Nat} (h : w.ownsRow base e 1 v n xs) (hg : w.heap[g]? = some (.cells cs t fr)) (hne : g < base ∨ t ≠ e) : v.ownBlock ≠ some g := by
  intro hv
  rcases h.2 with ⟨rfl, _⟩ | ⟨g', cap, cur, rfl, hb, hh, _⟩
  · simp [Value.ownBlock] at hv
  · simp only [Value.ownBlock, Option.some.injEq] at hv
    subst hv
    rcases hne with h1 | h1
    · omega
    · rw [hg] at hh
      simp only [Option.some.injEq, Obj.cells.injEq] at hh
      exact h1 hh.2.1
theorem own_keep {w w1 : World} {o : Obj} {v : Value} {g : Nat} {r : Obj} (hg : (w.alloc o).grownBy w1 v.ownBlock) (h : w.heap[g]? = some r) (hne : v.ownBlock ≠ some g) : w1.heap[g]? = some r := by
  have hlt : g < w.heap.size := by
    cases hlt : decide (g < w.heap.size)
    · simp only [decide_eq_false_iff_not] at hlt
      rw [Array.getElem?_eq_none (by omega)] at h; cases h
    · simpa using hlt
  rw [hg.block g (by simp; omega) (fun e => hne e.symm), Below.heap_alloc w o g hlt]
  exact h
theorem own_below {w0 wr w1 : World} {B base : Nat} {e : TypeId} {v : Value} {n : Nat} {xs : List Value} {o : Obj} (hown : wr.ownsRow base e 1 v n xs) (hBb : B ≤ base) (hB : B ≤ wr.heap.size) (hb : Below B w0 wr) (hg : (wr.alloc o).grownBy w1 v.ownBlock) : Below B w0 w1 := by
  have h1 : Below B w0 (wr.alloc o) := hb.alloc hB o
  refine h1.grown hg (by simp; omega) ?_
  intro k hk
  have := (hown.lt k hk).1
  omega
theorem own_size {wr w1 : World} {v : Value} {o : Obj} (hg : (wr.alloc o).grownBy w1 v.ownBlock) : wr.heap.size + 1 ≤ w1.heap.size := by
  have := hg.size
  simpa using this
end Go.Proofs.YtkokekndiammpaaGreatDoor
