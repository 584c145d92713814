/- The law on ReadTrain. -/
import Derived.Test.YtckcngmbbnilnaaDoorReadTI
import Derived.Test.YtckcngmbbnilnaaDoorTEq
set_option linter.unusedVariables false
set_option linter.unusedSimpArgs false
namespace Go.Proofs.YtckcngmbbnilnaaDoor
open Go.RowKit Go.Lib Ieee

theorem trainB_numR {r : Int} {s t : Nat} {F : Nat → Nat} (h : trainB r s t F = true) : ¬ Flt.NaN single s ∧ ¬ Flt.NaN single t ∧ ∀ i, i < 12 → ¬ Flt.NaN single (F i) := by
  obtain ⟨_, _, hs, ht, hf, hz⟩ := trainB_facts h
  refine ⟨((part_iff s).1 hs).1, ((part_iff t).1 ht).1, fun i hi => ?_⟩
  by_cases hr : (i : Int) < r
  · exact ((film_iff _).1 (hf i hi hr)).1
  · have := hz i hi (by omega)
    intro hn
    unfold zeroB at this
    rw [order_nan .f32 (Or.inl hn)] at this
    cases this
theorem readTR_valid {l : List UInt8} {n : Nat} {G : List Nat} (h : readTR l = some (n, G)) : trainGB n G = true := by
  unfold readTR at h
  split at h
  · simp at h
  · rename_i w0 ws _
    cases hn : numOf w0 with
    | none => rw [hn] at h; simp at h
    | some k =>
      rw [hn] at h
      simp only [Option.bind] at h
      split at h
      · cases hr : readAll ws with
        | none => rw [hr] at h; simp at h
        | some G' =>
          rw [hr] at h
          simp only at h
          split at h
          · rename_i hb
            injection h with h
            injection h with h1 h2
            subst h1 h2
            exact hb
          · simp at h
      · simp at h

set_option maxHeartbeats 2000000 in
set_option maxRecDepth 100000 in
theorem exactReadTrain_any (t : ByteArray) (w : World) (hL : Libs w) (htab : Lib.TabIs Tryd.prog w "internal/strconv.uint64pow10" .u64 Lib.pow10Tab) (m0 : Int) (hml : w.cell? ⟨4, 0, none⟩ = some (.int .i64 m0)) :
    Calls Tryd.prog 8 #[.string t] w fun e w' => e = .returned (.bool true) ∧ Below w.heap.size w w' := by
  by_cases hmax : t.size ≤ 1048576
  · have hMlt : 4 < w.heap.size := World.block_lt_of_cell? _ _ hml
    obtain ⟨R, S, T, G, C, hN, hR, hC⟩ : ∃ (R : Int) (S T : Nat) (G : Nat → Nat) (C : Int), (¬ Flt.NaN single S ∧ ¬ Flt.NaN single T ∧ ∀ i, i < 12 → ¬ Flt.NaN single (G i)) ∧ train R S T G = rtRow (readTR t.data.toList) ∧ C = rtCode (readTR t.data.toList) := by
      cases h : readTR t.data.toList with
      | none => exact ⟨0, 0, 0, fun _ => 0, 5, ⟨by decide, by decide, fun _ _ => (by decide : ¬ Flt.NaN single 0)⟩, rfl, rfl⟩
      | some p =>
        obtain ⟨n, G⟩ := p
        have hb := readTR_valid h
        exact ⟨n, G.getD 0 0, G.getD 1 0, trF G, 0, trainB_numR hb, rfl, rfl⟩
    have hS := fun w => specReadTrain t hmax w (train R S T G) C hR hC
    have hI := fun w1 (hb : Below w.heap.size w w1) => implReadTrain t hmax w1 (hL.on hb (Nat.le_refl _)) (Go.Joins.tab_stays (g := 1) (by kernel_rfl) htab hb (Nat.le_refl _)) m0 ((hb.cell (p := ⟨4, 0, none⟩) hMlt).trans hml) (train R S T G) C hR hC
    obtain ⟨hN1, hN2, hN3⟩ := hN
    clear hL htab hml hMlt hR hC
    have hz : (#[Value.int IntKind.i8 0, Value.float FloatKind.f32 0, Value.float FloatKind.f32 0, Value.float FloatKind.f32 0, Value.float FloatKind.f32 0, Value.float FloatKind.f32 0, Value.float FloatKind.f32 0, Value.float FloatKind.f32 0, Value.float FloatKind.f32 0, Value.float FloatKind.f32 0, Value.float FloatKind.f32 0, Value.float FloatKind.f32 0, Value.float FloatKind.f32 0, Value.float FloatKind.f32 0, Value.float FloatKind.f32 0] : Array Value) = row [Value.int IntKind.i8 0, Value.float FloatKind.f32 0, Value.float FloatKind.f32 0] 12 (fun _ => 0) := rfl
    go_enter Tryd.func8, Tryd.ntmps8
    go_wp2_with (first | (go_at_call 23; (with_reducible refine (hS _).mono ?_); rintro e w2 ⟨rfl, hb2⟩; have hz2 := hb2.size; (try simp at hz2); obtain ⟨hc2, hf2⟩ := bcell hb2) | ((with_reducible refine at_load 30 ?_); refine wpList_load_part rfl 30 _ rfl _ 0 15 rfl _ _ _ _ (by repeat (first | (with_reducible assumption) | ((with_reducible refine blk_new _ _ _ ?_); focus (simp; done)) | ((with_reducible refine blk_old _ _ _ ?_ ?_); focus (simp; done)) | ((with_reducible refine blk_old _ _ _ ?_ ?_); focus (first | omega | (simp; omega))) | ((with_reducible apply blk_set); focus (simp; done)) | ((with_reducible refine blk_off _ _ _ _ ?_ ?_); focus (simp; done)) | ((with_reducible refine blk_offc _ _ _ _ ?_ ?_); focus (first | (simp; done) | omega | (simp; omega))) | ((with_reducible refine blk_off _ _ _ _ ?_ ?_); focus (first | omega | (simp; omega))) | (with_reducible refine blk_drew _ _ ?_) | ((with_reducible refine blk_below (by assumption) ?_ ?_); focus (simp; done)) | ((with_reducible refine blk_below (by assumption) ?_ ?_); focus (first | omega | (simp; omega))))) Tryd.underlying30 rfl (by kernel_rfl) (by simp [row_size]) _ (row_all [_, _, _] 12 _) ?_) | ((with_reducible refine at_store 30 ?_); refine wpList_store_part rfl 30 _ _ rfl _ 0 _ rfl rfl _ _ (by repeat (first | (with_reducible assumption) | ((with_reducible refine blk_new _ _ _ ?_); focus (simp; done)) | ((with_reducible refine blk_old _ _ _ ?_ ?_); focus (simp; done)) | ((with_reducible refine blk_old _ _ _ ?_ ?_); focus (first | omega | (simp; omega))) | ((with_reducible apply blk_set); focus (simp; done)) | ((with_reducible refine blk_off _ _ _ _ ?_ ?_); focus (simp; done)) | ((with_reducible refine blk_offc _ _ _ _ ?_ ?_); focus (first | (simp; done) | omega | (simp; omega))) | ((with_reducible refine blk_off _ _ _ _ ?_ ?_); focus (first | omega | (simp; omega))) | (with_reducible refine blk_drew _ _ ?_) | ((with_reducible refine blk_below (by assumption) ?_ ?_); focus (simp; done)) | ((with_reducible refine blk_below (by assumption) ?_ ?_); focus (first | omega | (simp; omega))))) (by rw [row_size]; kernel_rfl) (by simp [row_size]) (row_cells _ _ _ rfl) _ (row_over _ _ 12 _ _ (by simp)) ?_))
    with_reducible refine (hI _ ?hbI).mono ?_
    case hbI => exact (by repeat (first | (with_reducible assumption) | (with_reducible exact Below.refl _ _) | ((with_reducible refine bel_alloc _ ?_ ?_); focus (first | omega | (simp; done) | (simp; omega))) | ((with_reducible refine bel_row _ ?_ ?_); focus (first | omega | (simp; done) | (simp; omega))) | ((with_reducible refine bel_cell _ ?_ ?_); focus (first | omega | (simp; done) | (simp; omega))) | (with_reducible refine Below.drew ?_) | (with_reducible refine below_wideW _ ?_) | ((with_reducible refine bel_next (by assumption) ?_ ?_); focus (first | omega | (simp; done) | (simp; omega)))))
    rintro e w3 ⟨rfl, hb3⟩
    have hz3 := hb3.size
    (try simp at hz3)
    obtain ⟨hc3, hf3⟩ := bcell hb3
    go_wp2_with (first | ((with_reducible refine at_load 30 ?_); refine wpList_load_part rfl 30 _ rfl _ 0 15 rfl _ _ _ _ (by repeat (first | (with_reducible assumption) | ((with_reducible refine blk_new _ _ _ ?_); focus (simp; done)) | ((with_reducible refine blk_old _ _ _ ?_ ?_); focus (simp; done)) | ((with_reducible refine blk_old _ _ _ ?_ ?_); focus (first | omega | (simp; omega))) | ((with_reducible apply blk_set); focus (simp; done)) | ((with_reducible refine blk_off _ _ _ _ ?_ ?_); focus (simp; done)) | ((with_reducible refine blk_offc _ _ _ _ ?_ ?_); focus (first | (simp; done) | omega | (simp; omega))) | ((with_reducible refine blk_off _ _ _ _ ?_ ?_); focus (first | omega | (simp; omega))) | (with_reducible refine blk_drew _ _ ?_) | ((with_reducible refine blk_below (by assumption) ?_ ?_); focus (simp; done)) | ((with_reducible refine blk_below (by assumption) ?_ ?_); focus (first | omega | (simp; omega))))) Tryd.underlying30 rfl (by kernel_rfl) (by simp [row_size]) _ (row_all [_, _, _] 12 _) ?_) | ((with_reducible refine at_store 30 ?_); refine wpList_store_part rfl 30 _ _ rfl _ 0 _ rfl rfl _ _ (by repeat (first | (with_reducible assumption) | ((with_reducible refine blk_new _ _ _ ?_); focus (simp; done)) | ((with_reducible refine blk_old _ _ _ ?_ ?_); focus (simp; done)) | ((with_reducible refine blk_old _ _ _ ?_ ?_); focus (first | omega | (simp; omega))) | ((with_reducible apply blk_set); focus (simp; done)) | ((with_reducible refine blk_off _ _ _ _ ?_ ?_); focus (simp; done)) | ((with_reducible refine blk_offc _ _ _ _ ?_ ?_); focus (first | (simp; done) | omega | (simp; omega))) | ((with_reducible refine blk_off _ _ _ _ ?_ ?_); focus (first | omega | (simp; omega))) | (with_reducible refine blk_drew _ _ ?_) | ((with_reducible refine blk_below (by assumption) ?_ ?_); focus (simp; done)) | ((with_reducible refine blk_below (by assumption) ?_ ?_); focus (first | omega | (simp; omega))))) (by rw [row_size]; kernel_rfl) (by simp [row_size]) (row_cells _ _ _ rfl) _ (row_over _ _ 12 _ _ (by simp)) ?_) | (go_at_call 25; (with_reducible refine (eqTrain_self R S T G _ hN1 hN2 hN3).mono ?_); rintro e w4 ⟨rfl, hb4⟩; have hz4 := hb4.size; (try simp at hz4); obtain ⟨hc4, hf4⟩ := bcell hb4) | go_in)
    go_ret
    exact ⟨by simp, (by repeat (first | (with_reducible assumption) | (with_reducible exact Below.refl _ _) | ((with_reducible refine bel_alloc _ ?_ ?_); focus (first | omega | (simp; done) | (simp; omega))) | ((with_reducible refine bel_row _ ?_ ?_); focus (first | omega | (simp; done) | (simp; omega))) | ((with_reducible refine bel_cell _ ?_ ?_); focus (first | omega | (simp; done) | (simp; omega))) | (with_reducible refine Below.drew ?_) | (with_reducible refine below_wideW _ ?_) | ((with_reducible refine bel_next (by assumption) ?_ ?_); focus (first | omega | (simp; done) | (simp; omega)))))⟩
  · go_enter Tryd.func8, Tryd.ntmps8
    go_wp2
    go_ret
    exact ⟨rfl, Below.refl _ _⟩
end Go.Proofs.YtckcngmbbnilnaaDoor
