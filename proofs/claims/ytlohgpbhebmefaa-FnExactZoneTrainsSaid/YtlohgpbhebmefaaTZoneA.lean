/- Lists of eight numbers: copied, compared; what ZoneTrains gives. -/
import Derived.Test.YtlohgpbhebmefaaTPrint
import Derived.Test.YtlohgpbhebmefaaHeld2
import Derived.Test.YtlohgpbhebmefaaTTimes
set_option linter.unusedVariables false
set_option linter.unusedSimpArgs false
namespace Go.Proofs.Ytlohgpbhebmefaa
open Go.RowKit Ieee
set_option maxHeartbeats 800000 in
theorem eqA8_self (F : Nat → Nat) (w : World) (hn : ∀ i, i < 8 → ¬ Flt.NaN single (F i)) : Calls Try.prog 40 #[.agg (row [] 8 F), .agg (row [] 8 F)] w fun e w' => e = .returned (.bool true) ∧ Below w.heap.size w w' := by
  have HN := Lib.hid hn
  clear hn
  go_enter Try.func40, Try.ntmps40
  go_wp2
  go_loopw [5] (fun i wr => ∃ k : Nat, k ≤ 8 ∧ i = .int .i64 k ∧ wr.heap[w.heap.size]? = some (.cells (row [] 8 F) 64 (0, 0)) ∧ wr.heap[w.heap.size + 1]? = some (.cells (row [] 8 F) 64 (0, 0)) ∧ Below w.heap.size w wr) (fun i _ => 8 - (intOf i).toNat)
  case atStart => exact ⟨0, by omega, rfl, (by repeat (first | (with_reducible assumption) | ((with_reducible refine blk_new _ _ _ ?_); focus (simp; done)) | ((with_reducible refine blk_old _ _ _ ?_ ?_); focus (simp; done)) | ((with_reducible refine blk_old _ _ _ ?_ ?_); focus (simp; omega)) | ((with_reducible apply blk_set); focus (simp; done)) | ((with_reducible refine blk_off _ _ _ _ ?_ ?_); focus (simp; done)) | ((with_reducible refine blk_off _ _ _ _ ?_ ?_); focus (simp; omega)) | (with_reducible refine blk_drew _ _ ?_) | ((with_reducible refine blk_below (by assumption) ?_ ?_); focus (simp; done)) | ((with_reducible refine blk_below (by assumption) ?_ ?_); focus (simp; omega)))), (by repeat (first | (with_reducible assumption) | ((with_reducible refine blk_new _ _ _ ?_); focus (simp; done)) | ((with_reducible refine blk_old _ _ _ ?_ ?_); focus (simp; done)) | ((with_reducible refine blk_old _ _ _ ?_ ?_); focus (simp; omega)) | ((with_reducible apply blk_set); focus (simp; done)) | ((with_reducible refine blk_off _ _ _ _ ?_ ?_); focus (simp; done)) | ((with_reducible refine blk_off _ _ _ _ ?_ ?_); focus (simp; omega)) | (with_reducible refine blk_drew _ _ ?_) | ((with_reducible refine blk_below (by assumption) ?_ ?_); focus (simp; done)) | ((with_reducible refine blk_below (by assumption) ?_ ?_); focus (simp; omega)))), (by repeat (first | (with_reducible assumption) | (with_reducible exact Below.refl _ _) | ((with_reducible refine bel_alloc _ ?_ ?_); focus (first | omega | (simp; done) | (simp; omega))) | ((with_reducible refine bel_row _ ?_ ?_); focus (first | omega | (simp; done) | (simp; omega))) | ((with_reducible refine bel_cell _ ?_ ?_); focus (first | omega | (simp; done) | (simp; omega))) | (with_reducible refine Below.drew ?_) | (with_reducible refine below_wideW _ ?_) | ((with_reducible refine bel_next (by assumption) ?_ ?_); focus (first | omega | (simp; done) | (simp; omega)))))⟩
  case round =>
    obtain ⟨k, hk, rfl, h1, h2, hb⟩ := hrel
    by_cases hlt : k < 8
    · have hnk := HN.out k hlt
      have hc := fun w => run_wide (P := Try.prog) 23 53 (F k) w (by kernel_rfl) (by kernel_rfl) hnk
      have hw := Flt.widen_nan hnk
      have c1 : wr.cell? ⟨w.heap.size, k, none⟩ = some (.float .f32 (F k)) := (cell_of_row wr _ k _ _ _ h1).trans (row_k0 _ _ hlt)
      have c2 : wr.cell? ⟨w.heap.size + 1, k, none⟩ = some (.float .f32 (F k)) := (cell_of_row wr _ k _ _ _ h2).trans (row_k0 _ _ hlt)
      have H1 := Lib.hid h1
      have H2 := Lib.hid h2
      clear hnk h1 h2
      go_wp2
      go_quiet ((go_at_call 29; exact quiet_same (sameFloat_self _ _ hw)))
      go_wp2
      go_roundw
      case rel => exact ⟨k + 1, by omega, by go_num, H1.out, H2.out, bel_drewN _ hb⟩
      case measure => simp [intOf]; omega
    · obtain rfl : k = 8 := by omega
      clear h1 h2
      go_wp2
      go_ret
      exact ⟨rfl, hb⟩

set_option maxHeartbeats 800000 in
theorem toZones_any (F : Nat → Nat) (w : World) : Calls Try.prog 38 #[.agg (row [] 8 F)] w fun e w' => e = .returned (.agg (row [] 8 F)) ∧ Below w.heap.size w w' := by
  go_enter Try.func38, Try.ntmps38
  go_wp2
  go_loopw [4] (fun i wr => ∃ k : Nat, k ≤ 8 ∧ i = .int .i64 k ∧ wr = ((w.alloc (.cells (row [] 8 F) 64)).alloc (.cells (row [] 8 (fun _ => 0)) 67)).alloc (.cells (row [] 8 (mix F (fun _ => 0) k)) 67)) (fun i _ => 8 - (intOf i).toNat)
  case atStart => exact ⟨0, by omega, rfl, rfl⟩
  case round =>
    obtain ⟨k, hk, rfl, rfl⟩ := hrel
    by_cases hlt : k < 8
    · have hg : (row [] 8 F)[k]? = some (.float .f32 (F k)) := by simpa using row_get [] 8 F hlt
      have hg2 : (row [] 8 (mix F (fun _ => 0) k))[k]? = some (.float .f32 (mix F (fun _ => 0) k k)) := by simpa using row_get [] 8 (mix F (fun _ => 0) k) hlt
      have hs : (row [] 8 (mix F (fun _ => 0) k)).setIfInBounds k (.float .f32 (F k)) = row [] 8 (mix F (fun _ => 0) (k + 1)) := by
        have := row_set [] 8 (mix F (fun _ => 0) k) (i := k) (v := F k) hlt
        rw [mix_step] at this
        simpa using this
      go_wp2
      go_roundw
      case rel => exact ⟨k + 1, by omega, by go_num, rfl⟩
      case measure => simp [intOf]; omega
    · obtain rfl : k = 8 := by omega
      rw [mix_end] at *
      go_wp2_with (first | ((with_reducible refine at_load 67 ?_); refine wpList_load_part rfl 67 _ rfl _ 0 8 rfl _ _ _ _ (by repeat (first | (with_reducible assumption) | ((with_reducible refine blk_new _ _ _ ?_); focus (simp; done)) | ((with_reducible refine blk_old _ _ _ ?_ ?_); focus (simp; done)) | ((with_reducible refine blk_old _ _ _ ?_ ?_); focus (simp; omega)) | ((with_reducible apply blk_set); focus (simp; done)) | ((with_reducible refine blk_off _ _ _ _ ?_ ?_); focus (simp; done)) | ((with_reducible refine blk_off _ _ _ _ ?_ ?_); focus (simp; omega)) | (with_reducible refine blk_drew _ _ ?_) | ((with_reducible refine blk_below (by assumption) ?_ ?_); focus (simp; done)) | ((with_reducible refine blk_below (by assumption) ?_ ?_); focus (simp; omega)))) Try.underlying67 rfl (by kernel_rfl) (by simp [row_size]) _ (row_all [] 8 _) ?_) | ((with_reducible refine at_store 67 ?_); refine wpList_store_part rfl 67 _ _ rfl _ 0 _ rfl rfl _ _ (by repeat (first | (with_reducible assumption) | ((with_reducible refine blk_new _ _ _ ?_); focus (simp; done)) | ((with_reducible refine blk_old _ _ _ ?_ ?_); focus (simp; done)) | ((with_reducible refine blk_old _ _ _ ?_ ?_); focus (simp; omega)) | ((with_reducible apply blk_set); focus (simp; done)) | ((with_reducible refine blk_off _ _ _ _ ?_ ?_); focus (simp; done)) | ((with_reducible refine blk_off _ _ _ _ ?_ ?_); focus (simp; omega)) | (with_reducible refine blk_drew _ _ ?_) | ((with_reducible refine blk_below (by assumption) ?_ ?_); focus (simp; done)) | ((with_reducible refine blk_below (by assumption) ?_ ?_); focus (simp; omega)))) (by rw [row_size]; kernel_rfl) (by simp [row_size]) (row_cells _ _ _ rfl) _ (row_splice [] 8 _ _) ?_))
      refine bodyPost_ret (v := .agg (row [] 8 F)) ?_ ?_ ?_
      · refine results_cell_row Try.results38 _ _ _ 67 (row [] 8 F) (0, 0) _ rfl ?_ Try.underlying67 rfl (by rw [row_size]; kernel_rfl)
        exact (by repeat (first | (with_reducible assumption) | ((with_reducible refine blk_new _ _ _ ?_); focus (simp; done)) | ((with_reducible refine blk_old _ _ _ ?_ ?_); focus (simp; done)) | ((with_reducible refine blk_old _ _ _ ?_ ?_); focus (simp; omega)) | ((with_reducible apply blk_set); focus (simp; done)) | ((with_reducible refine blk_off _ _ _ _ ?_ ?_); focus (simp; done)) | ((with_reducible refine blk_off _ _ _ _ ?_ ?_); focus (simp; omega)) | (with_reducible refine blk_drew _ _ ?_) | ((with_reducible refine blk_below (by assumption) ?_ ?_); focus (simp; done)) | ((with_reducible refine blk_below (by assumption) ?_ ?_); focus (simp; omega))))
      · rfl
      · exact ⟨rfl, (by repeat (first | (with_reducible assumption) | (with_reducible exact Below.refl _ _) | ((with_reducible refine bel_alloc _ ?_ ?_); focus (first | omega | (simp; done) | (simp; omega))) | ((with_reducible refine bel_row _ ?_ ?_); focus (first | omega | (simp; done) | (simp; omega))) | ((with_reducible refine bel_cell _ ?_ ?_); focus (first | omega | (simp; done) | (simp; omega))) | (with_reducible refine Below.drew ?_) | (with_reducible refine below_wideW _ ?_) | ((with_reducible refine bel_next (by assumption) ?_ ?_); focus (first | omega | (simp; done) | (simp; omega)))))⟩


theorem put_mix8 {w : World} {g : Nat} {n : Nat} {F G : Nat → Nat} {t : TypeId} {k v : Nat} (hk : k < n) (hv : v = G k) (h : w.heap[g]? = some (.cells (row [] n (mix G F k)) t (0, 0))) :
    (w.setCell ⟨g, k, none⟩ (.float .f32 v)).heap[g]? = some (.cells (row [] n (mix G F (k + 1))) t (0, 0)) := by
  subst hv
  have := put_mix (pre := []) hk h
  simpa using this
/-- Are the first n parts and films of the zones fit? -/
def zoneB (z fd : Nat → Nat) : Nat → Bool
  | 0 => true
  | n + 1 => zoneB z fd n && (partB (z n) && filmB (fd n))
theorem zone_no {z fd : Nat → Nat} {k : Nat} (hk : k < 8) (h : (partB (z k) && filmB (fd k)) = false) : zoneB z fd 8 = false := by
  have key : ∀ d, zoneB z fd (k + 1 + d) = false := by
    intro d
    induction d with
    | zero => show (zoneB z fd k && _) = false; rw [h, Bool.and_false]
    | succ d ih => show (zoneB z fd (k + 1 + d) && _) = false; rw [ih, Bool.false_and]
  have := key (7 - k)
  rwa [show k + 1 + (7 - k) = 8 by omega] at this
theorem zone_at {z fd : Nat → Nat} : ∀ {n}, zoneB z fd n = true → ∀ k, k < n → partB (z k) = true ∧ filmB (fd k) = true
  | 0, _, k, hk => by omega
  | n + 1, h, k, hk => by
    simp only [zoneB, Bool.and_eq_true] at h
    by_cases e : k = n
    · subst e; exact h.2
    · exact zone_at h.1 k (by omega)
/-- What is printed last in zone i. -/
def lastP (r : Int) (s t : Nat) (F : Nat → Nat) (z fd : Nat → Nat) (q : Int) : Nat → Nat := fun i => if 0 < q then prF r s t (fd i) (z i) F (q.toNat - 1) else 0
/-- From zone i on: do all turns come to their end, and with what code? -/
def zRun (r : Int) (s t : Nat) (F : Nat → Nat) (z fd : Nat → Nat) (q : Int) : Nat → Nat → Bool × Int
  | 0, _ => (true, 0)
  | f + 1, i => if tsB r s t F (fd i) (z i) q then zRun r s t F z fd q f (i + 1) else (false, tsC r s t F (fd i) (z i) q)
def zAll (r : Int) (s t : Nat) (F : Nat → Nat) (z fd : Nat → Nat) (q : Int) : Bool × Int := if trainB r s t F then (if zoneB z fd 8 then zRun r s t F z fd q 8 0 else (false, 2)) else (false, 1)
theorem zRun_range {r : Int} {s t : Nat} {F z fd : Nat → Nat} {q : Int} (ho : trainB r s t F = true) (hz : zoneB z fd 8 = true) (hr : rangeT q = false) : zRun r s t F z fd q 8 0 = (false, 2) := by
  obtain ⟨h1, h2⟩ := zone_at hz 0 (by omega)
  have ha : askB r s t F (fd 0) (z 0) = true := by unfold askB; rw [ho, h1, h2]; rfl
  have h3 : tsB r s t F (fd 0) (z 0) q = false := by unfold tsB; rw [hr]; simp
  have h4 : tsC r s t F (fd 0) (z 0) q = 2 := by unfold tsC; rw [ha, hr]; rfl
  unfold zRun
  rw [h3, h4]
  simp
theorem zRun_all {r : Int} {s t : Nat} {F z fd : Nat → Nat} {q : Int} : ∀ f i, (zRun r s t F z fd q f i).1 = true → ∀ j, i ≤ j → j < i + f → tsB r s t F (fd j) (z j) q = true
  | 0, i, _, j, h1, h2 => by omega
  | f + 1, i, h, j, h1, h2 => by
    unfold zRun at h
    cases ht : tsB r s t F (fd i) (z i) q
    · rw [ht] at h; simp at h
    · rw [ht] at h
      simp only [if_true] at h
      by_cases e : j = i
      · subst e; exact ht
      · exact zRun_all f (i + 1) h j (by omega) (by omega)
theorem ts_range {r : Int} {s t : Nat} {F : Nat → Nat} {fed cover : Nat} {q : Int} (h : tsB r s t F fed cover q = true) : 0 ≤ q ∧ q ≤ 2000 := by
  unfold tsB rangeT at h
  simp only [Bool.and_eq_true, decide_eq_true_eq] at h
  exact h.1.2
theorem range_no {q : Int} (h : rangeT q = false) : q < 0 ∨ 2000 < q := by
  unfold rangeT at h
  simp only [Bool.and_eq_false_iff, decide_eq_false_iff_not] at h
  omega
theorem range_yes {q : Int} (h : rangeT q = true) : 0 ≤ q ∧ q ≤ 2000 := by
  unfold rangeT at h
  simp only [Bool.and_eq_true, decide_eq_true_eq] at h
  exact h
theorem last_num {r : Int} {s t : Nat} {F z fd : Nat → Nat} {q : Int} (h : ∀ j, j < 8 → tsB r s t F (fd j) (z j) q = true) : ∀ i, i < 8 → ¬ Flt.NaN single (lastP r s t F z fd q i) := by
  intro i hi
  unfold lastP
  split
  · have hb := h i hi
    obtain ⟨_, hN⟩ := ts_yes hb
    exact ts_num (r := r) (s := s) (t := t) (F := F) (fed := fd i) (cover := z i) (q := q) _ (by rw [hN]; omega)
  · exact (by decide : ¬ Flt.NaN single 0)
theorem mix_zero (G : Nat → Nat) (k : Nat) (h : G k = 0) : row [] 8 (mix G (fun _ => 0) (k + 1)) = row [] 8 (mix G (fun _ => 0) k) := row_congr _ _ _ (fun i _ => by
  unfold mix
  by_cases e : i = k
  · subst e; simp [h]
  · by_cases h1 : i < k
    · rw [if_pos (by omega), if_pos h1]
    · rw [if_neg (by omega), if_neg h1])
theorem mix_none (G : Nat → Nat) : row [] 8 (mix G (fun _ => 0) 0) = row [] 8 (fun _ => 0) := row_congr _ _ _ (fun i _ => by simp [mix])
end Go.Proofs.Ytlohgpbhebmefaa
