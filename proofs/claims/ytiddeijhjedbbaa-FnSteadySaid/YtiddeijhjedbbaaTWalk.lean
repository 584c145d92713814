/- Contracts of the functions that walk over a train's rollers: FilmsFall, ThickestRoller, InkOn; the reference's and the program's. -/
import Derived.Test.YtiddeijhjedbbaaTEq
import Derived.Test.YtiddeijhjedbbaaFErr
set_option linter.unusedVariables false
set_option linter.unusedSimpArgs false
namespace Go.Proofs.Ytiddeijhjedbbaa
open Go.RowKit Ieee

def fallsTo (F : Nat → Nat) : Nat → Bool
  | 0 => true
  | k + 1 => fallsTo F k && (k == 0 || !(FloatKind.f32.format.order (F k) (F (k - 1)) == some .gt))
theorem fallsTo_no {F : Nat → Nat} {k n : Nat} (h1 : 1 ≤ k) (hk : k < n) (h : (FloatKind.f32.format.order (F k) (F (k - 1)) == some .gt) = true) : fallsTo F n = false := by
  induction n with
  | zero => omega
  | succ n ih =>
    by_cases e : k = n
    · subst e
      have : (k == 0) = false := by simp; omega
      simp [fallsTo, h, this]
    · simp [fallsTo, ih (by omega)]
def fallsR (r : Int) (s t : Nat) (F : Nat → Nat) : Bool := trainB r s t F && fallsTo F r.toNat
def codeV (ok : Bool) : Int := if ok then 0 else 1
def thickAt (F : Nat → Nat) : Nat → Nat
  | 0 => 0
  | k + 1 => if k = 0 then 0 else if FloatKind.f32.format.order (F k) (F (thickAt F k)) == some .gt then k else thickAt F k
theorem thickAt_lt (F : Nat → Nat) : ∀ k, 1 ≤ k → thickAt F k < k
  | 1, _ => by simp [thickAt]
  | k + 2, _ => by
    have := thickAt_lt F (k + 1) (by omega)
    unfold thickAt
    rw [if_neg (by omega)]
    split <;> omega
theorem thickAt_step {F : Nat → Nat} {k : Nat} (h : 1 ≤ k) : thickAt F (k + 1) = if FloatKind.f32.format.order (F k) (F (thickAt F k)) == some .gt then k else thickAt F k := by
  rw [thickAt, if_neg (by omega)]

set_option maxHeartbeats 1600000 in
theorem specFalls_any (r : Int) (s t : Nat) (F : Nat → Nat) (w : World) (lr : -128 ≤ r) (ur : r ≤ 127) : Calls Try.prog 18 #[.agg (train r s t F)] w fun e w' => e = .returned (.tuple #[.bool (fallsR r s t F), .int .i64 (codeV (trainB r s t F))]) ∧ Below w.heap.size w w' := by
  unfold fallsR
  cases ho : trainB r s t F
  · go_enter Try.func18, Try.ntmps18
    go_wp2_with (first | (go_at_call 52; (with_reducible refine (specOk_any r s t F _ lr ur _ ?_).mono ?_); (focus (repeat (first | (with_reducible assumption) | ((with_reducible refine blk_new _ _ _ ?_); focus (simp; done)) | ((with_reducible refine blk_old _ _ _ ?_ ?_); focus (simp; done)) | ((with_reducible refine blk_old _ _ _ ?_ ?_); focus (simp; omega)) | ((with_reducible apply blk_set); focus (simp; done)) | ((with_reducible refine blk_off _ _ _ _ ?_ ?_); focus (simp; done)) | ((with_reducible refine blk_off _ _ _ _ ?_ ?_); focus (simp; omega)) | (with_reducible refine blk_drew _ _ ?_) | ((with_reducible refine blk_below (by assumption) ?_ ?_); focus (simp; done)) | ((with_reducible refine blk_below (by assumption) ?_ ?_); focus (simp; omega))))); rintro e w' ⟨rfl, rfl⟩) | go_in)
    go_ret2
    exact ⟨rfl, (by repeat (first | (with_reducible assumption) | (with_reducible exact Below.refl _ _) | ((with_reducible refine bel_alloc _ ?_ ?_); focus (first | omega | (simp; done) | (simp; omega))) | ((with_reducible refine bel_row _ ?_ ?_); focus (first | omega | (simp; done) | (simp; omega))) | ((with_reducible refine bel_cell _ ?_ ?_); focus (first | omega | (simp; done) | (simp; omega))) | (with_reducible refine Below.drew ?_) | (with_reducible refine below_wideW _ ?_) | ((with_reducible refine bel_next (by assumption) ?_ ?_); focus (first | omega | (simp; done) | (simp; omega)))))⟩
  · obtain ⟨h2, h12, _⟩ := trainB_facts ho
    go_enter Try.func18, Try.ntmps18
    go_wp2_with (first | (go_at_call 52; (with_reducible refine (specOk_any r s t F _ lr ur _ ?_).mono ?_); (focus (repeat (first | (with_reducible assumption) | ((with_reducible refine blk_new _ _ _ ?_); focus (simp; done)) | ((with_reducible refine blk_old _ _ _ ?_ ?_); focus (simp; done)) | ((with_reducible refine blk_old _ _ _ ?_ ?_); focus (simp; omega)) | ((with_reducible apply blk_set); focus (simp; done)) | ((with_reducible refine blk_off _ _ _ _ ?_ ?_); focus (simp; done)) | ((with_reducible refine blk_off _ _ _ _ ?_ ?_); focus (simp; omega)) | (with_reducible refine blk_drew _ _ ?_) | ((with_reducible refine blk_below (by assumption) ?_ ?_); focus (simp; done)) | ((with_reducible refine blk_below (by assumption) ?_ ?_); focus (simp; omega))))); rintro e w' ⟨rfl, rfl⟩) | go_in)
    go_loopw [4] (fun i wr => ∃ k : Nat, 1 ≤ k ∧ (k : Int) ≤ r ∧ i = .int .i64 k ∧ fallsTo F k = true ∧ wr.heap[w.heap.size]? = some (.cells (train r s t F) 28 (0, 0)) ∧ Below w.heap.size w wr) (fun i _ => 12 - (intOf i).toNat)
    case atStart => exact ⟨1, by omega, by omega, rfl, rfl, (by repeat (first | (with_reducible assumption) | ((with_reducible refine blk_new _ _ _ ?_); focus (simp; done)) | ((with_reducible refine blk_old _ _ _ ?_ ?_); focus (simp; done)) | ((with_reducible refine blk_old _ _ _ ?_ ?_); focus (simp; omega)) | ((with_reducible apply blk_set); focus (simp; done)) | ((with_reducible refine blk_off _ _ _ _ ?_ ?_); focus (simp; done)) | ((with_reducible refine blk_off _ _ _ _ ?_ ?_); focus (simp; omega)) | (with_reducible refine blk_drew _ _ ?_) | ((with_reducible refine blk_below (by assumption) ?_ ?_); focus (simp; done)) | ((with_reducible refine blk_below (by assumption) ?_ ?_); focus (simp; omega)))), (by repeat (first | (with_reducible assumption) | (with_reducible exact Below.refl _ _) | ((with_reducible refine bel_alloc _ ?_ ?_); focus (first | omega | (simp; done) | (simp; omega))) | ((with_reducible refine bel_row _ ?_ ?_); focus (first | omega | (simp; done) | (simp; omega))) | ((with_reducible refine bel_cell _ ?_ ?_); focus (first | omega | (simp; done) | (simp; omega))) | (with_reducible refine Below.drew ?_) | (with_reducible refine below_wideW _ ?_) | ((with_reducible refine bel_next (by assumption) ?_ ?_); focus (first | omega | (simp; done) | (simp; omega)))))⟩
    case round =>
      obtain ⟨k, hk1, hk, rfl, hf, h1, hb⟩ := hrel
      have HF := Lib.hid hf
      have HB := Lib.hid hb
      clear hf hb
      try clear hb1 hc1 hf1 hz1
      have c0 : wr.cell? ⟨w.heap.size, 0, none⟩ = some (.int .i8 r) := (cell_of_row wr _ 0 _ _ _ h1).trans (row_g0 _ _ _ _)
      by_cases hlt : (k : Int) < r
      · have ca : wr.cell? ⟨w.heap.size, 3 + k, none⟩ = some (.float .f32 (F k)) := (cell_of_row wr _ (3 + k) _ _ _ h1).trans (row_k3 _ _ _ _ _ (by omega))
        have cb : wr.cell? ⟨w.heap.size, 3 + (k - 1), none⟩ = some (.float .f32 (F (k - 1))) := (cell_of_row wr _ (3 + (k - 1)) _ _ _ h1).trans (row_k3 _ _ _ _ _ (by omega))
        have H1 := Lib.hid h1
        clear h1
        cases ht : (FloatKind.f32.format.order (F k) (F (k - 1)) == some .gt)
        · go_wp2
          have s1 : IntKind.i64.wrap ((k : Int) - 1) = (k : Int) - 1 := IntWalk.i64_in _ (by omega)
          have s2 : ((k : Int) - 1).toNat = k - 1 := by omega
          have s3 : 0 ≤ (k : Int) - 1 := by omega
          have s4 : (k : Int) - 1 < 12 := by omega
          have s5 : (k : Int) < 12 := by omega
          go_quiet (fail)
          clear s1 s2 s3 s4 s5
          go_wp2
          go_roundw
          case rel => exact ⟨k + 1, by omega, by omega, by go_num, by simp [fallsTo, HF.out, ht], H1.out, bel_drewN _ HB.out⟩
          case measure => simp [intOf]; omega
        · go_wp2
          have s1 : IntKind.i64.wrap ((k : Int) - 1) = (k : Int) - 1 := IntWalk.i64_in _ (by omega)
          have s2 : ((k : Int) - 1).toNat = k - 1 := by omega
          have s3 : 0 ≤ (k : Int) - 1 := by omega
          have s4 : (k : Int) - 1 < 12 := by omega
          have s5 : (k : Int) < 12 := by omega
          go_quiet (fail)
          clear s1 s2 s3 s4 s5
          go_wp2
          go_ret2
          exact ⟨by rw [fallsTo_no hk1 (by omega) ht]; rfl, bel_drewN _ HB.out⟩
      · have hkr : r.toNat = k := by omega
        have HK := Lib.hid hkr
        clear hkr h1
        go_wp2
        go_ret2
        exact ⟨by rw [HK.out, HF.out]; rfl, HB.out⟩

set_option maxHeartbeats 1600000 in
theorem implFalls_any (r : Int) (s t : Nat) (F : Nat → Nat) (w : World) (lr : -128 ≤ r) (ur : r ≤ 127) : Calls Try.prog 17 #[.agg (train r s t F)] w fun e w' => e = .returned (.tuple #[.bool (fallsR r s t F), .int .i64 (codeV (trainB r s t F))]) ∧ Below w.heap.size w w' := by
  unfold fallsR
  cases ho : trainB r s t F
  · go_enter Try.func17, Try.ntmps17
    go_wp2_with (first | (go_at_call 49; (with_reducible refine (implOk_any r s t F _ lr ur).mono ?_); rintro e w1 ⟨rfl, hb1⟩; have hz1 := hb1.size; simp at hz1; obtain ⟨hc1, hf1⟩ := bcell hb1) | ((with_reducible refine at_load 28 ?_); refine wpList_load_part rfl 28 _ rfl _ 0 15 rfl _ _ _ _ (by repeat (first | (with_reducible assumption) | ((with_reducible refine blk_new _ _ _ ?_); focus (simp; done)) | ((with_reducible refine blk_old _ _ _ ?_ ?_); focus (simp; done)) | ((with_reducible refine blk_old _ _ _ ?_ ?_); focus (simp; omega)) | ((with_reducible apply blk_set); focus (simp; done)) | ((with_reducible refine blk_off _ _ _ _ ?_ ?_); focus (simp; done)) | ((with_reducible refine blk_off _ _ _ _ ?_ ?_); focus (simp; omega)) | (with_reducible refine blk_drew _ _ ?_) | ((with_reducible refine blk_below (by assumption) ?_ ?_); focus (simp; done)) | ((with_reducible refine blk_below (by assumption) ?_ ?_); focus (simp; omega)))) Try.underlying28 rfl (by kernel_rfl) (by simp [row_size]) _ (row_all [_, _, _] 12 _) ?_) | go_in)
    go_ret2
    exact ⟨rfl, (by repeat (first | (with_reducible assumption) | (with_reducible exact Below.refl _ _) | ((with_reducible refine bel_alloc _ ?_ ?_); focus (first | omega | (simp; done) | (simp; omega))) | ((with_reducible refine bel_row _ ?_ ?_); focus (first | omega | (simp; done) | (simp; omega))) | ((with_reducible refine bel_cell _ ?_ ?_); focus (first | omega | (simp; done) | (simp; omega))) | (with_reducible refine Below.drew ?_) | (with_reducible refine below_wideW _ ?_) | ((with_reducible refine bel_next (by assumption) ?_ ?_); focus (first | omega | (simp; done) | (simp; omega)))))⟩
  · obtain ⟨h2, h12, _⟩ := trainB_facts ho
    go_enter Try.func17, Try.ntmps17
    go_wp2_with (first | (go_at_call 49; (with_reducible refine (implOk_any r s t F _ lr ur).mono ?_); rintro e w1 ⟨rfl, hb1⟩; have hz1 := hb1.size; simp at hz1; obtain ⟨hc1, hf1⟩ := bcell hb1) | ((with_reducible refine at_load 28 ?_); refine wpList_load_part rfl 28 _ rfl _ 0 15 rfl _ _ _ _ (by repeat (first | (with_reducible assumption) | ((with_reducible refine blk_new _ _ _ ?_); focus (simp; done)) | ((with_reducible refine blk_old _ _ _ ?_ ?_); focus (simp; done)) | ((with_reducible refine blk_old _ _ _ ?_ ?_); focus (simp; omega)) | ((with_reducible apply blk_set); focus (simp; done)) | ((with_reducible refine blk_off _ _ _ _ ?_ ?_); focus (simp; done)) | ((with_reducible refine blk_off _ _ _ _ ?_ ?_); focus (simp; omega)) | (with_reducible refine blk_drew _ _ ?_) | ((with_reducible refine blk_below (by assumption) ?_ ?_); focus (simp; done)) | ((with_reducible refine blk_below (by assumption) ?_ ?_); focus (simp; omega)))) Try.underlying28 rfl (by kernel_rfl) (by simp [row_size]) _ (row_all [_, _, _] 12 _) ?_) | go_in)
    go_loopw [4] (fun i wr => ∃ k : Nat, 1 ≤ k ∧ (k : Int) ≤ r ∧ i = .int .i64 k ∧ fallsTo F k = true ∧ wr.heap[w.heap.size]? = some (.cells (train r s t F) 28 (0, 0)) ∧ Below w.heap.size w wr) (fun i _ => 12 - (intOf i).toNat)
    case atStart => exact ⟨1, by omega, by omega, rfl, rfl, (by repeat (first | (with_reducible assumption) | ((with_reducible refine blk_new _ _ _ ?_); focus (simp; done)) | ((with_reducible refine blk_old _ _ _ ?_ ?_); focus (simp; done)) | ((with_reducible refine blk_old _ _ _ ?_ ?_); focus (simp; omega)) | ((with_reducible apply blk_set); focus (simp; done)) | ((with_reducible refine blk_off _ _ _ _ ?_ ?_); focus (simp; done)) | ((with_reducible refine blk_off _ _ _ _ ?_ ?_); focus (simp; omega)) | (with_reducible refine blk_drew _ _ ?_) | ((with_reducible refine blk_below (by assumption) ?_ ?_); focus (simp; done)) | ((with_reducible refine blk_below (by assumption) ?_ ?_); focus (simp; omega)))), (by repeat (first | (with_reducible assumption) | (with_reducible exact Below.refl _ _) | ((with_reducible refine bel_alloc _ ?_ ?_); focus (first | omega | (simp; done) | (simp; omega))) | ((with_reducible refine bel_row _ ?_ ?_); focus (first | omega | (simp; done) | (simp; omega))) | ((with_reducible refine bel_cell _ ?_ ?_); focus (first | omega | (simp; done) | (simp; omega))) | (with_reducible refine Below.drew ?_) | (with_reducible refine below_wideW _ ?_) | ((with_reducible refine bel_next (by assumption) ?_ ?_); focus (first | omega | (simp; done) | (simp; omega)))))⟩
    case round =>
      obtain ⟨k, hk1, hk, rfl, hf, h1, hb⟩ := hrel
      have HF := Lib.hid hf
      have HB := Lib.hid hb
      clear hf hb
      try clear hb1 hc1 hf1 hz1
      have c0 : wr.cell? ⟨w.heap.size, 0, none⟩ = some (.int .i8 r) := (cell_of_row wr _ 0 _ _ _ h1).trans (row_g0 _ _ _ _)
      by_cases hlt : (k : Int) < r
      · have ca : wr.cell? ⟨w.heap.size, 3 + k, none⟩ = some (.float .f32 (F k)) := (cell_of_row wr _ (3 + k) _ _ _ h1).trans (row_k3 _ _ _ _ _ (by omega))
        have cb : wr.cell? ⟨w.heap.size, 3 + (k - 1), none⟩ = some (.float .f32 (F (k - 1))) := (cell_of_row wr _ (3 + (k - 1)) _ _ _ h1).trans (row_k3 _ _ _ _ _ (by omega))
        have H1 := Lib.hid h1
        clear h1
        cases ht : (FloatKind.f32.format.order (F k) (F (k - 1)) == some .gt)
        · go_wp2
          have s1 : IntKind.i64.wrap ((k : Int) - 1) = (k : Int) - 1 := IntWalk.i64_in _ (by omega)
          have s2 : ((k : Int) - 1).toNat = k - 1 := by omega
          have s3 : 0 ≤ (k : Int) - 1 := by omega
          have s4 : (k : Int) - 1 < 12 := by omega
          have s5 : (k : Int) < 12 := by omega
          go_quiet (fail)
          clear s1 s2 s3 s4 s5
          go_wp2
          go_roundw
          case rel => exact ⟨k + 1, by omega, by omega, by go_num, by simp [fallsTo, HF.out, ht], H1.out, bel_drewN _ HB.out⟩
          case measure => simp [intOf]; omega
        · go_wp2
          have s1 : IntKind.i64.wrap ((k : Int) - 1) = (k : Int) - 1 := IntWalk.i64_in _ (by omega)
          have s2 : ((k : Int) - 1).toNat = k - 1 := by omega
          have s3 : 0 ≤ (k : Int) - 1 := by omega
          have s4 : (k : Int) - 1 < 12 := by omega
          have s5 : (k : Int) < 12 := by omega
          go_quiet (fail)
          clear s1 s2 s3 s4 s5
          go_wp2
          go_ret2
          exact ⟨by rw [fallsTo_no hk1 (by omega) ht]; rfl, bel_drewN _ HB.out⟩
      · have hkr : r.toNat = k := by omega
        have HK := Lib.hid hkr
        clear hkr h1
        go_wp2
        go_ret2
        exact ⟨by rw [HK.out, HF.out]; rfl, HB.out⟩

def thickR (r : Int) (s t : Nat) (F : Nat → Nat) : Nat := if trainB r s t F then thickAt F r.toNat else 0
def thickF (r : Int) (s t : Nat) (F : Nat → Nat) : Nat := if trainB r s t F then F (thickAt F r.toNat) else 0

theorem thick_keep {F : Nat → Nat} {k a : Nat} (ha : a = thickAt F k) (h : (FloatKind.f32.format.order (F k) (F a) == some .gt) = false) : thickAt F (k + 1) = a := by
  subst ha
  rw [thickAt, h]
  by_cases hk : k = 0
  · subst hk; rfl
  · rw [if_neg hk]; simp
theorem thick_turn {F : Nat → Nat} {k a : Nat} (ha : a = thickAt F k) (h0 : FloatKind.f32.format.order (F 0) (F 0) = some .eq) (h : (FloatKind.f32.format.order (F k) (F a) == some .gt) = true) : thickAt F (k + 1) = k := by
  subst ha
  by_cases hk : k = 0
  · subst hk; rfl
  · rw [thickAt, h, if_neg hk]; simp

set_option maxHeartbeats 1600000 in
theorem implThick_any (r : Int) (s t : Nat) (F : Nat → Nat) (w : World) (lr : -128 ≤ r) (ur : r ≤ 127) : Calls Try.prog 16 #[.agg (train r s t F)] w fun e w' => e = .returned (.tuple #[.int .i64 (thickR r s t F), .float .f32 (thickF r s t F), .int .i64 (codeV (trainB r s t F))]) ∧ Below w.heap.size w w' := by
  unfold thickR thickF
  cases ho : trainB r s t F
  · go_enter Try.func16, Try.ntmps16
    go_wp2_with (first | (go_at_call 49; (with_reducible refine (implOk_any r s t F _ lr ur).mono ?_); rintro e w1 ⟨rfl, hb1⟩; have hz1 := hb1.size; simp at hz1; obtain ⟨hc1, hf1⟩ := bcell hb1) | ((with_reducible refine at_load 28 ?_); refine wpList_load_part rfl 28 _ rfl _ 0 15 rfl _ _ _ _ (by repeat (first | (with_reducible assumption) | ((with_reducible refine blk_new _ _ _ ?_); focus (simp; done)) | ((with_reducible refine blk_old _ _ _ ?_ ?_); focus (simp; done)) | ((with_reducible refine blk_old _ _ _ ?_ ?_); focus (simp; omega)) | ((with_reducible apply blk_set); focus (simp; done)) | ((with_reducible refine blk_off _ _ _ _ ?_ ?_); focus (simp; done)) | ((with_reducible refine blk_off _ _ _ _ ?_ ?_); focus (simp; omega)) | (with_reducible refine blk_drew _ _ ?_) | ((with_reducible refine blk_below (by assumption) ?_ ?_); focus (simp; done)) | ((with_reducible refine blk_below (by assumption) ?_ ?_); focus (simp; omega)))) Try.underlying28 rfl (by kernel_rfl) (by simp [row_size]) _ (row_all [_, _, _] 12 _) ?_) | go_in)
    go_ret3
    exact ⟨rfl, (by repeat (first | (with_reducible assumption) | (with_reducible exact Below.refl _ _) | ((with_reducible refine bel_alloc _ ?_ ?_); focus (first | omega | (simp; done) | (simp; omega))) | ((with_reducible refine bel_row _ ?_ ?_); focus (first | omega | (simp; done) | (simp; omega))) | ((with_reducible refine bel_cell _ ?_ ?_); focus (first | omega | (simp; done) | (simp; omega))) | (with_reducible refine Below.drew ?_) | (with_reducible refine below_wideW _ ?_) | ((with_reducible refine bel_next (by assumption) ?_ ?_); focus (first | omega | (simp; done) | (simp; omega)))))⟩
  · obtain ⟨h2, h12, _, _, hfl, _⟩ := trainB_facts ho
    have self0 : FloatKind.f32.format.order (F 0) (F 0) = some .eq := order_self .f32 (fin_nan (film_fin (hfl 0 (by omega) (by omega))))
    have S0 := Lib.hid self0
    clear self0 hfl
    go_enter Try.func16, Try.ntmps16
    go_wp2_with (first | (go_at_call 49; (with_reducible refine (implOk_any r s t F _ lr ur).mono ?_); rintro e w1 ⟨rfl, hb1⟩; have hz1 := hb1.size; simp at hz1; obtain ⟨hc1, hf1⟩ := bcell hb1) | ((with_reducible refine at_load 28 ?_); refine wpList_load_part rfl 28 _ rfl _ 0 15 rfl _ _ _ _ (by repeat (first | (with_reducible assumption) | ((with_reducible refine blk_new _ _ _ ?_); focus (simp; done)) | ((with_reducible refine blk_old _ _ _ ?_ ?_); focus (simp; done)) | ((with_reducible refine blk_old _ _ _ ?_ ?_); focus (simp; omega)) | ((with_reducible apply blk_set); focus (simp; done)) | ((with_reducible refine blk_off _ _ _ _ ?_ ?_); focus (simp; done)) | ((with_reducible refine blk_off _ _ _ _ ?_ ?_); focus (simp; omega)) | (with_reducible refine blk_drew _ _ ?_) | ((with_reducible refine blk_below (by assumption) ?_ ?_); focus (simp; done)) | ((with_reducible refine blk_below (by assumption) ?_ ?_); focus (simp; omega)))) Try.underlying28 rfl (by kernel_rfl) (by simp [row_size]) _ (row_all [_, _, _] 12 _) ?_) | go_in)
    go_loopw [5, 13] (fun v i wr => ∃ k a : Nat, 0 ≤ k ∧ (k : Int) ≤ r ∧ i = .int .i64 k ∧ v = .int .i64 a ∧ a = thickAt F k ∧ a < 12 ∧ wr.heap[w.heap.size]? = some (.cells (train r s t F) 28 (0, 0)) ∧ Below w.heap.size w wr) (fun _ i _ => 12 - (intOf i).toNat)
    case atStart => exact ⟨0, 0, by omega, by omega, rfl, rfl, rfl, by omega, (by repeat (first | (with_reducible assumption) | ((with_reducible refine blk_new _ _ _ ?_); focus (simp; done)) | ((with_reducible refine blk_old _ _ _ ?_ ?_); focus (simp; done)) | ((with_reducible refine blk_old _ _ _ ?_ ?_); focus (simp; omega)) | ((with_reducible apply blk_set); focus (simp; done)) | ((with_reducible refine blk_off _ _ _ _ ?_ ?_); focus (simp; done)) | ((with_reducible refine blk_off _ _ _ _ ?_ ?_); focus (simp; omega)) | (with_reducible refine blk_drew _ _ ?_) | ((with_reducible refine blk_below (by assumption) ?_ ?_); focus (simp; done)) | ((with_reducible refine blk_below (by assumption) ?_ ?_); focus (simp; omega)))), (by repeat (first | (with_reducible assumption) | (with_reducible exact Below.refl _ _) | ((with_reducible refine bel_alloc _ ?_ ?_); focus (first | omega | (simp; done) | (simp; omega))) | ((with_reducible refine bel_row _ ?_ ?_); focus (first | omega | (simp; done) | (simp; omega))) | ((with_reducible refine bel_cell _ ?_ ?_); focus (first | omega | (simp; done) | (simp; omega))) | (with_reducible refine Below.drew ?_) | (with_reducible refine below_wideW _ ?_) | ((with_reducible refine bel_next (by assumption) ?_ ?_); focus (first | omega | (simp; done) | (simp; omega)))))⟩
    case round =>
      obtain ⟨k, a, hk1, hk, rfl, rfl, ha, ha12, h1, hb⟩ := hrel
      have HA := Lib.hid ha
      have HB := Lib.hid hb
      clear ha hb
      try clear hb1 hc1 hf1 hz1
      have c0 : wr.cell? ⟨w.heap.size, 0, none⟩ = some (.int .i8 r) := (cell_of_row wr _ 0 _ _ _ h1).trans (row_g0 _ _ _ _)
      have cb : wr.cell? ⟨w.heap.size, 3 + a, none⟩ = some (.float .f32 (F a)) := (cell_of_row wr _ (3 + a) _ _ _ h1).trans (row_k3 _ _ _ _ _ (by omega))
      by_cases hlt : (k : Int) < r
      · have ca : wr.cell? ⟨w.heap.size, 3 + k, none⟩ = some (.float .f32 (F k)) := (cell_of_row wr _ (3 + k) _ _ _ h1).trans (row_k3 _ _ _ _ _ (by omega))
        have H1 := Lib.hid h1
        clear h1
        have k12 : k < 12 := by omega
        cases ht : (FloatKind.f32.format.order (F k) (F a) == some .gt)
        · go_wp2
          go_quiet (fail)
          go_wp2
          go_roundw
          case rel => exact ⟨k + 1, a, by omega, by omega, by go_num, rfl, by rw [thick_keep HA.out ht], ha12, H1.out, bel_drewN _ HB.out⟩
          case measure => simp [intOf]; omega
        · go_wp2
          go_quiet (fail)
          go_wp2
          go_roundw
          case rel => exact ⟨k + 1, k, by omega, by omega, by go_num, by go_num, by rw [thick_turn HA.out S0.out ht], k12, H1.out, bel_drewN _ HB.out⟩
          case measure => simp [intOf]; omega
      · have hkr : r.toNat = k := by omega
        have HK := Lib.hid hkr
        clear hkr h1
        go_wp2
        try (go_quiet (fail); go_wp2)
        go_ret3
        exact ⟨by rw [HK.out, ← HA.out]; rfl, by first | exact HB.out | exact bel_drewN _ HB.out⟩
end Go.Proofs.Ytiddeijhjedbbaa
