/- Contracts of DarkestCell, the reference's and the program's, and the law on it. -/
import Derived.Test.YthgodmnalojnaaaPCover
import Derived.Test.YthgodmnalojnaaaTWalk
set_option linter.unusedVariables false
set_option linter.unusedSimpArgs false
namespace Go.Proofs.Ythgodmnalojnaaa
open Go.RowKit Ieee

theorem cnt_mono (a b : Nat) {i j : Nat} (h : i ≤ j) : cntC a b i ≤ cntC a b j := by
  induction j with
  | zero => have : i = 0 := by omega
            subst this; exact Nat.le_refl _
  | succ j ih =>
    by_cases e : i = j + 1
    · subst e; exact Nat.le_refl _
    · exact Nat.le_trans (ih (by omega)) (by simp [cntC])
/-- The darkest of the first k cells. -/
def darkK (F : Nat → Nat) (a : Nat) : Nat → Nat
  | 0 => 0
  | k + 1 => if FloatKind.f32.format.order (F (cellAt a k)) (F (darkK F a k)) == some .gt then cellAt a k else darkK F a k
theorem dark_lt {a b : Nat} (F : Nat → Nat) (ha : a < 9) (hb : b < 9) : ∀ k, k ≤ a * b → darkK F a k < 64
  | 0, _ => by simp [darkK]
  | k + 1, h => by
    have h64 := (cells_all a ha b hb).2
    unfold darkK
    split
    · exact (cells_of a ha b hb k (by omega) (by omega)).1
    · exact dark_lt F ha hb k (by omega)
theorem dark_turn {F : Nat → Nat} {a k i : Nat} (hi : cellAt a k = i) (h : (FloatKind.f32.format.order (F i) (F (darkK F a k)) == some .gt) = true) : darkK F a (k + 1) = i := by
  subst hi; rw [darkK, h]; simp
theorem dark_keep {F : Nat → Nat} {a k i : Nat} (hi : cellAt a k = i) (h : (FloatKind.f32.format.order (F i) (F (darkK F a k)) == some .gt) = false) : darkK F a (k + 1) = darkK F a k := by
  subst hi; rw [darkK, h]; simp
theorem dark_1 {F : Nat → Nat} {a : Nat} (h : ¬ Flt.NaN single (F 0)) : darkK F a 1 = 0 := by
  have e : cellAt a 0 = 0 := by simp [cellAt]
  rw [darkK, e, show darkK F a 0 = 0 from rfl, order_self .f32 h]
  simp
def darkI (x y : Int) (F : Nat → Nat) : Int := if plateB x y F then ((darkK F x.toNat (x.toNat * y.toNat) : Nat) : Int) else 0
def darkF (x y : Int) (F : Nat → Nat) : Nat := if plateB x y F then F (darkK F x.toNat (x.toNat * y.toNat)) else 0
theorem darkF_num (x y : Int) (F : Nat → Nat) : ¬ Flt.NaN single (darkF x y F) := by
  unfold darkF
  split
  · rename_i h
    have hn := plateB_num h
    obtain ⟨a, b, rfl, rfl, la, ha, lb, hb, _, _⟩ := plateB_size h
    exact hn _ (dark_lt F ha hb _ (Nat.le_refl _))
  · decide
theorem specIs_q {a b i : Nat} {v : Bool} {F : Nat → Nat} {W : World} {B : Nat} (h : isC a b i = v) (ha : a < 9) (hb : b < 9) (hi : i < 64) (hB : W.heap[B]? = some (.cells (plate a b F) 30 (0, 0))) (n : Nat) :
    Calls Try.prog 51 #[.pointer (some ⟨B, 0, none⟩), .int .i64 i] (W.drewN n) fun e w'' => e = .returned (.bool v) ∧ ∃ m, w'' = W.drewN m := by
  subst h
  exact quiet_same (specIs_any ha hb hi (W.drewN n) B ((cell_of_row (W.drewN n) B 0 _ _ _ hB).trans (row_g0 _ _ _ _)) ((cell_of_row (W.drewN n) B 1 _ _ _ hB).trans (row_g1 _ _ _ _ _)))

set_option maxRecDepth 100000 in
set_option maxHeartbeats 1600000 in
theorem specDark_any (x y : Int) (F : Nat → Nat) (w : World) (lx : -128 ≤ x) (ux : x ≤ 127) (ly : -128 ≤ y) (uy : y ≤ 127) : Calls Try.prog 26 #[.agg (plate x y F)] w fun e w' => e = .returned (.tuple #[.int .i64 (darkI x y F), .float .f32 (darkF x y F), .int .i64 (codeV (plateB x y F))]) ∧ Below w.heap.size w w' := by
  unfold darkI darkF
  cases ho : plateB x y F
  · go_enter Try.func26, Try.ntmps26
    go_wp2_with (first | (go_at_call 46; (with_reducible refine (specPOk_any x y F _ lx ux ly uy _ ?_).mono ?_); (focus (repeat (first | (with_reducible assumption) | ((with_reducible refine blk_new _ _ _ ?_); focus (simp; done)) | ((with_reducible refine blk_old _ _ _ ?_ ?_); focus (simp; done)) | ((with_reducible refine blk_old _ _ _ ?_ ?_); focus (first | omega | (simp; omega))) | ((with_reducible apply blk_set); focus (simp; done)) | ((with_reducible refine blk_off _ _ _ _ ?_ ?_); focus (simp; done)) | ((with_reducible refine blk_offc _ _ _ _ ?_ ?_); focus (first | (simp; done) | omega | (simp; omega))) | ((with_reducible refine blk_off _ _ _ _ ?_ ?_); focus (first | omega | (simp; omega))) | (with_reducible refine blk_drew _ _ ?_) | ((with_reducible refine blk_below (by assumption) ?_ ?_); focus (simp; done)) | ((with_reducible refine blk_below (by assumption) ?_ ?_); focus (first | omega | (simp; omega)))))); rintro e w' ⟨rfl, rfl⟩) | go_in)
    go_ret3
    exact ⟨rfl, (by repeat (first | (with_reducible assumption) | (with_reducible exact Below.refl _ _) | ((with_reducible refine bel_alloc _ ?_ ?_); focus (first | omega | (simp; done) | (simp; omega))) | ((with_reducible refine bel_row _ ?_ ?_); focus (first | omega | (simp; done) | (simp; omega))) | ((with_reducible refine bel_cell _ ?_ ?_); focus (first | omega | (simp; done) | (simp; omega))) | (with_reducible refine Below.drew ?_) | (with_reducible refine below_wideW _ ?_) | ((with_reducible refine bel_next (by assumption) ?_ ?_); focus (first | omega | (simp; done) | (simp; omega)))))⟩
  · have hn := plateB_num ho
    obtain ⟨a, b, rfl, rfl, la, ha, lb, hb, hp, hz0⟩ := plateB_size ho
    rw [show (a : Int).toNat = a from rfl, show (b : Int).toNat = b from rfl]
    have h01 : cntC a b 1 = 1 := by
      have : isC a b 0 = true := isC_iff.2 ⟨by omega, by omega⟩
      simp [cntC, this]
    have hs : darkK F a (cntC a b 1) = 0 := by rw [h01]; exact dark_1 (hn 0 (by omega))
    obtain ⟨n, hnn⟩ : ∃ n, a * b = n := ⟨_, rfl⟩
    have hall := (cells_all a ha b hb).1
    have hdl : ∀ i, i ≤ 64 → darkK F a (cntC a b i) < 64 := fun i hi => by
      refine dark_lt F ha hb _ ?_
      rw [← hall]; exact cnt_mono a b hi
    rw [hnn] at hall ⊢
    have HS := Lib.hid hs
    have HALL := Lib.hid hall
    have HDL := Lib.hid hdl
    have HN := Lib.hid hn
    clear hp hz0 h01 hs hnn hall hdl hn
    go_enter Try.func26, Try.ntmps26
    go_wp2_with (first | (go_at_call 46; (with_reducible refine (specPOk_any a b F _ (by omega) (by omega) (by omega) (by omega) _ ?_).mono ?_); (focus (repeat (first | (with_reducible assumption) | ((with_reducible refine blk_new _ _ _ ?_); focus (simp; done)) | ((with_reducible refine blk_old _ _ _ ?_ ?_); focus (simp; done)) | ((with_reducible refine blk_old _ _ _ ?_ ?_); focus (first | omega | (simp; omega))) | ((with_reducible apply blk_set); focus (simp; done)) | ((with_reducible refine blk_off _ _ _ _ ?_ ?_); focus (simp; done)) | ((with_reducible refine blk_offc _ _ _ _ ?_ ?_); focus (first | (simp; done) | omega | (simp; omega))) | ((with_reducible refine blk_off _ _ _ _ ?_ ?_); focus (first | omega | (simp; omega))) | (with_reducible refine blk_drew _ _ ?_) | ((with_reducible refine blk_below (by assumption) ?_ ?_); focus (simp; done)) | ((with_reducible refine blk_below (by assumption) ?_ ?_); focus (first | omega | (simp; omega)))))); rintro e w' ⟨rfl, rfl⟩) | go_in)
    go_loopw [5, 6] (fun v i wr => ∃ k d : Nat, 1 ≤ k ∧ k ≤ 64 ∧ i = .int .i64 k ∧ v = .int .i64 d ∧ darkK F a (cntC a b k) = d ∧ wr.heap[w.heap.size]? = some (.cells (plate a b F) 30 (0, 0)) ∧ Below w.heap.size w wr) (fun _ i _ => 64 - (intOf i).toNat)
    case atStart => exact ⟨1, 0, by omega, by omega, rfl, rfl, HS.out, (by repeat (first | (with_reducible assumption) | ((with_reducible refine blk_new _ _ _ ?_); focus (simp; done)) | ((with_reducible refine blk_old _ _ _ ?_ ?_); focus (simp; done)) | ((with_reducible refine blk_old _ _ _ ?_ ?_); focus (first | omega | (simp; omega))) | ((with_reducible apply blk_set); focus (simp; done)) | ((with_reducible refine blk_off _ _ _ _ ?_ ?_); focus (simp; done)) | ((with_reducible refine blk_offc _ _ _ _ ?_ ?_); focus (first | (simp; done) | omega | (simp; omega))) | ((with_reducible refine blk_off _ _ _ _ ?_ ?_); focus (first | omega | (simp; omega))) | (with_reducible refine blk_drew _ _ ?_) | ((with_reducible refine blk_below (by assumption) ?_ ?_); focus (simp; done)) | ((with_reducible refine blk_below (by assumption) ?_ ?_); focus (first | omega | (simp; omega))))), (by repeat (first | (with_reducible assumption) | (with_reducible exact Below.refl _ _) | ((with_reducible refine bel_alloc _ ?_ ?_); focus (first | omega | (simp; done) | (simp; omega))) | ((with_reducible refine bel_row _ ?_ ?_); focus (first | omega | (simp; done) | (simp; omega))) | ((with_reducible refine bel_cell _ ?_ ?_); focus (first | omega | (simp; done) | (simp; omega))) | (with_reducible refine Below.drew ?_) | (with_reducible refine below_wideW _ ?_) | ((with_reducible refine bel_next (by assumption) ?_ ?_); focus (first | omega | (simp; done) | (simp; omega)))))⟩
    case round =>
      obtain ⟨k, d, k1, hk, rfl, rfl, hd, h1, h5⟩ := hrel
      have hd64 : d < 64 := by rw [← hd]; exact HDL.out k hk
      have H5 := Lib.hid h5
      have cd : wr.cell? ⟨w.heap.size, 2 + d, none⟩ = some (.float .f32 (F d)) := (cell_of_row wr _ (2 + d) _ _ _ h1).trans (row_k2 _ _ _ _ hd64)
      have d0 : (0 : Int) ≤ d := by omega
      have d9 : (d : Int) < 64 := by omega
      clear h5
      by_cases hlt : k < 64
      · have k0 : (0 : Int) ≤ k := by omega
        have k64 : (k : Int) < 64 := by omega
        have cf : wr.cell? ⟨w.heap.size, 2 + k, none⟩ = some (.float .f32 (F k)) := (cell_of_row wr _ (2 + k) _ _ _ h1).trans (row_k2 _ _ _ _ hlt)
        have H1 := Lib.hid h1
        have HD := Lib.hid hd
        clear h1 hd
        cases hr : isC a b k
        · go_wp2
          go_quiet ((go_at_call 51; with_reducible exact specIs_q hr ha hb hlt H1.out _))
          go_wp2
          go_roundw
          case rel => exact ⟨k + 1, d, by omega, by omega, by go_num, rfl, by rw [cnt_skip a b k hr]; exact HD.out, H1.out, bel_drewN _ H5.out⟩
          case measure => simp [intOf]; omega
        · obtain ⟨e1, e2⟩ := cells_at a ha b hb k hlt hr
          have E1 := Lib.hid e1
          clear e1 e2
          cases ht : (FloatKind.f32.format.order (F k) (F d) == some .gt)
          · go_wp2
            go_quiet ((go_at_call 51; with_reducible exact specIs_q hr ha hb hlt H1.out _))
            go_wp2
            go_roundw
            case rel => exact ⟨k + 1, d, by omega, by omega, by go_num, rfl, by rw [cnt_step a b k hr, dark_keep E1.out (by rw [HD.out]; exact ht)]; exact HD.out, H1.out, bel_drewN _ H5.out⟩
            case measure => simp [intOf]; omega
          · go_wp2
            go_quiet ((go_at_call 51; with_reducible exact specIs_q hr ha hb hlt H1.out _))
            go_wp2
            go_roundw
            case rel => exact ⟨k + 1, k, by omega, by omega, by go_num, by go_num, by rw [cnt_step a b k hr]; exact dark_turn E1.out (by rw [HD.out]; exact ht), H1.out, bel_drewN _ H5.out⟩
            case measure => simp [intOf]; omega
      · obtain rfl : k = 64 := by omega
        rw [HALL.out] at hd
        have HD := Lib.hid hd
        clear hd h1
        go_wp2
        try (go_quiet (fail); go_wp2)
        go_ret3
        exact ⟨by rw [HD.out]; rfl, by first | exact H5.out | exact bel_drewN _ H5.out⟩

set_option maxRecDepth 100000 in
set_option maxHeartbeats 1600000 in
theorem implDark_any (x y : Int) (F : Nat → Nat) (w : World) (lx : -128 ≤ x) (ux : x ≤ 127) (ly : -128 ≤ y) (uy : y ≤ 127) : Calls Try.prog 27 #[.agg (plate x y F)] w fun e w' => e = .returned (.tuple #[.int .i64 (darkI x y F), .float .f32 (darkF x y F), .int .i64 (codeV (plateB x y F))]) ∧ Below w.heap.size w w' := by
  unfold darkI darkF
  cases ho : plateB x y F
  · go_enter Try.func27, Try.ntmps27
    go_wp2_with (first | (go_at_call 19; (with_reducible refine (implPOk_any x y F _ lx ux ly uy).mono ?_); rintro e w1 ⟨rfl, hb1⟩; have hz1 := hb1.size; (try simp at hz1); obtain ⟨hc1, hf1⟩ := bcell hb1) | ((with_reducible refine at_load 30 ?_); refine wpList_load_part rfl 30 _ rfl _ 0 66 rfl _ _ _ _ (by repeat (first | (with_reducible assumption) | ((with_reducible refine blk_new _ _ _ ?_); focus (simp; done)) | ((with_reducible refine blk_old _ _ _ ?_ ?_); focus (simp; done)) | ((with_reducible refine blk_old _ _ _ ?_ ?_); focus (first | omega | (simp; omega))) | ((with_reducible apply blk_set); focus (simp; done)) | ((with_reducible refine blk_off _ _ _ _ ?_ ?_); focus (simp; done)) | ((with_reducible refine blk_offc _ _ _ _ ?_ ?_); focus (first | (simp; done) | omega | (simp; omega))) | ((with_reducible refine blk_off _ _ _ _ ?_ ?_); focus (first | omega | (simp; omega))) | (with_reducible refine blk_drew _ _ ?_) | ((with_reducible refine blk_below (by assumption) ?_ ?_); focus (simp; done)) | ((with_reducible refine blk_below (by assumption) ?_ ?_); focus (first | omega | (simp; omega))))) Try.underlying30 rfl (by kernel_rfl) (by simp [row_size]) _ (row_all [_, _] 64 _) ?_) | go_in)
    go_ret3
    exact ⟨rfl, (by repeat (first | (with_reducible assumption) | (with_reducible exact Below.refl _ _) | ((with_reducible refine bel_alloc _ ?_ ?_); focus (first | omega | (simp; done) | (simp; omega))) | ((with_reducible refine bel_row _ ?_ ?_); focus (first | omega | (simp; done) | (simp; omega))) | ((with_reducible refine bel_cell _ ?_ ?_); focus (first | omega | (simp; done) | (simp; omega))) | (with_reducible refine Below.drew ?_) | (with_reducible refine below_wideW _ ?_) | ((with_reducible refine bel_next (by assumption) ?_ ?_); focus (first | omega | (simp; done) | (simp; omega)))))⟩
  · obtain ⟨a, b, rfl, rfl, la, ha, lb, hb, hp, hz0⟩ := plateB_size ho
    rw [show (a : Int).toNat = a from rfl, show (b : Int).toNat = b from rfl]
    have h64 := (cells_all a ha b hb).2
    have hdl : ∀ k, k ≤ a * b → darkK F a k < 64 := dark_lt F ha hb
    have hcl : ∀ k, k < a * b → cellAt a k < 64 := fun k hk => (cells_of a ha b hb k (by omega) hk).1
    obtain ⟨n, hn⟩ : ∃ n, a * b = n := ⟨_, rfl⟩
    rw [hn] at h64 hdl hcl ⊢
    have HN := Lib.hid hn
    have HDL := Lib.hid hdl
    have HCL := Lib.hid hcl
    clear hp hz0 hn hdl hcl
    go_enter Try.func27, Try.ntmps27
    go_wp2_with (first | (go_at_call 19; (with_reducible refine (implPOk_any a b F _ (by omega) (by omega) (by omega) (by omega)).mono ?_); rintro e w1 ⟨rfl, hb1⟩; have hz1 := hb1.size; (try simp at hz1); obtain ⟨hc1, hf1⟩ := bcell hb1) | ((with_reducible refine at_load 30 ?_); refine wpList_load_part rfl 30 _ rfl _ 0 66 rfl _ _ _ _ (by repeat (first | (with_reducible assumption) | ((with_reducible refine blk_new _ _ _ ?_); focus (simp; done)) | ((with_reducible refine blk_old _ _ _ ?_ ?_); focus (simp; done)) | ((with_reducible refine blk_old _ _ _ ?_ ?_); focus (first | omega | (simp; omega))) | ((with_reducible apply blk_set); focus (simp; done)) | ((with_reducible refine blk_off _ _ _ _ ?_ ?_); focus (simp; done)) | ((with_reducible refine blk_offc _ _ _ _ ?_ ?_); focus (first | (simp; done) | omega | (simp; omega))) | ((with_reducible refine blk_off _ _ _ _ ?_ ?_); focus (first | omega | (simp; omega))) | (with_reducible refine blk_drew _ _ ?_) | ((with_reducible refine blk_below (by assumption) ?_ ?_); focus (simp; done)) | ((with_reducible refine blk_below (by assumption) ?_ ?_); focus (first | omega | (simp; omega))))) Try.underlying30 rfl (by kernel_rfl) (by simp [row_size]) _ (row_all [_, _] 64 _) ?_))
    go_at_call 57
    refine (cells_n a b n HN.out la ha lb hb _ w.heap.size (by first | (simp; done) | (simp; omega) | omega) ((cell_of_row _ _ 0 (plate a b F) 30 (0, 0) (by repeat (first | (with_reducible assumption) | ((with_reducible refine blk_new _ _ _ ?_); focus (simp; done)) | ((with_reducible refine blk_old _ _ _ ?_ ?_); focus (simp; done)) | ((with_reducible refine blk_old _ _ _ ?_ ?_); focus (first | omega | (simp; omega))) | ((with_reducible apply blk_set); focus (simp; done)) | ((with_reducible refine blk_off _ _ _ _ ?_ ?_); focus (simp; done)) | ((with_reducible refine blk_offc _ _ _ _ ?_ ?_); focus (first | (simp; done) | omega | (simp; omega))) | ((with_reducible refine blk_off _ _ _ _ ?_ ?_); focus (first | omega | (simp; omega))) | (with_reducible refine blk_drew _ _ ?_) | ((with_reducible refine blk_below (by assumption) ?_ ?_); focus (simp; done)) | ((with_reducible refine blk_below (by assumption) ?_ ?_); focus (first | omega | (simp; omega)))))).trans (row_g0 _ _ _ _)) ((cell_of_row _ _ 1 (plate a b F) 30 (0, 0) (by repeat (first | (with_reducible assumption) | ((with_reducible refine blk_new _ _ _ ?_); focus (simp; done)) | ((with_reducible refine blk_old _ _ _ ?_ ?_); focus (simp; done)) | ((with_reducible refine blk_old _ _ _ ?_ ?_); focus (first | omega | (simp; omega))) | ((with_reducible apply blk_set); focus (simp; done)) | ((with_reducible refine blk_off _ _ _ _ ?_ ?_); focus (simp; done)) | ((with_reducible refine blk_offc _ _ _ _ ?_ ?_); focus (first | (simp; done) | omega | (simp; omega))) | ((with_reducible refine blk_off _ _ _ _ ?_ ?_); focus (first | omega | (simp; omega))) | (with_reducible refine blk_drew _ _ ?_) | ((with_reducible refine blk_below (by assumption) ?_ ?_); focus (simp; done)) | ((with_reducible refine blk_below (by assumption) ?_ ?_); focus (first | omega | (simp; omega)))))).trans (row_g1 _ _ _ _ _))).mono ?_
    rintro e w2 ⟨g0, c, rfl, hown, hbc⟩
    obtain ⟨cur, hcur, hat⟩ := own_block hown
    have k1 : w2.heap[w.heap.size]? = some (.cells (plate a b F) 30 (0, 0)) := blk_below hbc (by first | (simp; done) | (simp; omega) | omega) (by repeat (first | (with_reducible assumption) | ((with_reducible refine blk_new _ _ _ ?_); focus (simp; done)) | ((with_reducible refine blk_old _ _ _ ?_ ?_); focus (simp; done)) | ((with_reducible refine blk_old _ _ _ ?_ ?_); focus (first | omega | (simp; omega))) | ((with_reducible apply blk_set); focus (simp; done)) | ((with_reducible refine blk_off _ _ _ _ ?_ ?_); focus (simp; done)) | ((with_reducible refine blk_offc _ _ _ _ ?_ ?_); focus (first | (simp; done) | omega | (simp; omega))) | ((with_reducible refine blk_off _ _ _ _ ?_ ?_); focus (first | omega | (simp; omega))) | (with_reducible refine blk_drew _ _ ?_) | ((with_reducible refine blk_below (by assumption) ?_ ?_); focus (simp; done)) | ((with_reducible refine blk_below (by assumption) ?_ ?_); focus (first | omega | (simp; omega)))))
    have k4 : Below w.heap.size w w2 := bel_next hbc (by first | (simp; done) | (simp; omega) | omega) (by repeat (first | (with_reducible assumption) | (with_reducible exact Below.refl _ _) | ((with_reducible refine bel_alloc _ ?_ ?_); focus (first | omega | (simp; done) | (simp; omega))) | ((with_reducible refine bel_row _ ?_ ?_); focus (first | omega | (simp; done) | (simp; omega))) | ((with_reducible refine bel_cell _ ?_ ?_); focus (first | omega | (simp; done) | (simp; omega))) | (with_reducible refine Below.drew ?_) | (with_reducible refine below_wideW _ ?_) | ((with_reducible refine bel_next (by assumption) ?_ ?_); focus (first | omega | (simp; done) | (simp; omega)))))
    have HA := Lib.hid hat
    have K1 := Lib.hid k1
    have K4 := Lib.hid k4
    have KC := Lib.hid hcur
    clear hown hbc hcur hat k1 k4 hb1 hc1 hf1
    go_wp2
    go_loopw [5, 13] (fun v i wr => ∃ k d : Nat, k ≤ n ∧ i = .int .i64 k ∧ v = .int .i64 d ∧ darkK F a k = d ∧ wr.heap[w.heap.size]? = some (.cells (plate a b F) 30 (0, 0)) ∧ wr.heap[g0]? = some (.cells cur 2 (0, 0)) ∧ Below w.heap.size w wr) (fun _ i _ => 65 - (intOf i).toNat)
    case atStart => exact ⟨0, 0, by omega, rfl, rfl, rfl, K1.out, KC.out, K4.out⟩
    case round =>
      obtain ⟨k, d, hk, rfl, rfl, hd, h1, h4, h5⟩ := hrel
      have hd64 : d < 64 := by rw [← hd]; exact HDL.out k hk
      have cd : wr.cell? ⟨w.heap.size, 2 + d, none⟩ = some (.float .f32 (F d)) := (cell_of_row wr _ (2 + d) _ _ _ h1).trans (row_k2 _ _ _ _ hd64)
      have d0 : (0 : Int) ≤ d := by omega
      have d9 : (d : Int) < 64 := by omega
      have H5 := Lib.hid h5
      have HD := Lib.hid hd
      clear K1 K4 KC h5 hd
      by_cases hlt : k < n
      · have q2 := HCL.out k hlt
        have cl : wr.cell? ⟨g0, k, none⟩ = some (.int .i64 (cellAt a k : Nat)) := (cell_of_row wr g0 k cur 2 (0, 0) h4).trans (HA.out k hlt)
        have cf : wr.cell? ⟨w.heap.size, 2 + cellAt a k, none⟩ = some (.float .f32 (F (cellAt a k))) := (cell_of_row wr _ (2 + cellAt a k) _ _ _ h1).trans (row_k2 _ _ _ _ q2)
        obtain ⟨q, hq⟩ : ∃ q, cellAt a k = q := ⟨_, rfl⟩
        rw [hq] at cl cf q2
        have HQ := Lib.hid hq
        have H1 := Lib.hid h1
        have H4 := Lib.hid h4
        clear h1 h4 hq
        have z0 : (0 : Int) ≤ q := by omega
        have z1 : (q : Int) < 64 := by omega
        have i0' : (0 : Int) ≤ k := by omega
        have i1 : (k : Int) < n := by omega
        have i2 : (n : Int) ≤ 64 := by omega
        cases ht : (FloatKind.f32.format.order (F q) (F d) == some .gt)
        · go_wp2
          go_quiet (fail)
          go_wp2
          go_roundw
          case rel => exact ⟨k + 1, d, by omega, by go_num, rfl, by rw [dark_keep HQ.out (by rw [HD.out]; exact ht)]; exact HD.out, H1.out, H4.out, bel_drewN _ H5.out⟩
          case measure => simp [intOf]; omega
        · go_wp2
          go_quiet (fail)
          go_wp2
          go_roundw
          case rel => exact ⟨k + 1, q, by omega, by go_num, by go_num, dark_turn HQ.out (by rw [HD.out]; exact ht), H1.out, H4.out, bel_drewN _ H5.out⟩
          case measure => simp [intOf]; omega
      · have hkn : k = n := by omega
        have hd := HD.out
        rw [hkn] at hd
        have HE := Lib.hid hd
        clear hd hkn h1 h4 HD
        have hge : ¬ k < n := hlt
        go_wp2
        try (go_quiet (fail); go_wp2)
        go_ret3
        exact ⟨by rw [HE.out]; rfl, by first | exact H5.out | exact bel_drewN _ H5.out⟩

set_option maxRecDepth 100000 in
set_option maxHeartbeats 1600000 in
theorem exactDarkestCell_any (x y : Int) (F : Nat → Nat) (lx : -128 ≤ x) (ux : x ≤ 127) (ly : -128 ≤ y) (uy : y ≤ 127) (w : World) : Calls Try.prog 7 #[.agg (plate x y F)] w fun e w' => e = .returned (.bool true) ∧ Below w.heap.size w w' := by
  have hc := fun w => run_wide (P := Try.prog) 23 41 (darkF x y F) w (by kernel_rfl) (by kernel_rfl) (darkF_num x y F)
  have hw := Flt.widen_nan (darkF_num x y F)
  go_enter Try.func7, Try.ntmps7
  go_wp2_with (first | ((with_reducible refine at_load 26 ?_); refine wpList_load_part rfl 26 _ rfl _ 0 66 rfl _ _ _ _ (by repeat (first | (with_reducible assumption) | ((with_reducible refine blk_new _ _ _ ?_); focus (simp; done)) | ((with_reducible refine blk_old _ _ _ ?_ ?_); focus (simp; done)) | ((with_reducible refine blk_old _ _ _ ?_ ?_); focus (first | omega | (simp; omega))) | ((with_reducible apply blk_set); focus (simp; done)) | ((with_reducible refine blk_off _ _ _ _ ?_ ?_); focus (simp; done)) | ((with_reducible refine blk_offc _ _ _ _ ?_ ?_); focus (first | (simp; done) | omega | (simp; omega))) | ((with_reducible refine blk_off _ _ _ _ ?_ ?_); focus (first | omega | (simp; omega))) | (with_reducible refine blk_drew _ _ ?_) | ((with_reducible refine blk_below (by assumption) ?_ ?_); focus (simp; done)) | ((with_reducible refine blk_below (by assumption) ?_ ?_); focus (first | omega | (simp; omega))))) Try.underlying26 rfl (by kernel_rfl) (by simp [row_size]) _ (row_all [_, _] 64 _) ?_) | (go_at_call 16; (with_reducible refine (toPlate_any _ _ _ _).mono ?_); rintro e w1 ⟨rfl, hb1⟩; have hz1 := hb1.size; (try simp at hz1); obtain ⟨hc1, hf1⟩ := bcell hb1) | (go_at_call 26; (with_reducible refine (specDark_any x y F _ lx ux ly uy).mono ?_); rintro e w2 ⟨rfl, hb2⟩; have hz2 := hb2.size; (try simp at hz2); obtain ⟨hc2, hf2⟩ := bcell hb2) | (go_at_call 27; (with_reducible refine (implDark_any x y F _ lx ux ly uy).mono ?_); rintro e w3 ⟨rfl, hb3⟩; have hz3 := hb3.size; (try simp at hz3); obtain ⟨hc3, hf3⟩ := bcell hb3) | (go_at_call 25; (with_reducible refine (sameFloat_self _ _ (by assumption)).mono ?_); rintro e w' ⟨rfl, rfl⟩))
  go_ret
  exact ⟨by simp, (by repeat (first | (with_reducible assumption) | (with_reducible exact Below.refl _ _) | ((with_reducible refine bel_alloc _ ?_ ?_); focus (first | omega | (simp; done) | (simp; omega))) | ((with_reducible refine bel_row _ ?_ ?_); focus (first | omega | (simp; done) | (simp; omega))) | ((with_reducible refine bel_cell _ ?_ ?_); focus (first | omega | (simp; done) | (simp; omega))) | (with_reducible refine Below.drew ?_) | (with_reducible refine below_wideW _ ?_) | ((with_reducible refine bel_next (by assumption) ?_ ?_); focus (first | omega | (simp; done) | (simp; omega)))))⟩
end Go.Proofs.Ythgodmnalojnaaa
