/- The plate of a text, as the program reads it. -/
import Derived.Test.YtckcngmbbnilnaaDoorReadPS
import Derived.Test.YtckcngmbbnilnaaDoorReadTI
import Derived.Laws.CopyOwn
set_option linter.unusedVariables false
set_option linter.unusedSimpArgs false
namespace Go.Proofs.YtckcngmbbnilnaaDoor
open Go.RowKit Go.Lib

theorem isStride_any (n : Int) (b : Bool) (hb : (decide (1 ≤ n) && decide (n ≤ 8)) = b) (w : World) : Calls Tryd.prog 53 #[.int .i64 n] w fun e w' => e = .returned (.bool b) ∧ w = w' := by
  subst hb
  go_enter Tryd.func53, Tryd.ntmps53
  by_cases h1 : 1 ≤ n
  · by_cases h2 : n ≤ 8
    · go_wp2
      go_ret
      simp [h1, h2]
    · go_wp2
      go_ret
      simp [h1, h2]
  · go_wp2
    go_ret
    simp [h1]
    try omega
theorem dig_stride {l : List UInt8} {n : Int} {ok : Bool} (h1 : ok = true → l = Lib.itoa n) (h2 : ∀ m, m < 13 → l = Lib.decDigits m → ok = true ∧ n = m) : (∃ m : Nat, 1 ≤ m ∧ m < 9 ∧ n = m ∧ ok = true ∧ l = Lib.decDigits m) ∨ ((ok = false ∨ n < 1 ∨ 8 < n) ∧ ∀ m, 1 ≤ m → m < 9 → l ≠ Lib.decDigits m) := by
  by_cases h : ok = true ∧ 1 ≤ n ∧ n ≤ 8
  · left
    obtain ⟨e, a, b⟩ := h
    obtain ⟨m, rfl⟩ : ∃ m : Nat, n = m := ⟨n.toNat, by omega⟩
    exact ⟨m, by omega, by omega, rfl, e, by rw [h1 e, itoa_nonneg]⟩
  · right
    refine ⟨?_, fun m a b e => h ?_⟩
    · cases ok
      · exact Or.inl rfl
      · right; have : ¬ (1 ≤ n ∧ n ≤ 8) := fun x => h ⟨rfl, x⟩; omega
    · obtain ⟨e1, e2⟩ := h2 m (by omega) e
      exact ⟨e1, by omega, by omega⟩
theorem stride_no {n : Int} (h : n < 1 ∨ 8 < n) : (decide (1 ≤ n) && decide (n ≤ 8)) = false := by
  rw [Bool.and_eq_false_iff]
  rcases h with h | h
  · exact Or.inl (by simp; omega)
  · exact Or.inr (by simp; omega)

set_option maxHeartbeats 4000000 in
set_option maxRecDepth 100000 in
theorem implReadPlate (t : ByteArray) (hmax : t.size ≤ 1048576) (w : World) (hL : Libs w) (htab : Lib.TabIs Tryd.prog w "internal/strconv.uint64pow10" .u64 Lib.pow10Tab) (m0 : Int) (hml : w.cell? ⟨4, 0, none⟩ = some (.int .i64 m0)) (R : Array Value) (C : Int) (hR : R = rpRow (readPL t.data.toList)) (hC : C = rpCode (readPL t.data.toList)) :
    Calls Tryd.prog 21 #[.string t] w fun e w' => e = .returned (.tuple #[.agg R, .int .i64 C]) ∧ Below w.heap.size w w' := by
  have hz : Tryd.zeroCells39 = row [.int .i8 0, .int .i8 0] 64 (fun _ => 0) := rfl
  have hlen : t.data.toList.length = t.size := by rw [Lib.size_eq]
  obtain ⟨L, hLL⟩ : ∃ L, L = t.data.toList := ⟨_, rfl⟩
  have hMlt : 4 < w.heap.size := World.block_lt_of_cell? _ _ hml
  have hSp := fun w1 (hb : Below w.heap.size w w1) => implSplit t 10 hmax w1 m0 ((hb.cell (p := ⟨4, 0, none⟩) hMlt).trans hml)
  rw [← hLL] at hR hC hlen hSp
  have HR := Lib.hid hR
  have HC := Lib.hid hC
  clear hR hC
  by_cases h1000 : t.size ≤ 1000
  · have hq : ¬ (1000 : Int) < (t.size : Int) := by omega
    obtain ⟨l0, ls, hs⟩ := splitL_cons 10 L
    have hW : splitW 10 L = ⟨l0.toArray⟩ :: ls.map fun x => ⟨x.toArray⟩ := by unfold splitW; rw [hs]; rfl
    obtain ⟨X0, hX0⟩ : ∃ X0 : ByteArray, X0 = ⟨l0.toArray⟩ := ⟨_, rfl⟩
    have hX0l : X0.data.toList = l0 := by rw [hX0]
    have hsub : ∀ x, x ∈ l0 :: ls → x.length ≤ 1048576 := fun x hx => by
      have := splitL_sub (c := 10) (l := L) (x := x) (by rw [hs]; exact hx)
      omega
    have hl0 := hsub l0 (by simp)
    obtain ⟨X, hX⟩ : ∃ X : ByteArray, X = ⟨(Lib.cut l0 [32]).1.toArray⟩ := ⟨_, rfl⟩
    obtain ⟨Y, hY⟩ : ∃ Y : ByteArray, Y = ⟨(Lib.cut l0 [32]).2.1.toArray⟩ := ⟨_, rfl⟩
    have hXl : X.data.toList = (Lib.cut l0 [32]).1 := by rw [hX]
    have hYl : Y.data.toList = (Lib.cut l0 [32]).2.1 := by rw [hY]
    have hXs : X.size ≤ 1048576 := by
      rw [hX, size_of_list]
      unfold Lib.cut
      split
      · simp; omega
      · simp; omega
    have hYs : Y.size ≤ 1048576 := by
      rw [hY, size_of_list]
      unfold Lib.cut
      split
      · simp; omega
      · simp
    have hX0s : X0.size ≤ 1048576 := by rw [hX0, size_of_list]; exact hl0
    obtain ⟨bb, hbb⟩ : ∃ bb, bb = (Lib.cut l0 [32]).2.2 := ⟨_, rfl⟩
    have hCut : ∀ w1, Below w.heap.size w w1 → Calls Tryd.prog 51 #[.string X0, .string ⟨#[32]⟩] w1 fun e w' => e = .returned (.tuple #[.string X, .string Y, .bool bb]) ∧ Below w1.heap.size w1 w' := fun w1 hb => by
      rw [hX, hY, hbb, ← hX0l]
      exact (Tryd.strings_Cut X0 ⟨#[32]⟩ m0 w1 (by omega) ((hb.cell (p := ⟨4, 0, none⟩) hMlt).trans hml)).mono fun e w' ⟨h, k, hw⟩ => ⟨h, by rw [hw]; exact below_drewN _ _⟩
    have hDX : ∀ w1, Below w.heap.size w w1 → _ := fun w1 hb => implDigit X hXs w1 (hL.on hb (Nat.le_refl _)) (Go.Joins.tab_stays (g := 1) (by kernel_rfl) htab hb (Nat.le_refl _))
    have hDY : ∀ w1, Below w.heap.size w w1 → _ := fun w1 hb => implDigit Y hYs w1 (hL.on hb (Nat.le_refl _)) (Go.Joins.tab_stays (g := 1) (by kernel_rfl) htab hb (Nat.le_refl _))
    have hNum : ∀ (Z : ByteArray), Z.size ≤ 1048576 → ∀ w1, Below w.heap.size w w1 → ∀ many, 1 ≤ many → many ≤ 14 → _ := fun Z hZ w1 hb many h1 h2 => readNumbers_any Z hZ many h1 h2 w1 (hL.on hb (Nat.le_refl _)) m0 ((hb.cell (p := ⟨4, 0, none⟩) hMlt).trans hml)
    rw [hXl] at hDX
    rw [hYl] at hDY
    rw [hW, ← hX0] at hSp
    obtain ⟨nl, hnl⟩ : ∃ nl, nl = ls.length := ⟨_, rfl⟩
    have hnl20 : nl ≤ 1048577 := by
      have h1 := splitL_lt 10 L
      rw [hs] at h1
      simp at h1
      omega
    have HNL := Lib.hid hnl
    have HS := Lib.hid hs
    have HSUB := Lib.hid hsub
    have HN := Lib.hid hNum
    clear hs hX hY hXl hYl hlen hXs hYs hbb hL htab hml hMlt hLL hNum hl0 hsub hW hX0l hX0s
    go_enter Tryd.func21, Tryd.ntmps21
    go_wp2_with fail
    (try go_at_call 50)
    with_reducible refine calls_args (b := #[.string t, .string ⟨#[10]⟩]) (by kernel_rfl) ?_
    with_reducible refine (hSp _ (Below.alloc (Below.refl _ w) (Nat.le_refl _) _)).mono ?_
    rintro e w1 ⟨⟨v, rfl, g, cap, cs, rfl, hg, hcs1, hat⟩, hb1⟩
    rw [List.length_cons, List.length_map, ← hnl]
    obtain ⟨N3, hN3⟩ : ∃ N3, N3 = nl + 1 := ⟨_, rfl⟩
    rw [← hN3]
    have hN3p : (0 : Int) < (N3 : Int) := by omega
    have HN3 := Lib.hid hN3
    clear hN3
    have c0 : w1.cell? ⟨g, 0, none⟩ = some (.string X0) := (cell_of_row w1 g 0 _ _ _ hcs1).trans (hat 0 X0 rfl)
    have hatw : ∀ (k : Nat) (x : List UInt8), ls[k]? = some x → cs[k + 1]? = some (.string ⟨x.toArray⟩) := fun k x hx => hat (k + 1) _ (by rw [List.getElem?_cons_succ, List.getElem?_map, hx]; rfl)
    have HAT := Lib.hid hatw
    have hz1 : w.heap.size + 1 ≤ w1.heap.size := by have := hb1.size; simpa using this
    have hgz : w.heap.size + 1 ≤ g := by simpa using hg
    have hgl1 : g < w1.heap.size := World.block_lt_of_cell? _ _ c0
    have hblk1 : w1.heap[w.heap.size]? = some (.cells (plate 0 0 (fun _ => 0)) 39 (0, 0)) := blk_below hb1 (by simp) (by repeat (first | (with_reducible assumption) | ((with_reducible refine blk_new _ _ _ ?_); focus (simp; done)) | ((with_reducible refine blk_old _ _ _ ?_ ?_); focus (simp; done)) | ((with_reducible refine blk_old _ _ _ ?_ ?_); focus (first | omega | (simp; omega))) | ((with_reducible apply blk_set); focus (simp; done)) | ((with_reducible refine blk_off _ _ _ _ ?_ ?_); focus (simp; done)) | ((with_reducible refine blk_offc _ _ _ _ ?_ ?_); focus (first | (simp; done) | omega | (simp; omega))) | ((with_reducible refine blk_off _ _ _ _ ?_ ?_); focus (first | omega | (simp; omega))) | (with_reducible refine blk_drew _ _ ?_) | ((with_reducible refine blk_below (by assumption) ?_ ?_); focus (simp; done)) | ((with_reducible refine blk_below (by assumption) ?_ ?_); focus (first | omega | (simp; omega)))))
    have B1 : Below w.heap.size w w1 := (Below.alloc (Below.refl _ w) (Nat.le_refl _) _).trans (hb1.mono (by simp))
    clear hat hSp hg hb1 hnl hatw hX0
    go_wp2_with fail
    (try go_at_call 51)
    with_reducible refine calls_args (b := #[.string X0, .string ⟨#[32]⟩]) (by kernel_rfl) ?_
    with_reducible refine (hCut _ B1).mono ?_
    rintro e w2 ⟨rfl, hb2⟩
    have B2 : Below w.heap.size w w2 := B1.trans (hb2.mono B1.size)
    have hblk2 : w2.heap[w.heap.size]? = some (.cells (plate 0 0 (fun _ => 0)) 39 (0, 0)) := blk_below hb2 (by omega) hblk1
    have hz2 : w.heap.size + 1 ≤ w2.heap.size := by have := hb2.size; omega
    have hgl2 : g < w2.heap.size := by have := hb2.size; omega
    have hcs2 : w2.heap[g]? = some (.cells cs 9 (0, 0)) := (hb2.block g hgl1).trans hcs1
    clear hb2 hblk1 hz1 hgl1 hcs1 c0 B1 hCut
    go_wp2_with fail
    (try go_at_call 52)
    with_reducible refine (hDX _ B2).mono ?_
    rintro e w3 ⟨⟨v, rfl, n1, ok1, rfl, q1, q2⟩, hb3⟩
    have B3 : Below w.heap.size w w3 := B2.trans (hb3.mono B2.size)
    have hblk3 : w3.heap[w.heap.size]? = some (.cells (plate 0 0 (fun _ => 0)) 39 (0, 0)) := blk_below hb3 (by omega) hblk2
    have hz3 : w.heap.size + 1 ≤ w3.heap.size := by have := hb3.size; omega
    have hgl3 : g < w3.heap.size := by have := hb3.size; omega
    have hcs3 : w3.heap[g]? = some (.cells cs 9 (0, 0)) := (hb3.block g hgl2).trans hcs2
    have hst1 := dig_stride q1 q2
    clear q1 q2 hb3 hblk2 hz2 hgl2 hcs2 B2 hDX
    go_wp2_with fail
    (try go_at_call 52)
    with_reducible refine (hDY _ B3).mono ?_
    rintro e w4 ⟨⟨v, rfl, n2, ok2, rfl, q1, q2⟩, hb4⟩
    have B4 : Below w.heap.size w w4 := B3.trans (hb4.mono B3.size)
    have hblk4 : w4.heap[w.heap.size]? = some (.cells (plate 0 0 (fun _ => 0)) 39 (0, 0)) := blk_below hb4 (by omega) hblk3
    have hz4 : w.heap.size + 1 ≤ w4.heap.size := by have := hb4.size; omega
    have hgl4 : g < w4.heap.size := by have := hb4.size; omega
    have hcs4 : w4.heap[g]? = some (.cells cs 9 (0, 0)) := (hb4.block g hgl3).trans hcs3
    have hst2 := dig_stride q1 q2
    clear q1 q2 hb4 hblk3 hz3 hgl3 hcs3 B3 hDY
    rcases hst1 with ⟨wd, hw1, hw9, rfl, rfl, hwx⟩ | ⟨hno, hne⟩
    · have hIW := isStride_any (wd : Int) true (by simp; omega)
      rcases hst2 with ⟨hg, hh1, hh9, rfl, rfl, hwy⟩ | ⟨hno, hne⟩
      · have hIH := isStride_any (hg : Int) true (by simp; omega)
        have hw2 : IntKind.i64.wrap ((hg : Int) + 2) = (hg : Int) + 2 := by rw [IntKind.wrap_i64]; omega
        have hwp1 : IntKind.i64.wrap ((hg : Int) + 1) = (hg : Int) + 1 := by rw [IntKind.wrap_i64]; omega
        have hhead := head_yes (by omega) (by omega) hwx hwy
        have hnA := numOf_dec wd (by omega)
        have hnB := numOf_dec hg (by omega)
        have HH := Lib.hid hhead
        have HNA := Lib.hid hnA
        have HNB := Lib.hid hnB
        clear hwx hwy hhead hnA hnB
        by_cases hnum : nl = hg + 1
        · subst hnum
          have hN3i : (N3 : Int) = (hg : Int) + 2 := by have := HN3.out; omega
          obtain ⟨lx, hlx⟩ : ∃ lx, ls[hg]? = some lx := ⟨_, List.getElem?_eq_getElem (by have := HNL.out; omega)⟩
          have cl : w4.cell? ⟨g, hg + 1, none⟩ = some (.string ⟨lx.toArray⟩) := (cell_of_row w4 g (hg + 1) _ _ _ hcs4).trans (HAT.out hg lx hlx)
          have ih1 : (hg : Int) + 1 < (hg : Int) + 2 := by omega
          by_cases hlast : lx = []
          · subst hlast
            replace cl : w4.cell? ⟨g, hg + 1, none⟩ = some (.string ⟨#[]⟩) := cl
            have HLX := Lib.hid hlx
            clear hlx
            have hw8w : IntKind.i8.wrap (wd : Int) = wd := by simp [IntKind.wrap, IntKind.signed, IntKind.bits]; omega
            have hw8h : IntKind.i8.wrap (hg : Int) = hg := by simp [IntKind.wrap, IntKind.signed, IntKind.bits]; omega
            go_wp2_with (first | (go_at_call 53; with_reducible refine (hIW _).mono ?_; rintro e w9 ⟨rfl, rfl⟩) | (go_at_call 53; with_reducible refine (hIH _).mono ?_; rintro e w9 ⟨rfl, rfl⟩) | ((with_reducible refine at_store 39 ?_); refine wpList_store_part rfl 39 _ _ rfl _ 0 _ rfl rfl _ _ (by repeat (first | (with_reducible assumption) | ((with_reducible refine blk_new _ _ _ ?_); focus (simp; done)) | ((with_reducible refine blk_old _ _ _ ?_ ?_); focus (simp; done)) | ((with_reducible refine blk_old _ _ _ ?_ ?_); focus (first | omega | (simp; omega))) | ((with_reducible apply blk_set); focus (simp; done)) | ((with_reducible refine blk_off _ _ _ _ ?_ ?_); focus (simp; done)) | ((with_reducible refine blk_offc _ _ _ _ ?_ ?_); focus (first | (simp; done) | omega | (simp; omega))) | ((with_reducible refine blk_off _ _ _ _ ?_ ?_); focus (first | omega | (simp; omega))) | (with_reducible refine blk_drew _ _ ?_) | ((with_reducible refine blk_below (by assumption) ?_ ?_); focus (simp; done)) | ((with_reducible refine blk_below (by assumption) ?_ ?_); focus (first | omega | (simp; omega))))) (by rw [row_size]; kernel_rfl) (by simp [row_size]) (row_cells _ _ _ rfl) _ (row_over _ _ 64 _ _ (by simp)) ?_))
            have hbN : Below w.heap.size w w4 := B4
            refine wp_nm (S := fun W => W.heap[w.heap.size]? = some (.cells (plate 0 0 (fun _ => 0)) 39 (0, 0)) ∧ W.heap[w4.heap.size]? = some (.cells (plate wd hg (fun _ => 0)) 39 (0, 0)) ∧ W.heap[g]? = some (.cells cs 9 (0, 0)) ∧ Below w.heap.size w W ∧ w4.heap.size + 1 ≤ W.heap.size) ⟨(by repeat (first | (with_reducible assumption) | ((with_reducible refine blk_new _ _ _ ?_); focus (simp; done)) | ((with_reducible refine blk_old _ _ _ ?_ ?_); focus (simp; done)) | ((with_reducible refine blk_old _ _ _ ?_ ?_); focus (first | omega | (simp; omega))) | ((with_reducible apply blk_set); focus (simp; done)) | ((with_reducible refine blk_off _ _ _ _ ?_ ?_); focus (simp; done)) | ((with_reducible refine blk_offc _ _ _ _ ?_ ?_); focus (first | (simp; done) | omega | (simp; omega))) | ((with_reducible refine blk_off _ _ _ _ ?_ ?_); focus (first | omega | (simp; omega))) | (with_reducible refine blk_drew _ _ ?_) | ((with_reducible refine blk_below (by assumption) ?_ ?_); focus (simp; done)) | ((with_reducible refine blk_below (by assumption) ?_ ?_); focus (first | omega | (simp; omega))))), (by repeat (first | (with_reducible assumption) | ((with_reducible refine blk_new _ _ _ ?_); focus (simp; done)) | ((with_reducible refine blk_old _ _ _ ?_ ?_); focus (simp; done)) | ((with_reducible refine blk_old _ _ _ ?_ ?_); focus (first | omega | (simp; omega))) | ((with_reducible apply blk_set); focus (simp; done)) | ((with_reducible refine blk_off _ _ _ _ ?_ ?_); focus (simp; done)) | ((with_reducible refine blk_offc _ _ _ _ ?_ ?_); focus (first | (simp; done) | omega | (simp; omega))) | ((with_reducible refine blk_off _ _ _ _ ?_ ?_); focus (first | omega | (simp; omega))) | (with_reducible refine blk_drew _ _ ?_) | ((with_reducible refine blk_below (by assumption) ?_ ?_); focus (simp; done)) | ((with_reducible refine blk_below (by assumption) ?_ ?_); focus (first | omega | (simp; omega))))), (by repeat (first | (with_reducible assumption) | ((with_reducible refine blk_new _ _ _ ?_); focus (simp; done)) | ((with_reducible refine blk_old _ _ _ ?_ ?_); focus (simp; done)) | ((with_reducible refine blk_old _ _ _ ?_ ?_); focus (first | omega | (simp; omega))) | ((with_reducible apply blk_set); focus (simp; done)) | ((with_reducible refine blk_off _ _ _ _ ?_ ?_); focus (simp; done)) | ((with_reducible refine blk_offc _ _ _ _ ?_ ?_); focus (first | (simp; done) | omega | (simp; omega))) | ((with_reducible refine blk_off _ _ _ _ ?_ ?_); focus (first | omega | (simp; omega))) | (with_reducible refine blk_drew _ _ ?_) | ((with_reducible refine blk_below (by assumption) ?_ ?_); focus (simp; done)) | ((with_reducible refine blk_below (by assumption) ?_ ?_); focus (first | omega | (simp; omega))))), (by repeat (first | (with_reducible assumption) | (with_reducible exact Below.refl _ _) | ((with_reducible refine bel_alloc _ ?_ ?_); focus (first | omega | (simp; done) | (simp; omega))) | ((with_reducible refine bel_row _ ?_ ?_); focus (first | omega | (simp; done) | (simp; omega))) | ((with_reducible refine bel_cell _ ?_ ?_); focus (first | omega | (simp; done) | (simp; omega))) | (with_reducible refine Below.drew ?_) | (with_reducible refine below_wideW _ ?_) | ((with_reducible refine bel_next (by assumption) ?_ ?_); focus (first | omega | (simp; done) | (simp; omega))))), (by first | omega | (simp; done) | (simp; omega) | (simp at *; omega))⟩ ?_
            rintro W ⟨e1, e2, e3, e4, e5⟩
            obtain ⟨b7, hb7⟩ : ∃ b7, b7 = w4.heap.size := ⟨_, rfl⟩
            have hgb : g < b7 := by omega
            have hwb : w.heap.size < b7 := by omega
            rw [← hb7] at e2 e5 ⊢
            replace e2 : W.heap[b7]? = some (.cells (plate wd hg (plF [])) 39 (0, 0)) := by rw [plF_zero]; exact e2
            clear hbN B4 hblk4 hcs4 hb7 hz4 hgl4 cl hIW hIH
            go_loopw [78] (fun vi wr => ∃ (k : Nat) (G : List (List Nat)), k ≤ hg ∧ vi = .int .i64 k ∧ wr.heap[w.heap.size]? = some (.cells (plate 0 0 (fun _ => 0)) 39 (0, 0)) ∧ wr.heap[b7]? = some (.cells (plate wd hg (plF G)) 39 (0, 0)) ∧ wr.heap[g]? = some (.cells cs 9 (0, 0)) ∧ Below w.heap.size w wr ∧ b7 + 1 ≤ wr.heap.size ∧ Hid (readRows wd (ls.take k) = some G ∧ G.length = k)) (fun vi _ => 9 - (RowKit.intOf vi).toNat)
            case atStart => exact ⟨0, [], by omega, rfl, e1, e2, e3, e4, e5, Lib.hid ⟨rfl, rfl⟩⟩
            case round =>
              clear e1 e2 e3 e4 e5
              obtain ⟨k, G, hk, rfl, e1, e2, e3, e4, e5, hh⟩ := hrel
              have wk1 : IntKind.i64.wrap ((k : Int) + 1) = (k : Int) + 1 := by rw [IntKind.wrap_i64]; omega
              by_cases hlt : k < hg
              · have hkl : k < ls.length := by have := HNL.out; omega
                obtain ⟨x, hx⟩ : ∃ x, ls[k]? = some x := ⟨_, List.getElem?_eq_getElem hkl⟩
                obtain ⟨Z, hZe⟩ : ∃ Z : ByteArray, Z = ⟨x.toArray⟩ := ⟨_, rfl⟩
                have hZl : Z.data.toList = x := by rw [hZe]
                have hZs : Z.size ≤ 1048576 := by rw [hZe, size_of_list]; exact HSUB.out x (by simp [List.mem_of_getElem? hx])
                have cX : wr.cell? ⟨g, k + 1, none⟩ = some (.string Z) := (cell_of_row wr g (k + 1) _ _ _ e3).trans (by rw [hZe]; exact HAT.out k x hx)
                have hNu := HN.out Z hZs wr e4 wd hw1 (by omega)
                rw [hZl] at hNu
                have HX := Lib.hid hx
                have i1 : (k : Int) + 1 < (hg : Int) + 2 := by omega
                have i2 : (k : Int) < (hg : Int) := by omega
                clear hx hZe hZl hZs hkl
                go_wp2_with fail
                (try go_at_call 54)
                with_reducible refine hNu.mono ?_
                rintro e w3 ⟨⟨v, rfl, hv⟩, hb3⟩
                have hz3 : wr.heap.size ≤ w3.heap.size := hb3.size
                have f1 : w3.heap[w.heap.size]? = some (.cells (plate 0 0 (fun _ => 0)) 39 (0, 0)) := blk_below hb3 (by omega) e1
                have f2 : w3.heap[b7]? = some (.cells (plate wd hg (plF G)) 39 (0, 0)) := blk_below hb3 (by omega) e2
                have f3 : w3.heap[g]? = some (.cells cs 9 (0, 0)) := blk_below hb3 (by omega) e3
                have f4 : Below w.heap.size w w3 := e4.trans (hb3.mono (by omega))
                clear e1 e2 e3 e4 hb3 hNu cX
                cases hq : numsOf x wd with
                | none =>
                  have HF : Hid (R = plate 0 0 (fun _ => 0) ∧ C = 5) := Lib.hid (by rw [HR.out, HC.out, readPL_row HS.out HH.out HNA.out HNB.out hlt HX.out (Or.inl hq)]; exact ⟨rfl, rfl⟩)
                  rw [hq] at hv
                  obtain ⟨sl, rfl⟩ : ∃ sl, v = .tuple #[sl, .bool false] := hv
                  clear hq hh
                  go_wp2_with (first | ((with_reducible refine at_store 39 ?_); refine wpList_store_part rfl 39 _ _ rfl _ 0 _ rfl rfl _ _ (by repeat (first | (with_reducible assumption) | ((with_reducible refine blk_new _ _ _ ?_); focus (simp; done)) | ((with_reducible refine blk_old _ _ _ ?_ ?_); focus (simp; done)) | ((with_reducible refine blk_old _ _ _ ?_ ?_); focus (first | omega | (simp; omega))) | ((with_reducible apply blk_set); focus (simp; done)) | ((with_reducible refine blk_off _ _ _ _ ?_ ?_); focus (simp; done)) | ((with_reducible refine blk_offc _ _ _ _ ?_ ?_); focus (first | (simp; done) | omega | (simp; omega))) | ((with_reducible refine blk_off _ _ _ _ ?_ ?_); focus (first | omega | (simp; omega))) | (with_reducible refine blk_drew _ _ ?_) | ((with_reducible refine blk_below (by assumption) ?_ ?_); focus (simp; done)) | ((with_reducible refine blk_below (by assumption) ?_ ?_); focus (first | omega | (simp; omega))))) (by rw [row_size]; kernel_rfl) (by simp [row_size]) (row_cells _ _ _ rfl) _ (row_over _ _ 64 _ _ (by simp)) ?_))
                  refine bodyPost_ret (v := .tuple #[.agg (plate 0 0 (fun _ => 0)), .int .i64 5]) ?_ ?_ ?_
                  · refine results_row_tmp Tryd.results21 _ _ _ 39 (plate 0 0 (fun _ => 0)) (0, 0) _ _ rfl rfl ?_ Tryd.underlying39 rfl (by simp only [row_size]; kernel_rfl)
                    exact (by repeat (first | (with_reducible assumption) | ((with_reducible refine blk_new _ _ _ ?_); focus (simp; done)) | ((with_reducible refine blk_old _ _ _ ?_ ?_); focus (simp; done)) | ((with_reducible refine blk_old _ _ _ ?_ ?_); focus (first | omega | (simp; omega))) | ((with_reducible apply blk_set); focus (simp; done)) | ((with_reducible refine blk_off _ _ _ _ ?_ ?_); focus (simp; done)) | ((with_reducible refine blk_offc _ _ _ _ ?_ ?_); focus (first | (simp; done) | omega | (simp; omega))) | ((with_reducible refine blk_off _ _ _ _ ?_ ?_); focus (first | omega | (simp; omega))) | (with_reducible refine blk_drew _ _ ?_) | ((with_reducible refine blk_below (by assumption) ?_ ?_); focus (simp; done)) | ((with_reducible refine blk_below (by assumption) ?_ ?_); focus (first | omega | (simp; omega)))))
                  · rfl
                  · exact ⟨by (rw [HF.out.1, HF.out.2] <;> rfl), (by repeat (first | (with_reducible assumption) | (with_reducible exact Below.refl _ _) | ((with_reducible refine bel_alloc _ ?_ ?_); focus (first | omega | (simp; done) | (simp; omega))) | ((with_reducible refine bel_row _ ?_ ?_); focus (first | omega | (simp; done) | (simp; omega))) | ((with_reducible refine bel_cell _ ?_ ?_); focus (first | omega | (simp; done) | (simp; omega))) | (with_reducible refine Below.drew ?_) | (with_reducible refine below_wideW _ ?_) | ((with_reducible refine bel_next (by assumption) ?_ ?_); focus (first | omega | (simp; done) | (simp; omega)))))⟩
                | some r =>
                  have hrl := (numsOf_len hq).2.1
                  rw [hq] at hv
                  obtain ⟨sl, rfl, hown⟩ : ∃ sl, v = .tuple #[sl, .bool true] ∧ w3.ownsRow wr.heap.size 22 1 sl wd (r.map (Value.float .f32)) := hv
                  rcases hown.2 with ⟨_, h0⟩ | ⟨gn, capn, cur, rfl, hgn, hgh, hcap, hmx, hcs9, htk⟩
                  · exact absurd h0 (by omega)
                  rw [Nat.mul_one] at htk hcs9
                  have HN2 : Hid (readRows wd (ls.take (k + 1)) = some (G ++ [r]) ∧ (G ++ [r]).length = k + 1) := Lib.hid ⟨by rw [readRows_take hh.out.1 HX.out, hq]; rfl, by simp [hh.out.2]⟩
                  have hsrc : ∀ j v, (r.map (Value.float .f32))[j]? = some v → w3.cell? ⟨gn, j, none⟩ = some v := fun j v hj => by
                    have hjm : j < wd := by
                      have := (List.getElem?_eq_some_iff.1 hj).1
                      simp at this
                      omega
                    refine (cell_of_row w3 gn j _ _ _ hgh).trans ?_
                    rw [← Array.getElem?_toList, ← hj, ← htk, List.getElem?_take, if_pos hjm]
                  have hsp : (splice (plate wd hg (plF G)).toList (2 + 8 * k) (r.map (Value.float .f32))).toArray = plate wd hg (plF (G ++ [r])) := by
                    have h := row_paste (ppre wd hg) 64 (plF G) (8 * k) r (by omega)
                    refine h.trans ?_
                    rw [plF_row G r (by omega), hh.out.2]
                  have hlen3 : (r.map (Value.float .f32)).length = wd := by rw [List.length_map, hrl]
                  have hone : ∀ v ∈ r.map (Value.float .f32), v.oneCell' = true := by
                    intro v hv
                    obtain ⟨y, _, rfl⟩ := List.mem_map.1 hv
                    rfl
                  obtain ⟨xs, hxs⟩ : ∃ xs, xs = r.map (Value.float .f32) := ⟨_, rfl⟩
                  rw [← hxs] at hsrc hsp hlen3 hone
                  have hsl : ∀ w', (Instr.sliceAt 37 (.pointer (some ⟨b7, 2, none⟩)) (some (.int .i64 (8 * (k : Int)))) none none).run Tryd.prog w' = .ok (.slice (some ⟨b7, 2 + 8 * k, none⟩) (64 - 8 * k) (64 - 8 * k)) w' := fun w' => by
                    have h := run_sliceAt_l (P := Tryd.prog) w' 37 22 64 b7 2 Tryd.underlying37 (by kernel_rfl) .i64 (8 * k) (by omega)
                    rw [show (8 * (k : Int)) = ((8 * k : Nat) : Int) by omega]
                    exact h
                  have wm : IntKind.i64.wrap (8 * (k : Int)) = 8 * (k : Int) := by rw [IntKind.wrap_i64]; omega
                  have hcp : (Builtin.copy_ #[64, 64] 3 #[.slice (some ⟨b7, 2 + 8 * k, none⟩) (64 - 8 * k) (64 - 8 * k), .slice (some ⟨gn, 0, none⟩) wd capn]).run Tryd.prog w3 = .ok (goInt wd) (w3.setRow b7 (plate wd hg (plF (G ++ [r])))) := by
                    have h := run_copy_row (P := Tryd.prog) w3 64 64 3 22 b7 (2 + 8 * k) (64 - 8 * k) (64 - 8 * k) ⟨gn, 0, none⟩ wd capn (plate wd hg (plF G)) 39 xs Tryd.underlying64 (by kernel_rfl) f2 (by rw [hlen3]; exact (Nat.min_eq_left (by omega)).symm) (fun j v hj => by rw [show ((⟨gn, 0, none⟩ : Addr).add j) = ⟨gn, j, none⟩ from by cases j <;> simp [Addr.add]]; exact hsrc j v hj) (by rw [hlen3, row_size]; simp; omega) hone
                    rw [hlen3, List.append_assoc] at h
                    rw [h, ← hsp]
                    unfold splice
                    rw [hlen3]
                  have g1 : (w3.setRow b7 (plate wd hg (plF (G ++ [r])))).heap[w.heap.size]? = some (.cells (plate 0 0 (fun _ => 0)) 39 (0, 0)) := (setRow_other w3 b7 _ _ (by omega)).trans f1
                  have g2 : (w3.setRow b7 (plate wd hg (plF (G ++ [r])))).heap[b7]? = some (.cells (plate wd hg (plF (G ++ [r]))) 39 (0, 0)) := setRow_heap w3 b7 _ _ _ _ f2
                  have g3 : (w3.setRow b7 (plate wd hg (plF (G ++ [r])))).heap[g]? = some (.cells cs 9 (0, 0)) := (setRow_other w3 b7 _ _ (by omega)).trans f3
                  have g4 : Below w.heap.size w (w3.setRow b7 (plate wd hg (plF (G ++ [r])))) := bel_row _ (by omega) f4
                  have g5 : b7 + 1 ≤ (w3.setRow b7 (plate wd hg (plF (G ++ [r])))).heap.size := by rw [size_setRow]; omega
                  clear hq hh hown hgn hgh hcap hmx hcs9 htk hsp hsrc hlen3 hone hxs hrl f1 f2 f3 f4
                  generalize w3.setRow b7 (plate wd hg (plF (G ++ [r]))) = w5 at hcp g1 g2 g3 g4 g5
                  go_wp2
                  refine ⟨⟨k + 1, G ++ [r], by omega, by (first | rfl | (simp; done) | (simp; omega)), g1, g2, g3, g4, g5, HN2⟩, ?_⟩
                  simp [RowKit.intOf]
                  try omega
              · obtain rfl : k = hg := by omega
                have i2 : ¬ ((k : Int) < (k : Int)) := by omega
                have hc : (1 ≤ wd ∧ wd < 9) ∧ (1 ≤ k ∧ k < 9) ∧ ls.length = k + 1 ∧ ls.getD k [] = [] := by
                  refine ⟨⟨hw1, hw9⟩, ⟨hh1, hh9⟩, HNL.out.symm, ?_⟩
                  simp [List.getD, HLX.out]
                have hRC : ∀ b, plateB wd k (plF G) = b → R = (if b then plate wd k (plF G) else plate 0 0 (fun _ => 0)) ∧ C = (if b then 0 else 5) := by
                  intro b hb
                  rw [HR.out, HC.out, readPL_of HS.out HH.out HNA.out HNB.out, if_pos hc, hh.out.1]
                  show rpRow (if plateB wd k (plF G) then _ else _) = _ ∧ rpCode (if plateB wd k (plF G) then _ else _) = _
                  rw [hb]
                  cases b
                  · exact ⟨rfl, rfl⟩
                  · exact ⟨rfl, rfl⟩
                clear hh hc
                generalize plF G = fF at hRC e2
                have HRC := Lib.hid hRC
                clear hRC
                cases hv : plateB wd k fF with
                | false =>
                  have HF : Hid (R = plate 0 0 (fun _ => 0) ∧ C = 5) := Lib.hid (HRC.out false hv)
                  go_wp2_with (first | (go_at_call 42; (with_reducible refine (implPOk_any (wd : Int) (k : Int) fF _ (by omega) (by omega) (by omega) (by omega)).mono ?_); rintro e w7 ⟨rfl, hb7⟩; rw [hv]; have hz7 := hb7.size; (try simp at hz7); obtain ⟨hc7, hf7⟩ := bcell hb7) | ((with_reducible refine at_load 39 ?_); refine wpList_load_part rfl 39 _ rfl _ 0 66 rfl _ _ _ _ (by repeat (first | (with_reducible assumption) | ((with_reducible refine blk_new _ _ _ ?_); focus (simp; done)) | ((with_reducible refine blk_old _ _ _ ?_ ?_); focus (simp; done)) | ((with_reducible refine blk_old _ _ _ ?_ ?_); focus (first | omega | (simp; omega))) | ((with_reducible apply blk_set); focus (simp; done)) | ((with_reducible refine blk_off _ _ _ _ ?_ ?_); focus (simp; done)) | ((with_reducible refine blk_offc _ _ _ _ ?_ ?_); focus (first | (simp; done) | omega | (simp; omega))) | ((with_reducible refine blk_off _ _ _ _ ?_ ?_); focus (first | omega | (simp; omega))) | (with_reducible refine blk_drew _ _ ?_) | ((with_reducible refine blk_below (by assumption) ?_ ?_); focus (simp; done)) | ((with_reducible refine blk_below (by assumption) ?_ ?_); focus (first | omega | (simp; omega))))) Tryd.underlying39 rfl (by kernel_rfl) (by simp [row_size]) _ (row_all [_, _] 64 _) ?_) | ((with_reducible refine at_store 39 ?_); refine wpList_store_part rfl 39 _ _ rfl _ 0 _ rfl rfl _ _ (by repeat (first | (with_reducible assumption) | ((with_reducible refine blk_new _ _ _ ?_); focus (simp; done)) | ((with_reducible refine blk_old _ _ _ ?_ ?_); focus (simp; done)) | ((with_reducible refine blk_old _ _ _ ?_ ?_); focus (first | omega | (simp; omega))) | ((with_reducible apply blk_set); focus (simp; done)) | ((with_reducible refine blk_off _ _ _ _ ?_ ?_); focus (simp; done)) | ((with_reducible refine blk_offc _ _ _ _ ?_ ?_); focus (first | (simp; done) | omega | (simp; omega))) | ((with_reducible refine blk_off _ _ _ _ ?_ ?_); focus (first | omega | (simp; omega))) | (with_reducible refine blk_drew _ _ ?_) | ((with_reducible refine blk_below (by assumption) ?_ ?_); focus (simp; done)) | ((with_reducible refine blk_below (by assumption) ?_ ?_); focus (first | omega | (simp; omega))))) (by rw [row_size]; kernel_rfl) (by simp [row_size]) (row_cells _ _ _ rfl) _ (row_over _ _ 64 _ _ (by simp)) ?_))
                  refine bodyPost_ret (v := .tuple #[.agg (plate 0 0 (fun _ => 0)), .int .i64 5]) ?_ ?_ ?_
                  · refine results_row_tmp Tryd.results21 _ _ _ 39 (plate 0 0 (fun _ => 0)) (0, 0) _ _ rfl rfl ?_ Tryd.underlying39 rfl (by simp only [row_size]; kernel_rfl)
                    exact (by repeat (first | (with_reducible assumption) | ((with_reducible refine blk_new _ _ _ ?_); focus (simp; done)) | ((with_reducible refine blk_old _ _ _ ?_ ?_); focus (simp; done)) | ((with_reducible refine blk_old _ _ _ ?_ ?_); focus (first | omega | (simp; omega))) | ((with_reducible apply blk_set); focus (simp; done)) | ((with_reducible refine blk_off _ _ _ _ ?_ ?_); focus (simp; done)) | ((with_reducible refine blk_offc _ _ _ _ ?_ ?_); focus (first | (simp; done) | omega | (simp; omega))) | ((with_reducible refine blk_off _ _ _ _ ?_ ?_); focus (first | omega | (simp; omega))) | (with_reducible refine blk_drew _ _ ?_) | ((with_reducible refine blk_below (by assumption) ?_ ?_); focus (simp; done)) | ((with_reducible refine blk_below (by assumption) ?_ ?_); focus (first | omega | (simp; omega)))))
                  · rfl
                  · exact ⟨by (rw [HF.out.1, HF.out.2] <;> rfl), (by repeat (first | (with_reducible assumption) | (with_reducible exact Below.refl _ _) | ((with_reducible refine bel_alloc _ ?_ ?_); focus (first | omega | (simp; done) | (simp; omega))) | ((with_reducible refine bel_row _ ?_ ?_); focus (first | omega | (simp; done) | (simp; omega))) | ((with_reducible refine bel_cell _ ?_ ?_); focus (first | omega | (simp; done) | (simp; omega))) | (with_reducible refine Below.drew ?_) | (with_reducible refine below_wideW _ ?_) | ((with_reducible refine bel_next (by assumption) ?_ ?_); focus (first | omega | (simp; done) | (simp; omega)))))⟩
                | true =>
                  have HF : Hid (R = plate wd k fF ∧ C = 0) := Lib.hid (HRC.out true hv)
                  go_wp2_with (first | (go_at_call 42; (with_reducible refine (implPOk_any (wd : Int) (k : Int) fF _ (by omega) (by omega) (by omega) (by omega)).mono ?_); rintro e w7 ⟨rfl, hb7⟩; rw [hv]; have hz7 := hb7.size; (try simp at hz7); obtain ⟨hc7, hf7⟩ := bcell hb7) | ((with_reducible refine at_load 39 ?_); refine wpList_load_part rfl 39 _ rfl _ 0 66 rfl _ _ _ _ (by repeat (first | (with_reducible assumption) | ((with_reducible refine blk_new _ _ _ ?_); focus (simp; done)) | ((with_reducible refine blk_old _ _ _ ?_ ?_); focus (simp; done)) | ((with_reducible refine blk_old _ _ _ ?_ ?_); focus (first | omega | (simp; omega))) | ((with_reducible apply blk_set); focus (simp; done)) | ((with_reducible refine blk_off _ _ _ _ ?_ ?_); focus (simp; done)) | ((with_reducible refine blk_offc _ _ _ _ ?_ ?_); focus (first | (simp; done) | omega | (simp; omega))) | ((with_reducible refine blk_off _ _ _ _ ?_ ?_); focus (first | omega | (simp; omega))) | (with_reducible refine blk_drew _ _ ?_) | ((with_reducible refine blk_below (by assumption) ?_ ?_); focus (simp; done)) | ((with_reducible refine blk_below (by assumption) ?_ ?_); focus (first | omega | (simp; omega))))) Tryd.underlying39 rfl (by kernel_rfl) (by simp [row_size]) _ (row_all [_, _] 64 _) ?_) | ((with_reducible refine at_store 39 ?_); refine wpList_store_part rfl 39 _ _ rfl _ 0 _ rfl rfl _ _ (by repeat (first | (with_reducible assumption) | ((with_reducible refine blk_new _ _ _ ?_); focus (simp; done)) | ((with_reducible refine blk_old _ _ _ ?_ ?_); focus (simp; done)) | ((with_reducible refine blk_old _ _ _ ?_ ?_); focus (first | omega | (simp; omega))) | ((with_reducible apply blk_set); focus (simp; done)) | ((with_reducible refine blk_off _ _ _ _ ?_ ?_); focus (simp; done)) | ((with_reducible refine blk_offc _ _ _ _ ?_ ?_); focus (first | (simp; done) | omega | (simp; omega))) | ((with_reducible refine blk_off _ _ _ _ ?_ ?_); focus (first | omega | (simp; omega))) | (with_reducible refine blk_drew _ _ ?_) | ((with_reducible refine blk_below (by assumption) ?_ ?_); focus (simp; done)) | ((with_reducible refine blk_below (by assumption) ?_ ?_); focus (first | omega | (simp; omega))))) (by rw [row_size]; kernel_rfl) (by simp [row_size]) (row_cells _ _ _ rfl) _ (row_over _ _ 64 _ _ (by simp)) ?_))
                  refine bodyPost_ret (v := .tuple #[.agg (plate wd k fF), .int .i64 0]) ?_ ?_ ?_
                  · refine results_row_tmp Tryd.results21 _ _ _ 39 (plate wd k fF) (0, 0) _ _ rfl rfl ?_ Tryd.underlying39 rfl (by simp only [row_size]; kernel_rfl)
                    exact (by repeat (first | (with_reducible assumption) | ((with_reducible refine blk_new _ _ _ ?_); focus (simp; done)) | ((with_reducible refine blk_old _ _ _ ?_ ?_); focus (simp; done)) | ((with_reducible refine blk_old _ _ _ ?_ ?_); focus (first | omega | (simp; omega))) | ((with_reducible apply blk_set); focus (simp; done)) | ((with_reducible refine blk_off _ _ _ _ ?_ ?_); focus (simp; done)) | ((with_reducible refine blk_offc _ _ _ _ ?_ ?_); focus (first | (simp; done) | omega | (simp; omega))) | ((with_reducible refine blk_off _ _ _ _ ?_ ?_); focus (first | omega | (simp; omega))) | (with_reducible refine blk_drew _ _ ?_) | ((with_reducible refine blk_below (by assumption) ?_ ?_); focus (simp; done)) | ((with_reducible refine blk_below (by assumption) ?_ ?_); focus (first | omega | (simp; omega)))))
                  · rfl
                  · exact ⟨by (rw [HF.out.1, HF.out.2] <;> rfl), (by repeat (first | (with_reducible assumption) | (with_reducible exact Below.refl _ _) | ((with_reducible refine bel_alloc _ ?_ ?_); focus (first | omega | (simp; done) | (simp; omega))) | ((with_reducible refine bel_row _ ?_ ?_); focus (first | omega | (simp; done) | (simp; omega))) | ((with_reducible refine bel_cell _ ?_ ?_); focus (first | omega | (simp; done) | (simp; omega))) | (with_reducible refine Below.drew ?_) | (with_reducible refine below_wideW _ ?_) | ((with_reducible refine bel_next (by assumption) ?_ ?_); focus (first | omega | (simp; done) | (simp; omega)))))⟩
          · obtain ⟨XL, hXL⟩ : ∃ X : ByteArray, X = ⟨lx.toArray⟩ := ⟨_, rfl⟩
            rw [← hXL] at cl
            have hne : XL.toList.isEmpty = false := by rw [ByteArray.toList_eq, hXL]; simp; exact hlast
            have HF : Hid (R = plate 0 0 (fun _ => 0) ∧ C = 5) := Lib.hid (by rw [HR.out, HC.out, readPL_bad HS.out HH.out HNA.out HNB.out (fun h => hlast (by have := h.2.2.2; simpa [List.getD, hlx] using this))]; exact ⟨rfl, rfl⟩)
            clear hXL hlast hlx
            go_wp2_with (first | (go_at_call 53; with_reducible refine (hIW _).mono ?_; rintro e w9 ⟨rfl, rfl⟩) | (go_at_call 53; with_reducible refine (hIH _).mono ?_; rintro e w9 ⟨rfl, rfl⟩) | ((with_reducible refine at_store 39 ?_); refine wpList_store_part rfl 39 _ _ rfl _ 0 _ rfl rfl _ _ (by repeat (first | (with_reducible assumption) | ((with_reducible refine blk_new _ _ _ ?_); focus (simp; done)) | ((with_reducible refine blk_old _ _ _ ?_ ?_); focus (simp; done)) | ((with_reducible refine blk_old _ _ _ ?_ ?_); focus (first | omega | (simp; omega))) | ((with_reducible apply blk_set); focus (simp; done)) | ((with_reducible refine blk_off _ _ _ _ ?_ ?_); focus (simp; done)) | ((with_reducible refine blk_offc _ _ _ _ ?_ ?_); focus (first | (simp; done) | omega | (simp; omega))) | ((with_reducible refine blk_off _ _ _ _ ?_ ?_); focus (first | omega | (simp; omega))) | (with_reducible refine blk_drew _ _ ?_) | ((with_reducible refine blk_below (by assumption) ?_ ?_); focus (simp; done)) | ((with_reducible refine blk_below (by assumption) ?_ ?_); focus (first | omega | (simp; omega))))) (by rw [row_size]; kernel_rfl) (by simp [row_size]) (row_cells _ _ _ rfl) _ (row_over _ _ 64 _ _ (by simp)) ?_))
            refine bodyPost_ret (v := .tuple #[.agg (plate 0 0 (fun _ => 0)), .int .i64 5]) ?_ ?_ ?_
            · refine results_row_tmp Tryd.results21 _ _ _ 39 (plate 0 0 (fun _ => 0)) (0, 0) _ _ rfl rfl ?_ Tryd.underlying39 rfl (by simp only [row_size]; kernel_rfl)
              exact (by repeat (first | (with_reducible assumption) | ((with_reducible refine blk_new _ _ _ ?_); focus (simp; done)) | ((with_reducible refine blk_old _ _ _ ?_ ?_); focus (simp; done)) | ((with_reducible refine blk_old _ _ _ ?_ ?_); focus (first | omega | (simp; omega))) | ((with_reducible apply blk_set); focus (simp; done)) | ((with_reducible refine blk_off _ _ _ _ ?_ ?_); focus (simp; done)) | ((with_reducible refine blk_offc _ _ _ _ ?_ ?_); focus (first | (simp; done) | omega | (simp; omega))) | ((with_reducible refine blk_off _ _ _ _ ?_ ?_); focus (first | omega | (simp; omega))) | (with_reducible refine blk_drew _ _ ?_) | ((with_reducible refine blk_below (by assumption) ?_ ?_); focus (simp; done)) | ((with_reducible refine blk_below (by assumption) ?_ ?_); focus (first | omega | (simp; omega)))))
            · rfl
            · exact ⟨by (rw [HF.out.1, HF.out.2] <;> rfl), (by repeat (first | (with_reducible assumption) | (with_reducible exact Below.refl _ _) | ((with_reducible refine bel_alloc _ ?_ ?_); focus (first | omega | (simp; done) | (simp; omega))) | ((with_reducible refine bel_row _ ?_ ?_); focus (first | omega | (simp; done) | (simp; omega))) | ((with_reducible refine bel_cell _ ?_ ?_); focus (first | omega | (simp; done) | (simp; omega))) | (with_reducible refine Below.drew ?_) | (with_reducible refine below_wideW _ ?_) | ((with_reducible refine bel_next (by assumption) ?_ ?_); focus (first | omega | (simp; done) | (simp; omega)))))⟩
        · have hN3i : ((N3 : Int) != (hg : Int) + 2) = true := by have := HN3.out; simp; omega
          have HF : Hid (R = plate 0 0 (fun _ => 0) ∧ C = 5) := Lib.hid (by rw [HR.out, HC.out, readPL_bad HS.out HH.out HNA.out HNB.out (fun h => hnum (by rw [HNL.out]; exact h.2.2.1))]; exact ⟨rfl, rfl⟩)
          clear hnum
          go_wp2_with (first | (go_at_call 53; with_reducible refine (hIW _).mono ?_; rintro e w9 ⟨rfl, rfl⟩) | (go_at_call 53; with_reducible refine (hIH _).mono ?_; rintro e w9 ⟨rfl, rfl⟩) | ((with_reducible refine at_store 39 ?_); refine wpList_store_part rfl 39 _ _ rfl _ 0 _ rfl rfl _ _ (by repeat (first | (with_reducible assumption) | ((with_reducible refine blk_new _ _ _ ?_); focus (simp; done)) | ((with_reducible refine blk_old _ _ _ ?_ ?_); focus (simp; done)) | ((with_reducible refine blk_old _ _ _ ?_ ?_); focus (first | omega | (simp; omega))) | ((with_reducible apply blk_set); focus (simp; done)) | ((with_reducible refine blk_off _ _ _ _ ?_ ?_); focus (simp; done)) | ((with_reducible refine blk_offc _ _ _ _ ?_ ?_); focus (first | (simp; done) | omega | (simp; omega))) | ((with_reducible refine blk_off _ _ _ _ ?_ ?_); focus (first | omega | (simp; omega))) | (with_reducible refine blk_drew _ _ ?_) | ((with_reducible refine blk_below (by assumption) ?_ ?_); focus (simp; done)) | ((with_reducible refine blk_below (by assumption) ?_ ?_); focus (first | omega | (simp; omega))))) (by rw [row_size]; kernel_rfl) (by simp [row_size]) (row_cells _ _ _ rfl) _ (row_over _ _ 64 _ _ (by simp)) ?_))
          refine bodyPost_ret (v := .tuple #[.agg (plate 0 0 (fun _ => 0)), .int .i64 5]) ?_ ?_ ?_
          · refine results_row_tmp Tryd.results21 _ _ _ 39 (plate 0 0 (fun _ => 0)) (0, 0) _ _ rfl rfl ?_ Tryd.underlying39 rfl (by simp only [row_size]; kernel_rfl)
            exact (by repeat (first | (with_reducible assumption) | ((with_reducible refine blk_new _ _ _ ?_); focus (simp; done)) | ((with_reducible refine blk_old _ _ _ ?_ ?_); focus (simp; done)) | ((with_reducible refine blk_old _ _ _ ?_ ?_); focus (first | omega | (simp; omega))) | ((with_reducible apply blk_set); focus (simp; done)) | ((with_reducible refine blk_off _ _ _ _ ?_ ?_); focus (simp; done)) | ((with_reducible refine blk_offc _ _ _ _ ?_ ?_); focus (first | (simp; done) | omega | (simp; omega))) | ((with_reducible refine blk_off _ _ _ _ ?_ ?_); focus (first | omega | (simp; omega))) | (with_reducible refine blk_drew _ _ ?_) | ((with_reducible refine blk_below (by assumption) ?_ ?_); focus (simp; done)) | ((with_reducible refine blk_below (by assumption) ?_ ?_); focus (first | omega | (simp; omega)))))
          · rfl
          · exact ⟨by (rw [HF.out.1, HF.out.2] <;> rfl), (by repeat (first | (with_reducible assumption) | (with_reducible exact Below.refl _ _) | ((with_reducible refine bel_alloc _ ?_ ?_); focus (first | omega | (simp; done) | (simp; omega))) | ((with_reducible refine bel_row _ ?_ ?_); focus (first | omega | (simp; done) | (simp; omega))) | ((with_reducible refine bel_cell _ ?_ ?_); focus (first | omega | (simp; done) | (simp; omega))) | (with_reducible refine Below.drew ?_) | (with_reducible refine below_wideW _ ?_) | ((with_reducible refine bel_next (by assumption) ?_ ?_); focus (first | omega | (simp; done) | (simp; omega)))))⟩
      · have HF : Hid (R = plate 0 0 (fun _ => 0) ∧ C = 5) := Lib.hid (by rw [HR.out, HC.out, head_no HS.out (fun m k _ _ h3 h4 _ e => hne k h3 h4 e)]; exact ⟨rfl, rfl⟩)
        clear hne hwx
        cases ok2 with
        | false =>
          clear hno
          go_wp2_with (first | (go_at_call 53; with_reducible refine (hIW _).mono ?_; rintro e w9 ⟨rfl, rfl⟩) | ((with_reducible refine at_store 39 ?_); refine wpList_store_part rfl 39 _ _ rfl _ 0 _ rfl rfl _ _ (by repeat (first | (with_reducible assumption) | ((with_reducible refine blk_new _ _ _ ?_); focus (simp; done)) | ((with_reducible refine blk_old _ _ _ ?_ ?_); focus (simp; done)) | ((with_reducible refine blk_old _ _ _ ?_ ?_); focus (first | omega | (simp; omega))) | ((with_reducible apply blk_set); focus (simp; done)) | ((with_reducible refine blk_off _ _ _ _ ?_ ?_); focus (simp; done)) | ((with_reducible refine blk_offc _ _ _ _ ?_ ?_); focus (first | (simp; done) | omega | (simp; omega))) | ((with_reducible refine blk_off _ _ _ _ ?_ ?_); focus (first | omega | (simp; omega))) | (with_reducible refine blk_drew _ _ ?_) | ((with_reducible refine blk_below (by assumption) ?_ ?_); focus (simp; done)) | ((with_reducible refine blk_below (by assumption) ?_ ?_); focus (first | omega | (simp; omega))))) (by rw [row_size]; kernel_rfl) (by simp [row_size]) (row_cells _ _ _ rfl) _ (row_over _ _ 64 _ _ (by simp)) ?_))
          refine bodyPost_ret (v := .tuple #[.agg (plate 0 0 (fun _ => 0)), .int .i64 5]) ?_ ?_ ?_
          · refine results_row_tmp Tryd.results21 _ _ _ 39 (plate 0 0 (fun _ => 0)) (0, 0) _ _ rfl rfl ?_ Tryd.underlying39 rfl (by simp only [row_size]; kernel_rfl)
            exact (by repeat (first | (with_reducible assumption) | ((with_reducible refine blk_new _ _ _ ?_); focus (simp; done)) | ((with_reducible refine blk_old _ _ _ ?_ ?_); focus (simp; done)) | ((with_reducible refine blk_old _ _ _ ?_ ?_); focus (first | omega | (simp; omega))) | ((with_reducible apply blk_set); focus (simp; done)) | ((with_reducible refine blk_off _ _ _ _ ?_ ?_); focus (simp; done)) | ((with_reducible refine blk_offc _ _ _ _ ?_ ?_); focus (first | (simp; done) | omega | (simp; omega))) | ((with_reducible refine blk_off _ _ _ _ ?_ ?_); focus (first | omega | (simp; omega))) | (with_reducible refine blk_drew _ _ ?_) | ((with_reducible refine blk_below (by assumption) ?_ ?_); focus (simp; done)) | ((with_reducible refine blk_below (by assumption) ?_ ?_); focus (first | omega | (simp; omega)))))
          · rfl
          · exact ⟨by (rw [HF.out.1, HF.out.2] <;> rfl), (by repeat (first | (with_reducible assumption) | (with_reducible exact Below.refl _ _) | ((with_reducible refine bel_alloc _ ?_ ?_); focus (first | omega | (simp; done) | (simp; omega))) | ((with_reducible refine bel_row _ ?_ ?_); focus (first | omega | (simp; done) | (simp; omega))) | ((with_reducible refine bel_cell _ ?_ ?_); focus (first | omega | (simp; done) | (simp; omega))) | (with_reducible refine Below.drew ?_) | (with_reducible refine below_wideW _ ?_) | ((with_reducible refine bel_next (by assumption) ?_ ?_); focus (first | omega | (simp; done) | (simp; omega)))))⟩
        | true =>
          have hIH := isStride_any n2 false (stride_no (by simpa using hno))
          clear hno
          go_wp2_with (first | (go_at_call 53; with_reducible refine (hIW _).mono ?_; rintro e w9 ⟨rfl, rfl⟩) | (go_at_call 53; with_reducible refine (hIH _).mono ?_; rintro e w9 ⟨rfl, rfl⟩) | ((with_reducible refine at_store 39 ?_); refine wpList_store_part rfl 39 _ _ rfl _ 0 _ rfl rfl _ _ (by repeat (first | (with_reducible assumption) | ((with_reducible refine blk_new _ _ _ ?_); focus (simp; done)) | ((with_reducible refine blk_old _ _ _ ?_ ?_); focus (simp; done)) | ((with_reducible refine blk_old _ _ _ ?_ ?_); focus (first | omega | (simp; omega))) | ((with_reducible apply blk_set); focus (simp; done)) | ((with_reducible refine blk_off _ _ _ _ ?_ ?_); focus (simp; done)) | ((with_reducible refine blk_offc _ _ _ _ ?_ ?_); focus (first | (simp; done) | omega | (simp; omega))) | ((with_reducible refine blk_off _ _ _ _ ?_ ?_); focus (first | omega | (simp; omega))) | (with_reducible refine blk_drew _ _ ?_) | ((with_reducible refine blk_below (by assumption) ?_ ?_); focus (simp; done)) | ((with_reducible refine blk_below (by assumption) ?_ ?_); focus (first | omega | (simp; omega))))) (by rw [row_size]; kernel_rfl) (by simp [row_size]) (row_cells _ _ _ rfl) _ (row_over _ _ 64 _ _ (by simp)) ?_))
          refine bodyPost_ret (v := .tuple #[.agg (plate 0 0 (fun _ => 0)), .int .i64 5]) ?_ ?_ ?_
          · refine results_row_tmp Tryd.results21 _ _ _ 39 (plate 0 0 (fun _ => 0)) (0, 0) _ _ rfl rfl ?_ Tryd.underlying39 rfl (by simp only [row_size]; kernel_rfl)
            exact (by repeat (first | (with_reducible assumption) | ((with_reducible refine blk_new _ _ _ ?_); focus (simp; done)) | ((with_reducible refine blk_old _ _ _ ?_ ?_); focus (simp; done)) | ((with_reducible refine blk_old _ _ _ ?_ ?_); focus (first | omega | (simp; omega))) | ((with_reducible apply blk_set); focus (simp; done)) | ((with_reducible refine blk_off _ _ _ _ ?_ ?_); focus (simp; done)) | ((with_reducible refine blk_offc _ _ _ _ ?_ ?_); focus (first | (simp; done) | omega | (simp; omega))) | ((with_reducible refine blk_off _ _ _ _ ?_ ?_); focus (first | omega | (simp; omega))) | (with_reducible refine blk_drew _ _ ?_) | ((with_reducible refine blk_below (by assumption) ?_ ?_); focus (simp; done)) | ((with_reducible refine blk_below (by assumption) ?_ ?_); focus (first | omega | (simp; omega)))))
          · rfl
          · exact ⟨by (rw [HF.out.1, HF.out.2] <;> rfl), (by repeat (first | (with_reducible assumption) | (with_reducible exact Below.refl _ _) | ((with_reducible refine bel_alloc _ ?_ ?_); focus (first | omega | (simp; done) | (simp; omega))) | ((with_reducible refine bel_row _ ?_ ?_); focus (first | omega | (simp; done) | (simp; omega))) | ((with_reducible refine bel_cell _ ?_ ?_); focus (first | omega | (simp; done) | (simp; omega))) | (with_reducible refine Below.drew ?_) | (with_reducible refine below_wideW _ ?_) | ((with_reducible refine bel_next (by assumption) ?_ ?_); focus (first | omega | (simp; done) | (simp; omega)))))⟩
    · have HF : Hid (R = plate 0 0 (fun _ => 0) ∧ C = 5) := Lib.hid (by rw [HR.out, HC.out, head_no HS.out (fun m k h1 h2 _ _ e _ => hne m h1 h2 e)]; exact ⟨rfl, rfl⟩)
      clear hne hst2
      cases ok1 with
      | false =>
        clear hno
        go_wp2_with (first | ((with_reducible refine at_store 39 ?_); refine wpList_store_part rfl 39 _ _ rfl _ 0 _ rfl rfl _ _ (by repeat (first | (with_reducible assumption) | ((with_reducible refine blk_new _ _ _ ?_); focus (simp; done)) | ((with_reducible refine blk_old _ _ _ ?_ ?_); focus (simp; done)) | ((with_reducible refine blk_old _ _ _ ?_ ?_); focus (first | omega | (simp; omega))) | ((with_reducible apply blk_set); focus (simp; done)) | ((with_reducible refine blk_off _ _ _ _ ?_ ?_); focus (simp; done)) | ((with_reducible refine blk_offc _ _ _ _ ?_ ?_); focus (first | (simp; done) | omega | (simp; omega))) | ((with_reducible refine blk_off _ _ _ _ ?_ ?_); focus (first | omega | (simp; omega))) | (with_reducible refine blk_drew _ _ ?_) | ((with_reducible refine blk_below (by assumption) ?_ ?_); focus (simp; done)) | ((with_reducible refine blk_below (by assumption) ?_ ?_); focus (first | omega | (simp; omega))))) (by rw [row_size]; kernel_rfl) (by simp [row_size]) (row_cells _ _ _ rfl) _ (row_over _ _ 64 _ _ (by simp)) ?_))
        refine bodyPost_ret (v := .tuple #[.agg (plate 0 0 (fun _ => 0)), .int .i64 5]) ?_ ?_ ?_
        · refine results_row_tmp Tryd.results21 _ _ _ 39 (plate 0 0 (fun _ => 0)) (0, 0) _ _ rfl rfl ?_ Tryd.underlying39 rfl (by simp only [row_size]; kernel_rfl)
          exact (by repeat (first | (with_reducible assumption) | ((with_reducible refine blk_new _ _ _ ?_); focus (simp; done)) | ((with_reducible refine blk_old _ _ _ ?_ ?_); focus (simp; done)) | ((with_reducible refine blk_old _ _ _ ?_ ?_); focus (first | omega | (simp; omega))) | ((with_reducible apply blk_set); focus (simp; done)) | ((with_reducible refine blk_off _ _ _ _ ?_ ?_); focus (simp; done)) | ((with_reducible refine blk_offc _ _ _ _ ?_ ?_); focus (first | (simp; done) | omega | (simp; omega))) | ((with_reducible refine blk_off _ _ _ _ ?_ ?_); focus (first | omega | (simp; omega))) | (with_reducible refine blk_drew _ _ ?_) | ((with_reducible refine blk_below (by assumption) ?_ ?_); focus (simp; done)) | ((with_reducible refine blk_below (by assumption) ?_ ?_); focus (first | omega | (simp; omega)))))
        · rfl
        · exact ⟨by (rw [HF.out.1, HF.out.2] <;> rfl), (by repeat (first | (with_reducible assumption) | (with_reducible exact Below.refl _ _) | ((with_reducible refine bel_alloc _ ?_ ?_); focus (first | omega | (simp; done) | (simp; omega))) | ((with_reducible refine bel_row _ ?_ ?_); focus (first | omega | (simp; done) | (simp; omega))) | ((with_reducible refine bel_cell _ ?_ ?_); focus (first | omega | (simp; done) | (simp; omega))) | (with_reducible refine Below.drew ?_) | (with_reducible refine below_wideW _ ?_) | ((with_reducible refine bel_next (by assumption) ?_ ?_); focus (first | omega | (simp; done) | (simp; omega)))))⟩
      | true =>
        have hIW := isStride_any n1 false (stride_no (by simpa using hno))
        clear hno
        cases ok2 with
        | false =>
          go_wp2_with (first | (go_at_call 53; with_reducible refine (hIW _).mono ?_; rintro e w9 ⟨rfl, rfl⟩) | ((with_reducible refine at_store 39 ?_); refine wpList_store_part rfl 39 _ _ rfl _ 0 _ rfl rfl _ _ (by repeat (first | (with_reducible assumption) | ((with_reducible refine blk_new _ _ _ ?_); focus (simp; done)) | ((with_reducible refine blk_old _ _ _ ?_ ?_); focus (simp; done)) | ((with_reducible refine blk_old _ _ _ ?_ ?_); focus (first | omega | (simp; omega))) | ((with_reducible apply blk_set); focus (simp; done)) | ((with_reducible refine blk_off _ _ _ _ ?_ ?_); focus (simp; done)) | ((with_reducible refine blk_offc _ _ _ _ ?_ ?_); focus (first | (simp; done) | omega | (simp; omega))) | ((with_reducible refine blk_off _ _ _ _ ?_ ?_); focus (first | omega | (simp; omega))) | (with_reducible refine blk_drew _ _ ?_) | ((with_reducible refine blk_below (by assumption) ?_ ?_); focus (simp; done)) | ((with_reducible refine blk_below (by assumption) ?_ ?_); focus (first | omega | (simp; omega))))) (by rw [row_size]; kernel_rfl) (by simp [row_size]) (row_cells _ _ _ rfl) _ (row_over _ _ 64 _ _ (by simp)) ?_))
          refine bodyPost_ret (v := .tuple #[.agg (plate 0 0 (fun _ => 0)), .int .i64 5]) ?_ ?_ ?_
          · refine results_row_tmp Tryd.results21 _ _ _ 39 (plate 0 0 (fun _ => 0)) (0, 0) _ _ rfl rfl ?_ Tryd.underlying39 rfl (by simp only [row_size]; kernel_rfl)
            exact (by repeat (first | (with_reducible assumption) | ((with_reducible refine blk_new _ _ _ ?_); focus (simp; done)) | ((with_reducible refine blk_old _ _ _ ?_ ?_); focus (simp; done)) | ((with_reducible refine blk_old _ _ _ ?_ ?_); focus (first | omega | (simp; omega))) | ((with_reducible apply blk_set); focus (simp; done)) | ((with_reducible refine blk_off _ _ _ _ ?_ ?_); focus (simp; done)) | ((with_reducible refine blk_offc _ _ _ _ ?_ ?_); focus (first | (simp; done) | omega | (simp; omega))) | ((with_reducible refine blk_off _ _ _ _ ?_ ?_); focus (first | omega | (simp; omega))) | (with_reducible refine blk_drew _ _ ?_) | ((with_reducible refine blk_below (by assumption) ?_ ?_); focus (simp; done)) | ((with_reducible refine blk_below (by assumption) ?_ ?_); focus (first | omega | (simp; omega)))))
          · rfl
          · exact ⟨by (rw [HF.out.1, HF.out.2] <;> rfl), (by repeat (first | (with_reducible assumption) | (with_reducible exact Below.refl _ _) | ((with_reducible refine bel_alloc _ ?_ ?_); focus (first | omega | (simp; done) | (simp; omega))) | ((with_reducible refine bel_row _ ?_ ?_); focus (first | omega | (simp; done) | (simp; omega))) | ((with_reducible refine bel_cell _ ?_ ?_); focus (first | omega | (simp; done) | (simp; omega))) | (with_reducible refine Below.drew ?_) | (with_reducible refine below_wideW _ ?_) | ((with_reducible refine bel_next (by assumption) ?_ ?_); focus (first | omega | (simp; done) | (simp; omega)))))⟩
        | true =>
          go_wp2_with (first | (go_at_call 53; with_reducible refine (hIW _).mono ?_; rintro e w9 ⟨rfl, rfl⟩) | ((with_reducible refine at_store 39 ?_); refine wpList_store_part rfl 39 _ _ rfl _ 0 _ rfl rfl _ _ (by repeat (first | (with_reducible assumption) | ((with_reducible refine blk_new _ _ _ ?_); focus (simp; done)) | ((with_reducible refine blk_old _ _ _ ?_ ?_); focus (simp; done)) | ((with_reducible refine blk_old _ _ _ ?_ ?_); focus (first | omega | (simp; omega))) | ((with_reducible apply blk_set); focus (simp; done)) | ((with_reducible refine blk_off _ _ _ _ ?_ ?_); focus (simp; done)) | ((with_reducible refine blk_offc _ _ _ _ ?_ ?_); focus (first | (simp; done) | omega | (simp; omega))) | ((with_reducible refine blk_off _ _ _ _ ?_ ?_); focus (first | omega | (simp; omega))) | (with_reducible refine blk_drew _ _ ?_) | ((with_reducible refine blk_below (by assumption) ?_ ?_); focus (simp; done)) | ((with_reducible refine blk_below (by assumption) ?_ ?_); focus (first | omega | (simp; omega))))) (by rw [row_size]; kernel_rfl) (by simp [row_size]) (row_cells _ _ _ rfl) _ (row_over _ _ 64 _ _ (by simp)) ?_))
          refine bodyPost_ret (v := .tuple #[.agg (plate 0 0 (fun _ => 0)), .int .i64 5]) ?_ ?_ ?_
          · refine results_row_tmp Tryd.results21 _ _ _ 39 (plate 0 0 (fun _ => 0)) (0, 0) _ _ rfl rfl ?_ Tryd.underlying39 rfl (by simp only [row_size]; kernel_rfl)
            exact (by repeat (first | (with_reducible assumption) | ((with_reducible refine blk_new _ _ _ ?_); focus (simp; done)) | ((with_reducible refine blk_old _ _ _ ?_ ?_); focus (simp; done)) | ((with_reducible refine blk_old _ _ _ ?_ ?_); focus (first | omega | (simp; omega))) | ((with_reducible apply blk_set); focus (simp; done)) | ((with_reducible refine blk_off _ _ _ _ ?_ ?_); focus (simp; done)) | ((with_reducible refine blk_offc _ _ _ _ ?_ ?_); focus (first | (simp; done) | omega | (simp; omega))) | ((with_reducible refine blk_off _ _ _ _ ?_ ?_); focus (first | omega | (simp; omega))) | (with_reducible refine blk_drew _ _ ?_) | ((with_reducible refine blk_below (by assumption) ?_ ?_); focus (simp; done)) | ((with_reducible refine blk_below (by assumption) ?_ ?_); focus (first | omega | (simp; omega)))))
          · rfl
          · exact ⟨by (rw [HF.out.1, HF.out.2] <;> rfl), (by repeat (first | (with_reducible assumption) | (with_reducible exact Below.refl _ _) | ((with_reducible refine bel_alloc _ ?_ ?_); focus (first | omega | (simp; done) | (simp; omega))) | ((with_reducible refine bel_row _ ?_ ?_); focus (first | omega | (simp; done) | (simp; omega))) | ((with_reducible refine bel_cell _ ?_ ?_); focus (first | omega | (simp; done) | (simp; omega))) | (with_reducible refine Below.drew ?_) | (with_reducible refine below_wideW _ ?_) | ((with_reducible refine bel_next (by assumption) ?_ ?_); focus (first | omega | (simp; done) | (simp; omega)))))⟩
  · have hq : (1000 : Int) < (t.size : Int) := by omega
    have HF : Hid (R = plate 0 0 (fun _ => 0) ∧ C = 5) := Lib.hid (by rw [HR.out, HC.out, readPL_long (by omega)]; exact ⟨rfl, rfl⟩)
    clear hSp hL htab hml hMlt hLL hlen h1000
    go_enter Tryd.func21, Tryd.ntmps21
    go_wp2_with (first | ((with_reducible refine at_store 39 ?_); refine wpList_store_part rfl 39 _ _ rfl _ 0 _ rfl rfl _ _ (by repeat (first | (with_reducible assumption) | ((with_reducible refine blk_new _ _ _ ?_); focus (simp; done)) | ((with_reducible refine blk_old _ _ _ ?_ ?_); focus (simp; done)) | ((with_reducible refine blk_old _ _ _ ?_ ?_); focus (first | omega | (simp; omega))) | ((with_reducible apply blk_set); focus (simp; done)) | ((with_reducible refine blk_off _ _ _ _ ?_ ?_); focus (simp; done)) | ((with_reducible refine blk_offc _ _ _ _ ?_ ?_); focus (first | (simp; done) | omega | (simp; omega))) | ((with_reducible refine blk_off _ _ _ _ ?_ ?_); focus (first | omega | (simp; omega))) | (with_reducible refine blk_drew _ _ ?_) | ((with_reducible refine blk_below (by assumption) ?_ ?_); focus (simp; done)) | ((with_reducible refine blk_below (by assumption) ?_ ?_); focus (first | omega | (simp; omega))))) (by rw [row_size]; kernel_rfl) (by simp [row_size]) (row_cells _ _ _ rfl) _ (row_over _ _ 64 _ _ (by simp)) ?_))
    refine bodyPost_ret (v := .tuple #[.agg (plate 0 0 (fun _ => 0)), .int .i64 5]) ?_ ?_ ?_
    · refine results_row_tmp Tryd.results21 _ _ _ 39 (plate 0 0 (fun _ => 0)) (0, 0) _ _ rfl rfl ?_ Tryd.underlying39 rfl (by simp only [row_size]; kernel_rfl)
      exact (by repeat (first | (with_reducible assumption) | ((with_reducible refine blk_new _ _ _ ?_); focus (simp; done)) | ((with_reducible refine blk_old _ _ _ ?_ ?_); focus (simp; done)) | ((with_reducible refine blk_old _ _ _ ?_ ?_); focus (first | omega | (simp; omega))) | ((with_reducible apply blk_set); focus (simp; done)) | ((with_reducible refine blk_off _ _ _ _ ?_ ?_); focus (simp; done)) | ((with_reducible refine blk_offc _ _ _ _ ?_ ?_); focus (first | (simp; done) | omega | (simp; omega))) | ((with_reducible refine blk_off _ _ _ _ ?_ ?_); focus (first | omega | (simp; omega))) | (with_reducible refine blk_drew _ _ ?_) | ((with_reducible refine blk_below (by assumption) ?_ ?_); focus (simp; done)) | ((with_reducible refine blk_below (by assumption) ?_ ?_); focus (first | omega | (simp; omega)))))
    · rfl
    · exact ⟨by (rw [HF.out.1, HF.out.2] <;> rfl), (by repeat (first | (with_reducible assumption) | (with_reducible exact Below.refl _ _) | ((with_reducible refine bel_alloc _ ?_ ?_); focus (first | omega | (simp; done) | (simp; omega))) | ((with_reducible refine bel_row _ ?_ ?_); focus (first | omega | (simp; done) | (simp; omega))) | ((with_reducible refine bel_cell _ ?_ ?_); focus (first | omega | (simp; done) | (simp; omega))) | (with_reducible refine Below.drew ?_) | (with_reducible refine below_wideW _ ?_) | ((with_reducible refine bel_next (by assumption) ?_ ?_); focus (first | omega | (simp; done) | (simp; omega)))))⟩
end Go.Proofs.YtckcngmbbnilnaaDoor
