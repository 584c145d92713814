/- Parts of a proof, merged; each under its own premises. -/
import Derived.Test.YtekfmjddlemboaaGreatDoorPL
import Derived.Laws.CopyOwn
import Derived.Test.YtekfmjddlemboaaGreatDoorPK
import Derived.Test.YtekfmjddlemboaaGreatDoorPI
import Derived.Test.YtekfmjddlemboaaGreatDoorPJ
import Derived.Test.YtekfmjddlemboaaGreatDoorPH
import Derived.Test.YtekfmjddlemboaaGreatDoorPF
import Derived.Test.YtekfmjddlemboaaGreatDoorPG
import Derived.Test.YtekfmjddlemboaaGreatDoorPE

/-! The plate of a text, as the program reads it. -/
set_option linter.unusedVariables false
set_option linter.unusedSimpArgs false
namespace Go.Proofs.YtekfmjddlemboaaGreatDoor
open Go.RowKit Go.Lib

theorem isStride_any (n : Int) (b : Bool) (hb : (decide (1 ≤ n) && decide (n ≤ 8)) = b) (w : World) : Calls Tryz.prog 38 #[.int .i64 n] w fun e w' => e = .returned (.bool b) ∧ w = w' := by
  subst hb
  go_enter Tryz.func38, Tryz.ntmps38
  by_cases h1 : 1 ≤ n
  · by_cases h2 : n ≤ 8
    · go_wp2
      go_ret
      simp [h1, h2]
    · go_wp2
      go_ret
      simp [h1, h2]
  · go_wp2
    go_ret
    simp [h1]
    try omega
theorem dig_stride {l : List UInt8} {n : Int} {ok : Bool} (h1 : ok = true → l = Lib.itoa n) (h2 : ∀ m, m < 13 → l = Lib.decDigits m → ok = true ∧ n = m) : (∃ m : Nat, 1 ≤ m ∧ m < 9 ∧ n = m ∧ ok = true ∧ l = Lib.decDigits m) ∨ ((ok = false ∨ n < 1 ∨ 8 < n) ∧ ∀ m, 1 ≤ m → m < 9 → l ≠ Lib.decDigits m) := by
  by_cases h : ok = true ∧ 1 ≤ n ∧ n ≤ 8
  · left
    obtain ⟨e, a, b⟩ := h
    obtain ⟨m, rfl⟩ : ∃ m : Nat, n = m := ⟨n.toNat, by omega⟩
    exact ⟨m, by omega, by omega, rfl, e, by rw [h1 e, itoa_nonneg]⟩
  · right
    refine ⟨?_, fun m a b e => h ?_⟩
    · cases ok
      · exact Or.inl rfl
      · right; have : ¬ (1 ≤ n ∧ n ≤ 8) := fun x => h ⟨rfl, x⟩; omega
    · obtain ⟨e1, e2⟩ := h2 m (by omega) e
      exact ⟨e1, by omega, by omega⟩
theorem stride_noR {n : Int} (h : n < 1 ∨ 8 < n) : (decide (1 ≤ n) && decide (n ≤ 8)) = false := by
  rw [Bool.and_eq_false_iff]
  rcases h with h | h
  · exact Or.inl (by simp; omega)
  · exact Or.inr (by simp; omega)

set_option maxHeartbeats 4000000 in
set_option maxRecDepth 100000 in
theorem implReadPlate (t : ByteArray) (hmax : t.size ≤ 1048576) (w : World) (hL : Libs w) (htab : Lib.TabIs Tryz.prog w "internal/strconv.uint64pow10" .u64 Lib.pow10Tab) (m0 : Int) (hml : w.cell? ⟨1, 0, none⟩ = some (.int .i64 m0)) (R : Array Value) (C : Int) (hR : R = rpRow (readPL t.data.toList)) (hC : C = rpCode (readPL t.data.toList)) :
    Calls Tryz.prog 6 #[.string t] w fun e w' => e = .returned (.tuple #[.agg R, .int .i64 C]) ∧ Below w.heap.size w w' := by
  have hz : Tryz.zeroCells29 = row [.int .i8 0, .int .i8 0] 64 (fun _ => 0) := rfl
  have hlen : t.data.toList.length = t.size := by rw [Lib.size_eq]
  obtain ⟨L, hLL⟩ : ∃ L, L = t.data.toList := ⟨_, rfl⟩
  have hMlt : 1 < w.heap.size := World.block_lt_of_cell? _ _ hml
  have hSp := fun w1 (hb : Below w.heap.size w w1) => implSplit t 10 hmax w1 m0 ((hb.cell (p := ⟨1, 0, none⟩) hMlt).trans hml)
  rw [← hLL] at hR hC hlen hSp
  have HR := Lib.hid hR
  have HC := Lib.hid hC
  clear hR hC
  by_cases h1000 : t.size ≤ 1000
  · have hq : ¬ (1000 : Int) < (t.size : Int) := by omega
    obtain ⟨l0, ls, hs⟩ := splitL_cons 10 L
    have hW : splitW 10 L = ⟨l0.toArray⟩ :: ls.map fun x => ⟨x.toArray⟩ := by unfold splitW; rw [hs]; rfl
    obtain ⟨X0, hX0⟩ : ∃ X0 : ByteArray, X0 = ⟨l0.toArray⟩ := ⟨_, rfl⟩
    have hX0l : X0.data.toList = l0 := by rw [hX0]
    have hsub : ∀ x, x ∈ l0 :: ls → x.length ≤ 1048576 := fun x hx => by
      have := splitL_sub (c := 10) (l := L) (x := x) (by rw [hs]; exact hx)
      omega
    have hl0 := hsub l0 (by simp)
    obtain ⟨X, hX⟩ : ∃ X : ByteArray, X = ⟨(Lib.cut l0 [32]).1.toArray⟩ := ⟨_, rfl⟩
    obtain ⟨Y, hY⟩ : ∃ Y : ByteArray, Y = ⟨(Lib.cut l0 [32]).2.1.toArray⟩ := ⟨_, rfl⟩
    have hXl : X.data.toList = (Lib.cut l0 [32]).1 := by rw [hX]
    have hYl : Y.data.toList = (Lib.cut l0 [32]).2.1 := by rw [hY]
    have hXs : X.size ≤ 1048576 := by
      rw [hX, size_of_list]
      unfold Lib.cut
      split
      · simp; omega
      · simp; omega
    have hYs : Y.size ≤ 1048576 := by
      rw [hY, size_of_list]
      unfold Lib.cut
      split
      · simp; omega
      · simp
    have hX0s : X0.size ≤ 1048576 := by rw [hX0, size_of_list]; exact hl0
    obtain ⟨bb, hbb⟩ : ∃ bb, bb = (Lib.cut l0 [32]).2.2 := ⟨_, rfl⟩
    have hCut : ∀ w1, Below w.heap.size w w1 → Calls Tryz.prog 36 #[.string X0, .string ⟨#[32]⟩] w1 fun e w' => e = .returned (.tuple #[.string X, .string Y, .bool bb]) ∧ Below w1.heap.size w1 w' := fun w1 hb => by
      rw [hX, hY, hbb, ← hX0l]
      exact (Tryz.strings_Cut X0 ⟨#[32]⟩ m0 w1 (by omega) ((hb.cell (p := ⟨1, 0, none⟩) hMlt).trans hml)).mono fun e w' ⟨h, k, hw⟩ => ⟨h, by rw [hw]; exact below_drewN _ _⟩
    have hDX : ∀ w1, Below w.heap.size w w1 → _ := fun w1 hb => implDigit X hXs w1 (hL.on hb (Nat.le_refl _)) (Go.Joins.tab_stays (g := 4) (by kernel_rfl) htab hb (Nat.le_refl _))
    have hDY : ∀ w1, Below w.heap.size w w1 → _ := fun w1 hb => implDigit Y hYs w1 (hL.on hb (Nat.le_refl _)) (Go.Joins.tab_stays (g := 4) (by kernel_rfl) htab hb (Nat.le_refl _))
    have hNum : ∀ (Z : ByteArray), Z.size ≤ 1048576 → ∀ w1, Below w.heap.size w w1 → ∀ many, 1 ≤ many → many ≤ 14 → _ := fun Z hZ w1 hb many h1 h2 => readNumbers_any Z hZ many h1 h2 w1 (hL.on hb (Nat.le_refl _)) m0 ((hb.cell (p := ⟨1, 0, none⟩) hMlt).trans hml)
    rw [hXl] at hDX
    rw [hYl] at hDY
    rw [hW, ← hX0] at hSp
    obtain ⟨nl, hnl⟩ : ∃ nl, nl = ls.length := ⟨_, rfl⟩
    have hnl20 : nl ≤ 1048577 := by
      have h1 := splitL_lt 10 L
      rw [hs] at h1
      simp at h1
      omega
    have HNL := Lib.hid hnl
    have HS := Lib.hid hs
    have HSUB := Lib.hid hsub
    have HN := Lib.hid hNum
    clear hs hX hY hXl hYl hlen hXs hYs hbb hL htab hml hMlt hLL hNum hl0 hsub hW hX0l hX0s
    go_enter Tryz.func6, Tryz.ntmps6
    go_wp2_with fail
    (try go_at_call 35)
    with_reducible refine calls_args (b := #[.string t, .string ⟨#[10]⟩]) (by kernel_rfl) ?_
    with_reducible refine (hSp _ (Below.alloc (Below.refl _ w) (Nat.le_refl _) _)).mono ?_
    rintro e w1 ⟨⟨v, rfl, g, cap, cs, rfl, hg, hcs1, hat⟩, hb1⟩
    rw [List.length_cons, List.length_map, ← hnl]
    obtain ⟨N3, hN3⟩ : ∃ N3, N3 = nl + 1 := ⟨_, rfl⟩
    rw [← hN3]
    have hN3p : (0 : Int) < (N3 : Int) := by omega
    have HN3 := Lib.hid hN3
    clear hN3
    have c0 : w1.cell? ⟨g, 0, none⟩ = some (.string X0) := (cell_of_row w1 g 0 _ _ _ hcs1).trans (hat 0 X0 rfl)
    have hatw : ∀ (k : Nat) (x : List UInt8), ls[k]? = some x → cs[k + 1]? = some (.string ⟨x.toArray⟩) := fun k x hx => hat (k + 1) _ (by rw [List.getElem?_cons_succ, List.getElem?_map, hx]; rfl)
    have HAT := Lib.hid hatw
    have hz1 : w.heap.size + 1 ≤ w1.heap.size := by have := hb1.size; simpa using this
    have hgz : w.heap.size + 1 ≤ g := by simpa using hg
    have hgl1 : g < w1.heap.size := World.block_lt_of_cell? _ _ c0
    have hblk1 : w1.heap[w.heap.size]? = some (.cells (plate 0 0 (fun _ => 0)) 29 (0, 0)) := blk_below hb1 (by simp) (by repeat (first | (with_reducible assumption) | ((with_reducible refine blk_new _ _ _ ?_); focus (simp; done)) | ((with_reducible refine blk_old _ _ _ ?_ ?_); focus (simp; done)) | ((with_reducible refine blk_old _ _ _ ?_ ?_); focus (first | omega | (simp; omega))) | ((with_reducible apply blk_set); focus (simp; done)) | ((with_reducible refine blk_off _ _ _ _ ?_ ?_); focus (simp; done)) | ((with_reducible refine blk_offc _ _ _ _ ?_ ?_); focus (first | (simp; done) | omega | (simp; omega))) | ((with_reducible refine blk_off _ _ _ _ ?_ ?_); focus (first | omega | (simp; omega))) | (with_reducible refine blk_drew _ _ ?_) | ((with_reducible refine blk_below (by assumption) ?_ ?_); focus (simp; done)) | ((with_reducible refine blk_below (by assumption) ?_ ?_); focus (first | omega | (simp; omega)))))
    have B1 : Below w.heap.size w w1 := (Below.alloc (Below.refl _ w) (Nat.le_refl _) _).trans (hb1.mono (by simp))
    clear hat hSp hg hb1 hnl hatw hX0
    go_wp2_with fail
    (try go_at_call 36)
    with_reducible refine calls_args (b := #[.string X0, .string ⟨#[32]⟩]) (by kernel_rfl) ?_
    with_reducible refine (hCut _ B1).mono ?_
    rintro e w2 ⟨rfl, hb2⟩
    have B2 : Below w.heap.size w w2 := B1.trans (hb2.mono B1.size)
    have hblk2 : w2.heap[w.heap.size]? = some (.cells (plate 0 0 (fun _ => 0)) 29 (0, 0)) := blk_below hb2 (by omega) hblk1
    have hz2 : w.heap.size + 1 ≤ w2.heap.size := by have := hb2.size; omega
    have hgl2 : g < w2.heap.size := by have := hb2.size; omega
    have hcs2 : w2.heap[g]? = some (.cells cs 9 (0, 0)) := (hb2.block g hgl1).trans hcs1
    clear hb2 hblk1 hz1 hgl1 hcs1 c0 B1 hCut
    go_wp2_with fail
    (try go_at_call 37)
    with_reducible refine (hDX _ B2).mono ?_
    rintro e w3 ⟨⟨v, rfl, n1, ok1, rfl, q1, q2⟩, hb3⟩
    have B3 : Below w.heap.size w w3 := B2.trans (hb3.mono B2.size)
    have hblk3 : w3.heap[w.heap.size]? = some (.cells (plate 0 0 (fun _ => 0)) 29 (0, 0)) := blk_below hb3 (by omega) hblk2
    have hz3 : w.heap.size + 1 ≤ w3.heap.size := by have := hb3.size; omega
    have hgl3 : g < w3.heap.size := by have := hb3.size; omega
    have hcs3 : w3.heap[g]? = some (.cells cs 9 (0, 0)) := (hb3.block g hgl2).trans hcs2
    have hst1 := dig_stride q1 q2
    clear q1 q2 hb3 hblk2 hz2 hgl2 hcs2 B2 hDX
    go_wp2_with fail
    (try go_at_call 37)
    with_reducible refine (hDY _ B3).mono ?_
    rintro e w4 ⟨⟨v, rfl, n2, ok2, rfl, q1, q2⟩, hb4⟩
    have B4 : Below w.heap.size w w4 := B3.trans (hb4.mono B3.size)
    have hblk4 : w4.heap[w.heap.size]? = some (.cells (plate 0 0 (fun _ => 0)) 29 (0, 0)) := blk_below hb4 (by omega) hblk3
    have hz4 : w.heap.size + 1 ≤ w4.heap.size := by have := hb4.size; omega
    have hgl4 : g < w4.heap.size := by have := hb4.size; omega
    have hcs4 : w4.heap[g]? = some (.cells cs 9 (0, 0)) := (hb4.block g hgl3).trans hcs3
    have hst2 := dig_stride q1 q2
    clear q1 q2 hb4 hblk3 hz3 hgl3 hcs3 B3 hDY
    rcases hst1 with ⟨wd, hw1, hw9, rfl, rfl, hwx⟩ | ⟨hno, hne⟩
    · have hIW := isStride_any (wd : Int) true (by simp; omega)
      rcases hst2 with ⟨hg, hh1, hh9, rfl, rfl, hwy⟩ | ⟨hno, hne⟩
      · have hIH := isStride_any (hg : Int) true (by simp; omega)
        have hw2 : IntKind.i64.wrap ((hg : Int) + 2) = (hg : Int) + 2 := by rw [IntKind.wrap_i64]; omega
        have hwp1 : IntKind.i64.wrap ((hg : Int) + 1) = (hg : Int) + 1 := by rw [IntKind.wrap_i64]; omega
        have hhead := head_yes (by omega) (by omega) hwx hwy
        have hnA := numOf_dec wd (by omega)
        have hnB := numOf_dec hg (by omega)
        have HH := Lib.hid hhead
        have HNA := Lib.hid hnA
        have HNB := Lib.hid hnB
        clear hwx hwy hhead hnA hnB
        by_cases hnum : nl = hg + 1
        · subst hnum
          have hN3i : (N3 : Int) = (hg : Int) + 2 := by have := HN3.out; omega
          obtain ⟨lx, hlx⟩ : ∃ lx, ls[hg]? = some lx := ⟨_, List.getElem?_eq_getElem (by have := HNL.out; omega)⟩
          have cl : w4.cell? ⟨g, hg + 1, none⟩ = some (.string ⟨lx.toArray⟩) := (cell_of_row w4 g (hg + 1) _ _ _ hcs4).trans (HAT.out hg lx hlx)
          have ih1 : (hg : Int) + 1 < (hg : Int) + 2 := by omega
          by_cases hlast : lx = []
          · subst hlast
            replace cl : w4.cell? ⟨g, hg + 1, none⟩ = some (.string ⟨#[]⟩) := cl
            have HLX := Lib.hid hlx
            clear hlx
            have hw8w : IntKind.i8.wrap (wd : Int) = wd := by simp [IntKind.wrap, IntKind.signed, IntKind.bits]; omega
            have hw8h : IntKind.i8.wrap (hg : Int) = hg := by simp [IntKind.wrap, IntKind.signed, IntKind.bits]; omega
            go_wp2_with (first | (go_at_call 38; with_reducible refine (hIW _).mono ?_; rintro e w9 ⟨rfl, rfl⟩) | (go_at_call 38; with_reducible refine (hIH _).mono ?_; rintro e w9 ⟨rfl, rfl⟩) | ((with_reducible refine at_store 29 ?_); refine wpList_store_part rfl 29 _ _ rfl _ 0 _ rfl rfl _ _ (by repeat (first | (with_reducible assumption) | ((with_reducible refine blk_new _ _ _ ?_); focus (simp; done)) | ((with_reducible refine blk_old _ _ _ ?_ ?_); focus (simp; done)) | ((with_reducible refine blk_old _ _ _ ?_ ?_); focus (first | omega | (simp; omega))) | ((with_reducible apply blk_set); focus (simp; done)) | ((with_reducible refine blk_off _ _ _ _ ?_ ?_); focus (simp; done)) | ((with_reducible refine blk_offc _ _ _ _ ?_ ?_); focus (first | (simp; done) | omega | (simp; omega))) | ((with_reducible refine blk_off _ _ _ _ ?_ ?_); focus (first | omega | (simp; omega))) | (with_reducible refine blk_drew _ _ ?_) | ((with_reducible refine blk_below (by assumption) ?_ ?_); focus (simp; done)) | ((with_reducible refine blk_below (by assumption) ?_ ?_); focus (first | omega | (simp; omega))))) (by rw [row_size]; kernel_rfl) (by simp [row_size]) (row_cells _ _ _ rfl) _ (row_over _ _ 64 _ _ (by simp)) ?_))
            have hbN : Below w.heap.size w w4 := B4
            refine wp_nm (S := fun W => W.heap[w.heap.size]? = some (.cells (plate 0 0 (fun _ => 0)) 29 (0, 0)) ∧ W.heap[w4.heap.size]? = some (.cells (plate wd hg (fun _ => 0)) 29 (0, 0)) ∧ W.heap[g]? = some (.cells cs 9 (0, 0)) ∧ Below w.heap.size w W ∧ w4.heap.size + 1 ≤ W.heap.size) ⟨(by repeat (first | (with_reducible assumption) | ((with_reducible refine blk_new _ _ _ ?_); focus (simp; done)) | ((with_reducible refine blk_old _ _ _ ?_ ?_); focus (simp; done)) | ((with_reducible refine blk_old _ _ _ ?_ ?_); focus (first | omega | (simp; omega))) | ((with_reducible apply blk_set); focus (simp; done)) | ((with_reducible refine blk_off _ _ _ _ ?_ ?_); focus (simp; done)) | ((with_reducible refine blk_offc _ _ _ _ ?_ ?_); focus (first | (simp; done) | omega | (simp; omega))) | ((with_reducible refine blk_off _ _ _ _ ?_ ?_); focus (first | omega | (simp; omega))) | (with_reducible refine blk_drew _ _ ?_) | ((with_reducible refine blk_below (by assumption) ?_ ?_); focus (simp; done)) | ((with_reducible refine blk_below (by assumption) ?_ ?_); focus (first | omega | (simp; omega))))), (by repeat (first | (with_reducible assumption) | ((with_reducible refine blk_new _ _ _ ?_); focus (simp; done)) | ((with_reducible refine blk_old _ _ _ ?_ ?_); focus (simp; done)) | ((with_reducible refine blk_old _ _ _ ?_ ?_); focus (first | omega | (simp; omega))) | ((with_reducible apply blk_set); focus (simp; done)) | ((with_reducible refine blk_off _ _ _ _ ?_ ?_); focus (simp; done)) | ((with_reducible refine blk_offc _ _ _ _ ?_ ?_); focus (first | (simp; done) | omega | (simp; omega))) | ((with_reducible refine blk_off _ _ _ _ ?_ ?_); focus (first | omega | (simp; omega))) | (with_reducible refine blk_drew _ _ ?_) | ((with_reducible refine blk_below (by assumption) ?_ ?_); focus (simp; done)) | ((with_reducible refine blk_below (by assumption) ?_ ?_); focus (first | omega | (simp; omega))))), (by repeat (first | (with_reducible assumption) | ((with_reducible refine blk_new _ _ _ ?_); focus (simp; done)) | ((with_reducible refine blk_old _ _ _ ?_ ?_); focus (simp; done)) | ((with_reducible refine blk_old _ _ _ ?_ ?_); focus (first | omega | (simp; omega))) | ((with_reducible apply blk_set); focus (simp; done)) | ((with_reducible refine blk_off _ _ _ _ ?_ ?_); focus (simp; done)) | ((with_reducible refine blk_offc _ _ _ _ ?_ ?_); focus (first | (simp; done) | omega | (simp; omega))) | ((with_reducible refine blk_off _ _ _ _ ?_ ?_); focus (first | omega | (simp; omega))) | (with_reducible refine blk_drew _ _ ?_) | ((with_reducible refine blk_below (by assumption) ?_ ?_); focus (simp; done)) | ((with_reducible refine blk_below (by assumption) ?_ ?_); focus (first | omega | (simp; omega))))), (by repeat (first | (with_reducible assumption) | (with_reducible exact Below.refl _ _) | ((with_reducible refine bel_alloc _ ?_ ?_); focus (first | omega | (simp; done) | (simp; omega))) | ((with_reducible refine bel_row _ ?_ ?_); focus (first | omega | (simp; done) | (simp; omega))) | ((with_reducible refine bel_cell _ ?_ ?_); focus (first | omega | (simp; done) | (simp; omega))) | (with_reducible refine Below.drew ?_) | (with_reducible refine below_wideW _ ?_) | ((with_reducible refine bel_next (by assumption) ?_ ?_); focus (first | omega | (simp; done) | (simp; omega))))), (by first | omega | (simp; done) | (simp; omega) | (simp at *; omega))⟩ ?_
            rintro W ⟨e1, e2, e3, e4, e5⟩
            obtain ⟨b7, hb7⟩ : ∃ b7, b7 = w4.heap.size := ⟨_, rfl⟩
            have hgb : g < b7 := by omega
            have hwb : w.heap.size < b7 := by omega
            rw [← hb7] at e2 e5 ⊢
            replace e2 : W.heap[b7]? = some (.cells (plate wd hg (plF [])) 29 (0, 0)) := by rw [plF_zero]; exact e2
            clear hbN B4 hblk4 hcs4 hb7 hz4 hgl4 cl hIW hIH
            go_loopw [78] (fun vi wr => ∃ (k : Nat) (G : List (List Nat)), k ≤ hg ∧ vi = .int .i64 k ∧ wr.heap[w.heap.size]? = some (.cells (plate 0 0 (fun _ => 0)) 29 (0, 0)) ∧ wr.heap[b7]? = some (.cells (plate wd hg (plF G)) 29 (0, 0)) ∧ wr.heap[g]? = some (.cells cs 9 (0, 0)) ∧ Below w.heap.size w wr ∧ b7 + 1 ≤ wr.heap.size ∧ Hid (readRows wd (ls.take k) = some G ∧ G.length = k)) (fun vi _ => 9 - (RowKit.intOf vi).toNat)
            case atStart => exact ⟨0, [], by omega, rfl, e1, e2, e3, e4, e5, Lib.hid ⟨rfl, rfl⟩⟩
            case round =>
              clear e1 e2 e3 e4 e5
              obtain ⟨k, G, hk, rfl, e1, e2, e3, e4, e5, hh⟩ := hrel
              have wk1 : IntKind.i64.wrap ((k : Int) + 1) = (k : Int) + 1 := by rw [IntKind.wrap_i64]; omega
              by_cases hlt : k < hg
              · have hkl : k < ls.length := by have := HNL.out; omega
                obtain ⟨x, hx⟩ : ∃ x, ls[k]? = some x := ⟨_, List.getElem?_eq_getElem hkl⟩
                obtain ⟨Z, hZe⟩ : ∃ Z : ByteArray, Z = ⟨x.toArray⟩ := ⟨_, rfl⟩
                have hZl : Z.data.toList = x := by rw [hZe]
                have hZs : Z.size ≤ 1048576 := by rw [hZe, size_of_list]; exact HSUB.out x (by simp [List.mem_of_getElem? hx])
                have cX : wr.cell? ⟨g, k + 1, none⟩ = some (.string Z) := (cell_of_row wr g (k + 1) _ _ _ e3).trans (by rw [hZe]; exact HAT.out k x hx)
                have hNu := HN.out Z hZs wr e4 wd hw1 (by omega)
                rw [hZl] at hNu
                have HX := Lib.hid hx
                have i1 : (k : Int) + 1 < (hg : Int) + 2 := by omega
                have i2 : (k : Int) < (hg : Int) := by omega
                clear hx hZe hZl hZs hkl
                go_wp2_with fail
                (try go_at_call 39)
                with_reducible refine hNu.mono ?_
                rintro e w3 ⟨⟨v, rfl, hv⟩, hb3⟩
                have hz3 : wr.heap.size ≤ w3.heap.size := hb3.size
                have f1 : w3.heap[w.heap.size]? = some (.cells (plate 0 0 (fun _ => 0)) 29 (0, 0)) := blk_below hb3 (by omega) e1
                have f2 : w3.heap[b7]? = some (.cells (plate wd hg (plF G)) 29 (0, 0)) := blk_below hb3 (by omega) e2
                have f3 : w3.heap[g]? = some (.cells cs 9 (0, 0)) := blk_below hb3 (by omega) e3
                have f4 : Below w.heap.size w w3 := e4.trans (hb3.mono (by omega))
                clear e1 e2 e3 e4 hb3 hNu cX
                cases hq : numsOf x wd with
                | none =>
                  have HF : Hid (R = plate 0 0 (fun _ => 0) ∧ C = 5) := Lib.hid (by rw [HR.out, HC.out, readPL_row HS.out HH.out HNA.out HNB.out hlt HX.out (Or.inl hq)]; exact ⟨rfl, rfl⟩)
                  rw [hq] at hv
                  obtain ⟨sl, rfl⟩ : ∃ sl, v = .tuple #[sl, .bool false] := hv
                  clear hq hh
                  go_wp2_with (first | ((with_reducible refine at_store 29 ?_); refine wpList_store_part rfl 29 _ _ rfl _ 0 _ rfl rfl _ _ (by repeat (first | (with_reducible assumption) | ((with_reducible refine blk_new _ _ _ ?_); focus (simp; done)) | ((with_reducible refine blk_old _ _ _ ?_ ?_); focus (simp; done)) | ((with_reducible refine blk_old _ _ _ ?_ ?_); focus (first | omega | (simp; omega))) | ((with_reducible apply blk_set); focus (simp; done)) | ((with_reducible refine blk_off _ _ _ _ ?_ ?_); focus (simp; done)) | ((with_reducible refine blk_offc _ _ _ _ ?_ ?_); focus (first | (simp; done) | omega | (simp; omega))) | ((with_reducible refine blk_off _ _ _ _ ?_ ?_); focus (first | omega | (simp; omega))) | (with_reducible refine blk_drew _ _ ?_) | ((with_reducible refine blk_below (by assumption) ?_ ?_); focus (simp; done)) | ((with_reducible refine blk_below (by assumption) ?_ ?_); focus (first | omega | (simp; omega))))) (by rw [row_size]; kernel_rfl) (by simp [row_size]) (row_cells _ _ _ rfl) _ (row_over _ _ 64 _ _ (by simp)) ?_))
                  refine bodyPost_ret (v := .tuple #[.agg (plate 0 0 (fun _ => 0)), .int .i64 5]) ?_ ?_ ?_
                  · refine results_row_tmp Tryz.results6 _ _ _ 29 (plate 0 0 (fun _ => 0)) (0, 0) _ _ rfl rfl ?_ Tryz.underlying29 rfl (by simp only [row_size]; kernel_rfl)
                    exact (by repeat (first | (with_reducible assumption) | ((with_reducible refine blk_new _ _ _ ?_); focus (simp; done)) | ((with_reducible refine blk_old _ _ _ ?_ ?_); focus (simp; done)) | ((with_reducible refine blk_old _ _ _ ?_ ?_); focus (first | omega | (simp; omega))) | ((with_reducible apply blk_set); focus (simp; done)) | ((with_reducible refine blk_off _ _ _ _ ?_ ?_); focus (simp; done)) | ((with_reducible refine blk_offc _ _ _ _ ?_ ?_); focus (first | (simp; done) | omega | (simp; omega))) | ((with_reducible refine blk_off _ _ _ _ ?_ ?_); focus (first | omega | (simp; omega))) | (with_reducible refine blk_drew _ _ ?_) | ((with_reducible refine blk_below (by assumption) ?_ ?_); focus (simp; done)) | ((with_reducible refine blk_below (by assumption) ?_ ?_); focus (first | omega | (simp; omega)))))
                  · rfl
                  · exact ⟨by (rw [HF.out.1, HF.out.2] <;> rfl), (by repeat (first | (with_reducible assumption) | (with_reducible exact Below.refl _ _) | ((with_reducible refine bel_alloc _ ?_ ?_); focus (first | omega | (simp; done) | (simp; omega))) | ((with_reducible refine bel_row _ ?_ ?_); focus (first | omega | (simp; done) | (simp; omega))) | ((with_reducible refine bel_cell _ ?_ ?_); focus (first | omega | (simp; done) | (simp; omega))) | (with_reducible refine Below.drew ?_) | (with_reducible refine below_wideW _ ?_) | ((with_reducible refine bel_next (by assumption) ?_ ?_); focus (first | omega | (simp; done) | (simp; omega)))))⟩
                | some r =>
                  have hrl := (numsOf_len hq).2.1
                  rw [hq] at hv
                  obtain ⟨sl, rfl, hown⟩ : ∃ sl, v = .tuple #[sl, .bool true] ∧ w3.ownsRow wr.heap.size 25 1 sl wd (r.map (Value.float .f32)) := hv
                  rcases hown.2 with ⟨_, h0⟩ | ⟨gn, capn, cur, rfl, hgn, hgh, hcap, hmx, hcs9, htk⟩
                  · exact absurd h0 (by omega)
                  rw [Nat.mul_one] at htk hcs9
                  have HN2 : Hid (readRows wd (ls.take (k + 1)) = some (G ++ [r]) ∧ (G ++ [r]).length = k + 1) := Lib.hid ⟨by rw [readRows_take hh.out.1 HX.out, hq]; rfl, by simp [hh.out.2]⟩
                  have hsrc : ∀ j v, (r.map (Value.float .f32))[j]? = some v → w3.cell? ⟨gn, j, none⟩ = some v := fun j v hj => by
                    have hjm : j < wd := by
                      have := (List.getElem?_eq_some_iff.1 hj).1
                      simp at this
                      omega
                    refine (cell_of_row w3 gn j _ _ _ hgh).trans ?_
                    rw [← Array.getElem?_toList, ← hj, ← htk, List.getElem?_take, if_pos hjm]
                  have hsp : (splice (plate wd hg (plF G)).toList (2 + 8 * k) (r.map (Value.float .f32))).toArray = plate wd hg (plF (G ++ [r])) := by
                    have h := row_paste (ppre wd hg) 64 (plF G) (8 * k) r (by omega)
                    refine h.trans ?_
                    rw [plF_row G r (by omega), hh.out.2]
                  have hlen3 : (r.map (Value.float .f32)).length = wd := by rw [List.length_map, hrl]
                  have hone : ∀ v ∈ r.map (Value.float .f32), v.oneCell' = true := by
                    intro v hv
                    obtain ⟨y, _, rfl⟩ := List.mem_map.1 hv
                    rfl
                  obtain ⟨xs, hxs⟩ : ∃ xs, xs = r.map (Value.float .f32) := ⟨_, rfl⟩
                  rw [← hxs] at hsrc hsp hlen3 hone
                  have hsl : ∀ w', (Instr.sliceAt 27 (.pointer (some ⟨b7, 2, none⟩)) (some (.int .i64 (8 * (k : Int)))) none none).run Tryz.prog w' = .ok (.slice (some ⟨b7, 2 + 8 * k, none⟩) (64 - 8 * k) (64 - 8 * k)) w' := fun w' => by
                    have h := run_sliceAt_l (P := Tryz.prog) w' 27 25 64 b7 2 Tryz.underlying27 (by kernel_rfl) .i64 (8 * k) (by omega)
                    rw [show (8 * (k : Int)) = ((8 * k : Nat) : Int) by omega]
                    exact h
                  have wm : IntKind.i64.wrap (8 * (k : Int)) = 8 * (k : Int) := by rw [IntKind.wrap_i64]; omega
                  have hcp : (Builtin.copy_ #[64, 64] 3 #[.slice (some ⟨b7, 2 + 8 * k, none⟩) (64 - 8 * k) (64 - 8 * k), .slice (some ⟨gn, 0, none⟩) wd capn]).run Tryz.prog w3 = .ok (goInt wd) (w3.setRow b7 (plate wd hg (plF (G ++ [r])))) := by
                    have h := run_copy_row (P := Tryz.prog) w3 64 64 3 25 b7 (2 + 8 * k) (64 - 8 * k) (64 - 8 * k) ⟨gn, 0, none⟩ wd capn (plate wd hg (plF G)) 29 xs Tryz.underlying64 (by kernel_rfl) f2 (by rw [hlen3]; exact (Nat.min_eq_left (by omega)).symm) (fun j v hj => by rw [show ((⟨gn, 0, none⟩ : Addr).add j) = ⟨gn, j, none⟩ from by cases j <;> simp [Addr.add]]; exact hsrc j v hj) (by rw [hlen3, row_size]; simp; omega) hone
                    rw [hlen3, List.append_assoc] at h
                    rw [h, ← hsp]
                    unfold splice
                    rw [hlen3]
                  have g1 : (w3.setRow b7 (plate wd hg (plF (G ++ [r])))).heap[w.heap.size]? = some (.cells (plate 0 0 (fun _ => 0)) 29 (0, 0)) := (setRow_other w3 b7 _ _ (by omega)).trans f1
                  have g2 : (w3.setRow b7 (plate wd hg (plF (G ++ [r])))).heap[b7]? = some (.cells (plate wd hg (plF (G ++ [r]))) 29 (0, 0)) := setRow_heap w3 b7 _ _ _ _ f2
                  have g3 : (w3.setRow b7 (plate wd hg (plF (G ++ [r])))).heap[g]? = some (.cells cs 9 (0, 0)) := (setRow_other w3 b7 _ _ (by omega)).trans f3
                  have g4 : Below w.heap.size w (w3.setRow b7 (plate wd hg (plF (G ++ [r])))) := bel_row _ (by omega) f4
                  have g5 : b7 + 1 ≤ (w3.setRow b7 (plate wd hg (plF (G ++ [r])))).heap.size := by rw [size_setRow]; omega
                  clear hq hh hown hgn hgh hcap hmx hcs9 htk hsp hsrc hlen3 hone hxs hrl f1 f2 f3 f4
                  generalize w3.setRow b7 (plate wd hg (plF (G ++ [r]))) = w5 at hcp g1 g2 g3 g4 g5
                  go_wp2
                  refine ⟨⟨k + 1, G ++ [r], by omega, by (first | rfl | (simp; done) | (simp; omega)), g1, g2, g3, g4, g5, HN2⟩, ?_⟩
                  simp [RowKit.intOf]
                  try omega
              · obtain rfl : k = hg := by omega
                have i2 : ¬ ((k : Int) < (k : Int)) := by omega
                have hc : (1 ≤ wd ∧ wd < 9) ∧ (1 ≤ k ∧ k < 9) ∧ ls.length = k + 1 ∧ ls.getD k [] = [] := by
                  refine ⟨⟨hw1, hw9⟩, ⟨hh1, hh9⟩, HNL.out.symm, ?_⟩
                  simp [List.getD, HLX.out]
                have hRC : ∀ b, plateB wd k (plF G) = b → R = (if b then plate wd k (plF G) else plate 0 0 (fun _ => 0)) ∧ C = (if b then 0 else 5) := by
                  intro b hb
                  rw [HR.out, HC.out, readPL_of HS.out HH.out HNA.out HNB.out, if_pos hc, hh.out.1]
                  show rpRow (if plateB wd k (plF G) then _ else _) = _ ∧ rpCode (if plateB wd k (plF G) then _ else _) = _
                  rw [hb]
                  cases b
                  · exact ⟨rfl, rfl⟩
                  · exact ⟨rfl, rfl⟩
                clear hh hc
                generalize plF G = fF at hRC e2
                have HRC := Lib.hid hRC
                clear hRC
                cases hv : plateB wd k fF with
                | false =>
                  have HF : Hid (R = plate 0 0 (fun _ => 0) ∧ C = 5) := Lib.hid (HRC.out false hv)
                  go_wp2_with (first | (go_at_call 16; (with_reducible refine (implPOk_any (wd : Int) (k : Int) fF _ (by omega) (by omega) (by omega) (by omega)).mono ?_); rintro e w7 ⟨rfl, hb7⟩; rw [hv]; have hz7 := hb7.size; (try simp at hz7); obtain ⟨hc7, hf7⟩ := bcell hb7) | ((with_reducible refine at_load 29 ?_); refine wpList_load_part rfl 29 _ rfl _ 0 66 rfl _ _ _ _ (by repeat (first | (with_reducible assumption) | ((with_reducible refine blk_new _ _ _ ?_); focus (simp; done)) | ((with_reducible refine blk_old _ _ _ ?_ ?_); focus (simp; done)) | ((with_reducible refine blk_old _ _ _ ?_ ?_); focus (first | omega | (simp; omega))) | ((with_reducible apply blk_set); focus (simp; done)) | ((with_reducible refine blk_off _ _ _ _ ?_ ?_); focus (simp; done)) | ((with_reducible refine blk_offc _ _ _ _ ?_ ?_); focus (first | (simp; done) | omega | (simp; omega))) | ((with_reducible refine blk_off _ _ _ _ ?_ ?_); focus (first | omega | (simp; omega))) | (with_reducible refine blk_drew _ _ ?_) | ((with_reducible refine blk_below (by assumption) ?_ ?_); focus (simp; done)) | ((with_reducible refine blk_below (by assumption) ?_ ?_); focus (first | omega | (simp; omega))))) Tryz.underlying29 rfl (by kernel_rfl) (by simp [row_size]) _ (row_all [_, _] 64 _) ?_) | ((with_reducible refine at_store 29 ?_); refine wpList_store_part rfl 29 _ _ rfl _ 0 _ rfl rfl _ _ (by repeat (first | (with_reducible assumption) | ((with_reducible refine blk_new _ _ _ ?_); focus (simp; done)) | ((with_reducible refine blk_old _ _ _ ?_ ?_); focus (simp; done)) | ((with_reducible refine blk_old _ _ _ ?_ ?_); focus (first | omega | (simp; omega))) | ((with_reducible apply blk_set); focus (simp; done)) | ((with_reducible refine blk_off _ _ _ _ ?_ ?_); focus (simp; done)) | ((with_reducible refine blk_offc _ _ _ _ ?_ ?_); focus (first | (simp; done) | omega | (simp; omega))) | ((with_reducible refine blk_off _ _ _ _ ?_ ?_); focus (first | omega | (simp; omega))) | (with_reducible refine blk_drew _ _ ?_) | ((with_reducible refine blk_below (by assumption) ?_ ?_); focus (simp; done)) | ((with_reducible refine blk_below (by assumption) ?_ ?_); focus (first | omega | (simp; omega))))) (by rw [row_size]; kernel_rfl) (by simp [row_size]) (row_cells _ _ _ rfl) _ (row_over _ _ 64 _ _ (by simp)) ?_))
                  refine bodyPost_ret (v := .tuple #[.agg (plate 0 0 (fun _ => 0)), .int .i64 5]) ?_ ?_ ?_
                  · refine results_row_tmp Tryz.results6 _ _ _ 29 (plate 0 0 (fun _ => 0)) (0, 0) _ _ rfl rfl ?_ Tryz.underlying29 rfl (by simp only [row_size]; kernel_rfl)
                    exact (by repeat (first | (with_reducible assumption) | ((with_reducible refine blk_new _ _ _ ?_); focus (simp; done)) | ((with_reducible refine blk_old _ _ _ ?_ ?_); focus (simp; done)) | ((with_reducible refine blk_old _ _ _ ?_ ?_); focus (first | omega | (simp; omega))) | ((with_reducible apply blk_set); focus (simp; done)) | ((with_reducible refine blk_off _ _ _ _ ?_ ?_); focus (simp; done)) | ((with_reducible refine blk_offc _ _ _ _ ?_ ?_); focus (first | (simp; done) | omega | (simp; omega))) | ((with_reducible refine blk_off _ _ _ _ ?_ ?_); focus (first | omega | (simp; omega))) | (with_reducible refine blk_drew _ _ ?_) | ((with_reducible refine blk_below (by assumption) ?_ ?_); focus (simp; done)) | ((with_reducible refine blk_below (by assumption) ?_ ?_); focus (first | omega | (simp; omega)))))
                  · rfl
                  · exact ⟨by (rw [HF.out.1, HF.out.2] <;> rfl), (by repeat (first | (with_reducible assumption) | (with_reducible exact Below.refl _ _) | ((with_reducible refine bel_alloc _ ?_ ?_); focus (first | omega | (simp; done) | (simp; omega))) | ((with_reducible refine bel_row _ ?_ ?_); focus (first | omega | (simp; done) | (simp; omega))) | ((with_reducible refine bel_cell _ ?_ ?_); focus (first | omega | (simp; done) | (simp; omega))) | (with_reducible refine Below.drew ?_) | (with_reducible refine below_wideW _ ?_) | ((with_reducible refine bel_next (by assumption) ?_ ?_); focus (first | omega | (simp; done) | (simp; omega)))))⟩
                | true =>
                  have HF : Hid (R = plate wd k fF ∧ C = 0) := Lib.hid (HRC.out true hv)
                  go_wp2_with (first | (go_at_call 16; (with_reducible refine (implPOk_any (wd : Int) (k : Int) fF _ (by omega) (by omega) (by omega) (by omega)).mono ?_); rintro e w7 ⟨rfl, hb7⟩; rw [hv]; have hz7 := hb7.size; (try simp at hz7); obtain ⟨hc7, hf7⟩ := bcell hb7) | ((with_reducible refine at_load 29 ?_); refine wpList_load_part rfl 29 _ rfl _ 0 66 rfl _ _ _ _ (by repeat (first | (with_reducible assumption) | ((with_reducible refine blk_new _ _ _ ?_); focus (simp; done)) | ((with_reducible refine blk_old _ _ _ ?_ ?_); focus (simp; done)) | ((with_reducible refine blk_old _ _ _ ?_ ?_); focus (first | omega | (simp; omega))) | ((with_reducible apply blk_set); focus (simp; done)) | ((with_reducible refine blk_off _ _ _ _ ?_ ?_); focus (simp; done)) | ((with_reducible refine blk_offc _ _ _ _ ?_ ?_); focus (first | (simp; done) | omega | (simp; omega))) | ((with_reducible refine blk_off _ _ _ _ ?_ ?_); focus (first | omega | (simp; omega))) | (with_reducible refine blk_drew _ _ ?_) | ((with_reducible refine blk_below (by assumption) ?_ ?_); focus (simp; done)) | ((with_reducible refine blk_below (by assumption) ?_ ?_); focus (first | omega | (simp; omega))))) Tryz.underlying29 rfl (by kernel_rfl) (by simp [row_size]) _ (row_all [_, _] 64 _) ?_) | ((with_reducible refine at_store 29 ?_); refine wpList_store_part rfl 29 _ _ rfl _ 0 _ rfl rfl _ _ (by repeat (first | (with_reducible assumption) | ((with_reducible refine blk_new _ _ _ ?_); focus (simp; done)) | ((with_reducible refine blk_old _ _ _ ?_ ?_); focus (simp; done)) | ((with_reducible refine blk_old _ _ _ ?_ ?_); focus (first | omega | (simp; omega))) | ((with_reducible apply blk_set); focus (simp; done)) | ((with_reducible refine blk_off _ _ _ _ ?_ ?_); focus (simp; done)) | ((with_reducible refine blk_offc _ _ _ _ ?_ ?_); focus (first | (simp; done) | omega | (simp; omega))) | ((with_reducible refine blk_off _ _ _ _ ?_ ?_); focus (first | omega | (simp; omega))) | (with_reducible refine blk_drew _ _ ?_) | ((with_reducible refine blk_below (by assumption) ?_ ?_); focus (simp; done)) | ((with_reducible refine blk_below (by assumption) ?_ ?_); focus (first | omega | (simp; omega))))) (by rw [row_size]; kernel_rfl) (by simp [row_size]) (row_cells _ _ _ rfl) _ (row_over _ _ 64 _ _ (by simp)) ?_))
                  refine bodyPost_ret (v := .tuple #[.agg (plate wd k fF), .int .i64 0]) ?_ ?_ ?_
                  · refine results_row_tmp Tryz.results6 _ _ _ 29 (plate wd k fF) (0, 0) _ _ rfl rfl ?_ Tryz.underlying29 rfl (by simp only [row_size]; kernel_rfl)
                    exact (by repeat (first | (with_reducible assumption) | ((with_reducible refine blk_new _ _ _ ?_); focus (simp; done)) | ((with_reducible refine blk_old _ _ _ ?_ ?_); focus (simp; done)) | ((with_reducible refine blk_old _ _ _ ?_ ?_); focus (first | omega | (simp; omega))) | ((with_reducible apply blk_set); focus (simp; done)) | ((with_reducible refine blk_off _ _ _ _ ?_ ?_); focus (simp; done)) | ((with_reducible refine blk_offc _ _ _ _ ?_ ?_); focus (first | (simp; done) | omega | (simp; omega))) | ((with_reducible refine blk_off _ _ _ _ ?_ ?_); focus (first | omega | (simp; omega))) | (with_reducible refine blk_drew _ _ ?_) | ((with_reducible refine blk_below (by assumption) ?_ ?_); focus (simp; done)) | ((with_reducible refine blk_below (by assumption) ?_ ?_); focus (first | omega | (simp; omega)))))
                  · rfl
                  · exact ⟨by (rw [HF.out.1, HF.out.2] <;> rfl), (by repeat (first | (with_reducible assumption) | (with_reducible exact Below.refl _ _) | ((with_reducible refine bel_alloc _ ?_ ?_); focus (first | omega | (simp; done) | (simp; omega))) | ((with_reducible refine bel_row _ ?_ ?_); focus (first | omega | (simp; done) | (simp; omega))) | ((with_reducible refine bel_cell _ ?_ ?_); focus (first | omega | (simp; done) | (simp; omega))) | (with_reducible refine Below.drew ?_) | (with_reducible refine below_wideW _ ?_) | ((with_reducible refine bel_next (by assumption) ?_ ?_); focus (first | omega | (simp; done) | (simp; omega)))))⟩
          · obtain ⟨XL, hXL⟩ : ∃ X : ByteArray, X = ⟨lx.toArray⟩ := ⟨_, rfl⟩
            rw [← hXL] at cl
            have hne : XL.toList.isEmpty = false := by rw [ByteArray.toList_eq, hXL]; simp; exact hlast
            have HF : Hid (R = plate 0 0 (fun _ => 0) ∧ C = 5) := Lib.hid (by rw [HR.out, HC.out, readPL_bad HS.out HH.out HNA.out HNB.out (fun h => hlast (by have := h.2.2.2; simpa [List.getD, hlx] using this))]; exact ⟨rfl, rfl⟩)
            clear hXL hlast hlx
            go_wp2_with (first | (go_at_call 38; with_reducible refine (hIW _).mono ?_; rintro e w9 ⟨rfl, rfl⟩) | (go_at_call 38; with_reducible refine (hIH _).mono ?_; rintro e w9 ⟨rfl, rfl⟩) | ((with_reducible refine at_store 29 ?_); refine wpList_store_part rfl 29 _ _ rfl _ 0 _ rfl rfl _ _ (by repeat (first | (with_reducible assumption) | ((with_reducible refine blk_new _ _ _ ?_); focus (simp; done)) | ((with_reducible refine blk_old _ _ _ ?_ ?_); focus (simp; done)) | ((with_reducible refine blk_old _ _ _ ?_ ?_); focus (first | omega | (simp; omega))) | ((with_reducible apply blk_set); focus (simp; done)) | ((with_reducible refine blk_off _ _ _ _ ?_ ?_); focus (simp; done)) | ((with_reducible refine blk_offc _ _ _ _ ?_ ?_); focus (first | (simp; done) | omega | (simp; omega))) | ((with_reducible refine blk_off _ _ _ _ ?_ ?_); focus (first | omega | (simp; omega))) | (with_reducible refine blk_drew _ _ ?_) | ((with_reducible refine blk_below (by assumption) ?_ ?_); focus (simp; done)) | ((with_reducible refine blk_below (by assumption) ?_ ?_); focus (first | omega | (simp; omega))))) (by rw [row_size]; kernel_rfl) (by simp [row_size]) (row_cells _ _ _ rfl) _ (row_over _ _ 64 _ _ (by simp)) ?_))
            refine bodyPost_ret (v := .tuple #[.agg (plate 0 0 (fun _ => 0)), .int .i64 5]) ?_ ?_ ?_
            · refine results_row_tmp Tryz.results6 _ _ _ 29 (plate 0 0 (fun _ => 0)) (0, 0) _ _ rfl rfl ?_ Tryz.underlying29 rfl (by simp only [row_size]; kernel_rfl)
              exact (by repeat (first | (with_reducible assumption) | ((with_reducible refine blk_new _ _ _ ?_); focus (simp; done)) | ((with_reducible refine blk_old _ _ _ ?_ ?_); focus (simp; done)) | ((with_reducible refine blk_old _ _ _ ?_ ?_); focus (first | omega | (simp; omega))) | ((with_reducible apply blk_set); focus (simp; done)) | ((with_reducible refine blk_off _ _ _ _ ?_ ?_); focus (simp; done)) | ((with_reducible refine blk_offc _ _ _ _ ?_ ?_); focus (first | (simp; done) | omega | (simp; omega))) | ((with_reducible refine blk_off _ _ _ _ ?_ ?_); focus (first | omega | (simp; omega))) | (with_reducible refine blk_drew _ _ ?_) | ((with_reducible refine blk_below (by assumption) ?_ ?_); focus (simp; done)) | ((with_reducible refine blk_below (by assumption) ?_ ?_); focus (first | omega | (simp; omega)))))
            · rfl
            · exact ⟨by (rw [HF.out.1, HF.out.2] <;> rfl), (by repeat (first | (with_reducible assumption) | (with_reducible exact Below.refl _ _) | ((with_reducible refine bel_alloc _ ?_ ?_); focus (first | omega | (simp; done) | (simp; omega))) | ((with_reducible refine bel_row _ ?_ ?_); focus (first | omega | (simp; done) | (simp; omega))) | ((with_reducible refine bel_cell _ ?_ ?_); focus (first | omega | (simp; done) | (simp; omega))) | (with_reducible refine Below.drew ?_) | (with_reducible refine below_wideW _ ?_) | ((with_reducible refine bel_next (by assumption) ?_ ?_); focus (first | omega | (simp; done) | (simp; omega)))))⟩
        · have hN3i : ((N3 : Int) != (hg : Int) + 2) = true := by have := HN3.out; simp; omega
          have HF : Hid (R = plate 0 0 (fun _ => 0) ∧ C = 5) := Lib.hid (by rw [HR.out, HC.out, readPL_bad HS.out HH.out HNA.out HNB.out (fun h => hnum (by rw [HNL.out]; exact h.2.2.1))]; exact ⟨rfl, rfl⟩)
          clear hnum
          go_wp2_with (first | (go_at_call 38; with_reducible refine (hIW _).mono ?_; rintro e w9 ⟨rfl, rfl⟩) | (go_at_call 38; with_reducible refine (hIH _).mono ?_; rintro e w9 ⟨rfl, rfl⟩) | ((with_reducible refine at_store 29 ?_); refine wpList_store_part rfl 29 _ _ rfl _ 0 _ rfl rfl _ _ (by repeat (first | (with_reducible assumption) | ((with_reducible refine blk_new _ _ _ ?_); focus (simp; done)) | ((with_reducible refine blk_old _ _ _ ?_ ?_); focus (simp; done)) | ((with_reducible refine blk_old _ _ _ ?_ ?_); focus (first | omega | (simp; omega))) | ((with_reducible apply blk_set); focus (simp; done)) | ((with_reducible refine blk_off _ _ _ _ ?_ ?_); focus (simp; done)) | ((with_reducible refine blk_offc _ _ _ _ ?_ ?_); focus (first | (simp; done) | omega | (simp; omega))) | ((with_reducible refine blk_off _ _ _ _ ?_ ?_); focus (first | omega | (simp; omega))) | (with_reducible refine blk_drew _ _ ?_) | ((with_reducible refine blk_below (by assumption) ?_ ?_); focus (simp; done)) | ((with_reducible refine blk_below (by assumption) ?_ ?_); focus (first | omega | (simp; omega))))) (by rw [row_size]; kernel_rfl) (by simp [row_size]) (row_cells _ _ _ rfl) _ (row_over _ _ 64 _ _ (by simp)) ?_))
          refine bodyPost_ret (v := .tuple #[.agg (plate 0 0 (fun _ => 0)), .int .i64 5]) ?_ ?_ ?_
          · refine results_row_tmp Tryz.results6 _ _ _ 29 (plate 0 0 (fun _ => 0)) (0, 0) _ _ rfl rfl ?_ Tryz.underlying29 rfl (by simp only [row_size]; kernel_rfl)
            exact (by repeat (first | (with_reducible assumption) | ((with_reducible refine blk_new _ _ _ ?_); focus (simp; done)) | ((with_reducible refine blk_old _ _ _ ?_ ?_); focus (simp; done)) | ((with_reducible refine blk_old _ _ _ ?_ ?_); focus (first | omega | (simp; omega))) | ((with_reducible apply blk_set); focus (simp; done)) | ((with_reducible refine blk_off _ _ _ _ ?_ ?_); focus (simp; done)) | ((with_reducible refine blk_offc _ _ _ _ ?_ ?_); focus (first | (simp; done) | omega | (simp; omega))) | ((with_reducible refine blk_off _ _ _ _ ?_ ?_); focus (first | omega | (simp; omega))) | (with_reducible refine blk_drew _ _ ?_) | ((with_reducible refine blk_below (by assumption) ?_ ?_); focus (simp; done)) | ((with_reducible refine blk_below (by assumption) ?_ ?_); focus (first | omega | (simp; omega)))))
          · rfl
          · exact ⟨by (rw [HF.out.1, HF.out.2] <;> rfl), (by repeat (first | (with_reducible assumption) | (with_reducible exact Below.refl _ _) | ((with_reducible refine bel_alloc _ ?_ ?_); focus (first | omega | (simp; done) | (simp; omega))) | ((with_reducible refine bel_row _ ?_ ?_); focus (first | omega | (simp; done) | (simp; omega))) | ((with_reducible refine bel_cell _ ?_ ?_); focus (first | omega | (simp; done) | (simp; omega))) | (with_reducible refine Below.drew ?_) | (with_reducible refine below_wideW _ ?_) | ((with_reducible refine bel_next (by assumption) ?_ ?_); focus (first | omega | (simp; done) | (simp; omega)))))⟩
      · have HF : Hid (R = plate 0 0 (fun _ => 0) ∧ C = 5) := Lib.hid (by rw [HR.out, HC.out, head_no HS.out (fun m k _ _ h3 h4 _ e => hne k h3 h4 e)]; exact ⟨rfl, rfl⟩)
        clear hne hwx
        cases ok2 with
        | false =>
          clear hno
          go_wp2_with (first | (go_at_call 38; with_reducible refine (hIW _).mono ?_; rintro e w9 ⟨rfl, rfl⟩) | ((with_reducible refine at_store 29 ?_); refine wpList_store_part rfl 29 _ _ rfl _ 0 _ rfl rfl _ _ (by repeat (first | (with_reducible assumption) | ((with_reducible refine blk_new _ _ _ ?_); focus (simp; done)) | ((with_reducible refine blk_old _ _ _ ?_ ?_); focus (simp; done)) | ((with_reducible refine blk_old _ _ _ ?_ ?_); focus (first | omega | (simp; omega))) | ((with_reducible apply blk_set); focus (simp; done)) | ((with_reducible refine blk_off _ _ _ _ ?_ ?_); focus (simp; done)) | ((with_reducible refine blk_offc _ _ _ _ ?_ ?_); focus (first | (simp; done) | omega | (simp; omega))) | ((with_reducible refine blk_off _ _ _ _ ?_ ?_); focus (first | omega | (simp; omega))) | (with_reducible refine blk_drew _ _ ?_) | ((with_reducible refine blk_below (by assumption) ?_ ?_); focus (simp; done)) | ((with_reducible refine blk_below (by assumption) ?_ ?_); focus (first | omega | (simp; omega))))) (by rw [row_size]; kernel_rfl) (by simp [row_size]) (row_cells _ _ _ rfl) _ (row_over _ _ 64 _ _ (by simp)) ?_))
          refine bodyPost_ret (v := .tuple #[.agg (plate 0 0 (fun _ => 0)), .int .i64 5]) ?_ ?_ ?_
          · refine results_row_tmp Tryz.results6 _ _ _ 29 (plate 0 0 (fun _ => 0)) (0, 0) _ _ rfl rfl ?_ Tryz.underlying29 rfl (by simp only [row_size]; kernel_rfl)
            exact (by repeat (first | (with_reducible assumption) | ((with_reducible refine blk_new _ _ _ ?_); focus (simp; done)) | ((with_reducible refine blk_old _ _ _ ?_ ?_); focus (simp; done)) | ((with_reducible refine blk_old _ _ _ ?_ ?_); focus (first | omega | (simp; omega))) | ((with_reducible apply blk_set); focus (simp; done)) | ((with_reducible refine blk_off _ _ _ _ ?_ ?_); focus (simp; done)) | ((with_reducible refine blk_offc _ _ _ _ ?_ ?_); focus (first | (simp; done) | omega | (simp; omega))) | ((with_reducible refine blk_off _ _ _ _ ?_ ?_); focus (first | omega | (simp; omega))) | (with_reducible refine blk_drew _ _ ?_) | ((with_reducible refine blk_below (by assumption) ?_ ?_); focus (simp; done)) | ((with_reducible refine blk_below (by assumption) ?_ ?_); focus (first | omega | (simp; omega)))))
          · rfl
          · exact ⟨by (rw [HF.out.1, HF.out.2] <;> rfl), (by repeat (first | (with_reducible assumption) | (with_reducible exact Below.refl _ _) | ((with_reducible refine bel_alloc _ ?_ ?_); focus (first | omega | (simp; done) | (simp; omega))) | ((with_reducible refine bel_row _ ?_ ?_); focus (first | omega | (simp; done) | (simp; omega))) | ((with_reducible refine bel_cell _ ?_ ?_); focus (first | omega | (simp; done) | (simp; omega))) | (with_reducible refine Below.drew ?_) | (with_reducible refine below_wideW _ ?_) | ((with_reducible refine bel_next (by assumption) ?_ ?_); focus (first | omega | (simp; done) | (simp; omega)))))⟩
        | true =>
          have hIH := isStride_any n2 false (stride_noR (by simpa using hno))
          clear hno
          go_wp2_with (first | (go_at_call 38; with_reducible refine (hIW _).mono ?_; rintro e w9 ⟨rfl, rfl⟩) | (go_at_call 38; with_reducible refine (hIH _).mono ?_; rintro e w9 ⟨rfl, rfl⟩) | ((with_reducible refine at_store 29 ?_); refine wpList_store_part rfl 29 _ _ rfl _ 0 _ rfl rfl _ _ (by repeat (first | (with_reducible assumption) | ((with_reducible refine blk_new _ _ _ ?_); focus (simp; done)) | ((with_reducible refine blk_old _ _ _ ?_ ?_); focus (simp; done)) | ((with_reducible refine blk_old _ _ _ ?_ ?_); focus (first | omega | (simp; omega))) | ((with_reducible apply blk_set); focus (simp; done)) | ((with_reducible refine blk_off _ _ _ _ ?_ ?_); focus (simp; done)) | ((with_reducible refine blk_offc _ _ _ _ ?_ ?_); focus (first | (simp; done) | omega | (simp; omega))) | ((with_reducible refine blk_off _ _ _ _ ?_ ?_); focus (first | omega | (simp; omega))) | (with_reducible refine blk_drew _ _ ?_) | ((with_reducible refine blk_below (by assumption) ?_ ?_); focus (simp; done)) | ((with_reducible refine blk_below (by assumption) ?_ ?_); focus (first | omega | (simp; omega))))) (by rw [row_size]; kernel_rfl) (by simp [row_size]) (row_cells _ _ _ rfl) _ (row_over _ _ 64 _ _ (by simp)) ?_))
          refine bodyPost_ret (v := .tuple #[.agg (plate 0 0 (fun _ => 0)), .int .i64 5]) ?_ ?_ ?_
          · refine results_row_tmp Tryz.results6 _ _ _ 29 (plate 0 0 (fun _ => 0)) (0, 0) _ _ rfl rfl ?_ Tryz.underlying29 rfl (by simp only [row_size]; kernel_rfl)
            exact (by repeat (first | (with_reducible assumption) | ((with_reducible refine blk_new _ _ _ ?_); focus (simp; done)) | ((with_reducible refine blk_old _ _ _ ?_ ?_); focus (simp; done)) | ((with_reducible refine blk_old _ _ _ ?_ ?_); focus (first | omega | (simp; omega))) | ((with_reducible apply blk_set); focus (simp; done)) | ((with_reducible refine blk_off _ _ _ _ ?_ ?_); focus (simp; done)) | ((with_reducible refine blk_offc _ _ _ _ ?_ ?_); focus (first | (simp; done) | omega | (simp; omega))) | ((with_reducible refine blk_off _ _ _ _ ?_ ?_); focus (first | omega | (simp; omega))) | (with_reducible refine blk_drew _ _ ?_) | ((with_reducible refine blk_below (by assumption) ?_ ?_); focus (simp; done)) | ((with_reducible refine blk_below (by assumption) ?_ ?_); focus (first | omega | (simp; omega)))))
          · rfl
          · exact ⟨by (rw [HF.out.1, HF.out.2] <;> rfl), (by repeat (first | (with_reducible assumption) | (with_reducible exact Below.refl _ _) | ((with_reducible refine bel_alloc _ ?_ ?_); focus (first | omega | (simp; done) | (simp; omega))) | ((with_reducible refine bel_row _ ?_ ?_); focus (first | omega | (simp; done) | (simp; omega))) | ((with_reducible refine bel_cell _ ?_ ?_); focus (first | omega | (simp; done) | (simp; omega))) | (with_reducible refine Below.drew ?_) | (with_reducible refine below_wideW _ ?_) | ((with_reducible refine bel_next (by assumption) ?_ ?_); focus (first | omega | (simp; done) | (simp; omega)))))⟩
    · have HF : Hid (R = plate 0 0 (fun _ => 0) ∧ C = 5) := Lib.hid (by rw [HR.out, HC.out, head_no HS.out (fun m k h1 h2 _ _ e _ => hne m h1 h2 e)]; exact ⟨rfl, rfl⟩)
      clear hne hst2
      cases ok1 with
      | false =>
        clear hno
        go_wp2_with (first | ((with_reducible refine at_store 29 ?_); refine wpList_store_part rfl 29 _ _ rfl _ 0 _ rfl rfl _ _ (by repeat (first | (with_reducible assumption) | ((with_reducible refine blk_new _ _ _ ?_); focus (simp; done)) | ((with_reducible refine blk_old _ _ _ ?_ ?_); focus (simp; done)) | ((with_reducible refine blk_old _ _ _ ?_ ?_); focus (first | omega | (simp; omega))) | ((with_reducible apply blk_set); focus (simp; done)) | ((with_reducible refine blk_off _ _ _ _ ?_ ?_); focus (simp; done)) | ((with_reducible refine blk_offc _ _ _ _ ?_ ?_); focus (first | (simp; done) | omega | (simp; omega))) | ((with_reducible refine blk_off _ _ _ _ ?_ ?_); focus (first | omega | (simp; omega))) | (with_reducible refine blk_drew _ _ ?_) | ((with_reducible refine blk_below (by assumption) ?_ ?_); focus (simp; done)) | ((with_reducible refine blk_below (by assumption) ?_ ?_); focus (first | omega | (simp; omega))))) (by rw [row_size]; kernel_rfl) (by simp [row_size]) (row_cells _ _ _ rfl) _ (row_over _ _ 64 _ _ (by simp)) ?_))
        refine bodyPost_ret (v := .tuple #[.agg (plate 0 0 (fun _ => 0)), .int .i64 5]) ?_ ?_ ?_
        · refine results_row_tmp Tryz.results6 _ _ _ 29 (plate 0 0 (fun _ => 0)) (0, 0) _ _ rfl rfl ?_ Tryz.underlying29 rfl (by simp only [row_size]; kernel_rfl)
          exact (by repeat (first | (with_reducible assumption) | ((with_reducible refine blk_new _ _ _ ?_); focus (simp; done)) | ((with_reducible refine blk_old _ _ _ ?_ ?_); focus (simp; done)) | ((with_reducible refine blk_old _ _ _ ?_ ?_); focus (first | omega | (simp; omega))) | ((with_reducible apply blk_set); focus (simp; done)) | ((with_reducible refine blk_off _ _ _ _ ?_ ?_); focus (simp; done)) | ((with_reducible refine blk_offc _ _ _ _ ?_ ?_); focus (first | (simp; done) | omega | (simp; omega))) | ((with_reducible refine blk_off _ _ _ _ ?_ ?_); focus (first | omega | (simp; omega))) | (with_reducible refine blk_drew _ _ ?_) | ((with_reducible refine blk_below (by assumption) ?_ ?_); focus (simp; done)) | ((with_reducible refine blk_below (by assumption) ?_ ?_); focus (first | omega | (simp; omega)))))
        · rfl
        · exact ⟨by (rw [HF.out.1, HF.out.2] <;> rfl), (by repeat (first | (with_reducible assumption) | (with_reducible exact Below.refl _ _) | ((with_reducible refine bel_alloc _ ?_ ?_); focus (first | omega | (simp; done) | (simp; omega))) | ((with_reducible refine bel_row _ ?_ ?_); focus (first | omega | (simp; done) | (simp; omega))) | ((with_reducible refine bel_cell _ ?_ ?_); focus (first | omega | (simp; done) | (simp; omega))) | (with_reducible refine Below.drew ?_) | (with_reducible refine below_wideW _ ?_) | ((with_reducible refine bel_next (by assumption) ?_ ?_); focus (first | omega | (simp; done) | (simp; omega)))))⟩
      | true =>
        have hIW := isStride_any n1 false (stride_noR (by simpa using hno))
        clear hno
        cases ok2 with
        | false =>
          go_wp2_with (first | (go_at_call 38; with_reducible refine (hIW _).mono ?_; rintro e w9 ⟨rfl, rfl⟩) | ((with_reducible refine at_store 29 ?_); refine wpList_store_part rfl 29 _ _ rfl _ 0 _ rfl rfl _ _ (by repeat (first | (with_reducible assumption) | ((with_reducible refine blk_new _ _ _ ?_); focus (simp; done)) | ((with_reducible refine blk_old _ _ _ ?_ ?_); focus (simp; done)) | ((with_reducible refine blk_old _ _ _ ?_ ?_); focus (first | omega | (simp; omega))) | ((with_reducible apply blk_set); focus (simp; done)) | ((with_reducible refine blk_off _ _ _ _ ?_ ?_); focus (simp; done)) | ((with_reducible refine blk_offc _ _ _ _ ?_ ?_); focus (first | (simp; done) | omega | (simp; omega))) | ((with_reducible refine blk_off _ _ _ _ ?_ ?_); focus (first | omega | (simp; omega))) | (with_reducible refine blk_drew _ _ ?_) | ((with_reducible refine blk_below (by assumption) ?_ ?_); focus (simp; done)) | ((with_reducible refine blk_below (by assumption) ?_ ?_); focus (first | omega | (simp; omega))))) (by rw [row_size]; kernel_rfl) (by simp [row_size]) (row_cells _ _ _ rfl) _ (row_over _ _ 64 _ _ (by simp)) ?_))
          refine bodyPost_ret (v := .tuple #[.agg (plate 0 0 (fun _ => 0)), .int .i64 5]) ?_ ?_ ?_
          · refine results_row_tmp Tryz.results6 _ _ _ 29 (plate 0 0 (fun _ => 0)) (0, 0) _ _ rfl rfl ?_ Tryz.underlying29 rfl (by simp only [row_size]; kernel_rfl)
            exact (by repeat (first | (with_reducible assumption) | ((with_reducible refine blk_new _ _ _ ?_); focus (simp; done)) | ((with_reducible refine blk_old _ _ _ ?_ ?_); focus (simp; done)) | ((with_reducible refine blk_old _ _ _ ?_ ?_); focus (first | omega | (simp; omega))) | ((with_reducible apply blk_set); focus (simp; done)) | ((with_reducible refine blk_off _ _ _ _ ?_ ?_); focus (simp; done)) | ((with_reducible refine blk_offc _ _ _ _ ?_ ?_); focus (first | (simp; done) | omega | (simp; omega))) | ((with_reducible refine blk_off _ _ _ _ ?_ ?_); focus (first | omega | (simp; omega))) | (with_reducible refine blk_drew _ _ ?_) | ((with_reducible refine blk_below (by assumption) ?_ ?_); focus (simp; done)) | ((with_reducible refine blk_below (by assumption) ?_ ?_); focus (first | omega | (simp; omega)))))
          · rfl
          · exact ⟨by (rw [HF.out.1, HF.out.2] <;> rfl), (by repeat (first | (with_reducible assumption) | (with_reducible exact Below.refl _ _) | ((with_reducible refine bel_alloc _ ?_ ?_); focus (first | omega | (simp; done) | (simp; omega))) | ((with_reducible refine bel_row _ ?_ ?_); focus (first | omega | (simp; done) | (simp; omega))) | ((with_reducible refine bel_cell _ ?_ ?_); focus (first | omega | (simp; done) | (simp; omega))) | (with_reducible refine Below.drew ?_) | (with_reducible refine below_wideW _ ?_) | ((with_reducible refine bel_next (by assumption) ?_ ?_); focus (first | omega | (simp; done) | (simp; omega)))))⟩
        | true =>
          go_wp2_with (first | (go_at_call 38; with_reducible refine (hIW _).mono ?_; rintro e w9 ⟨rfl, rfl⟩) | ((with_reducible refine at_store 29 ?_); refine wpList_store_part rfl 29 _ _ rfl _ 0 _ rfl rfl _ _ (by repeat (first | (with_reducible assumption) | ((with_reducible refine blk_new _ _ _ ?_); focus (simp; done)) | ((with_reducible refine blk_old _ _ _ ?_ ?_); focus (simp; done)) | ((with_reducible refine blk_old _ _ _ ?_ ?_); focus (first | omega | (simp; omega))) | ((with_reducible apply blk_set); focus (simp; done)) | ((with_reducible refine blk_off _ _ _ _ ?_ ?_); focus (simp; done)) | ((with_reducible refine blk_offc _ _ _ _ ?_ ?_); focus (first | (simp; done) | omega | (simp; omega))) | ((with_reducible refine blk_off _ _ _ _ ?_ ?_); focus (first | omega | (simp; omega))) | (with_reducible refine blk_drew _ _ ?_) | ((with_reducible refine blk_below (by assumption) ?_ ?_); focus (simp; done)) | ((with_reducible refine blk_below (by assumption) ?_ ?_); focus (first | omega | (simp; omega))))) (by rw [row_size]; kernel_rfl) (by simp [row_size]) (row_cells _ _ _ rfl) _ (row_over _ _ 64 _ _ (by simp)) ?_))
          refine bodyPost_ret (v := .tuple #[.agg (plate 0 0 (fun _ => 0)), .int .i64 5]) ?_ ?_ ?_
          · refine results_row_tmp Tryz.results6 _ _ _ 29 (plate 0 0 (fun _ => 0)) (0, 0) _ _ rfl rfl ?_ Tryz.underlying29 rfl (by simp only [row_size]; kernel_rfl)
            exact (by repeat (first | (with_reducible assumption) | ((with_reducible refine blk_new _ _ _ ?_); focus (simp; done)) | ((with_reducible refine blk_old _ _ _ ?_ ?_); focus (simp; done)) | ((with_reducible refine blk_old _ _ _ ?_ ?_); focus (first | omega | (simp; omega))) | ((with_reducible apply blk_set); focus (simp; done)) | ((with_reducible refine blk_off _ _ _ _ ?_ ?_); focus (simp; done)) | ((with_reducible refine blk_offc _ _ _ _ ?_ ?_); focus (first | (simp; done) | omega | (simp; omega))) | ((with_reducible refine blk_off _ _ _ _ ?_ ?_); focus (first | omega | (simp; omega))) | (with_reducible refine blk_drew _ _ ?_) | ((with_reducible refine blk_below (by assumption) ?_ ?_); focus (simp; done)) | ((with_reducible refine blk_below (by assumption) ?_ ?_); focus (first | omega | (simp; omega)))))
          · rfl
          · exact ⟨by (rw [HF.out.1, HF.out.2] <;> rfl), (by repeat (first | (with_reducible assumption) | (with_reducible exact Below.refl _ _) | ((with_reducible refine bel_alloc _ ?_ ?_); focus (first | omega | (simp; done) | (simp; omega))) | ((with_reducible refine bel_row _ ?_ ?_); focus (first | omega | (simp; done) | (simp; omega))) | ((with_reducible refine bel_cell _ ?_ ?_); focus (first | omega | (simp; done) | (simp; omega))) | (with_reducible refine Below.drew ?_) | (with_reducible refine below_wideW _ ?_) | ((with_reducible refine bel_next (by assumption) ?_ ?_); focus (first | omega | (simp; done) | (simp; omega)))))⟩
  · have hq : (1000 : Int) < (t.size : Int) := by omega
    have HF : Hid (R = plate 0 0 (fun _ => 0) ∧ C = 5) := Lib.hid (by rw [HR.out, HC.out, readPL_long (by omega)]; exact ⟨rfl, rfl⟩)
    clear hSp hL htab hml hMlt hLL hlen h1000
    go_enter Tryz.func6, Tryz.ntmps6
    go_wp2_with (first | ((with_reducible refine at_store 29 ?_); refine wpList_store_part rfl 29 _ _ rfl _ 0 _ rfl rfl _ _ (by repeat (first | (with_reducible assumption) | ((with_reducible refine blk_new _ _ _ ?_); focus (simp; done)) | ((with_reducible refine blk_old _ _ _ ?_ ?_); focus (simp; done)) | ((with_reducible refine blk_old _ _ _ ?_ ?_); focus (first | omega | (simp; omega))) | ((with_reducible apply blk_set); focus (simp; done)) | ((with_reducible refine blk_off _ _ _ _ ?_ ?_); focus (simp; done)) | ((with_reducible refine blk_offc _ _ _ _ ?_ ?_); focus (first | (simp; done) | omega | (simp; omega))) | ((with_reducible refine blk_off _ _ _ _ ?_ ?_); focus (first | omega | (simp; omega))) | (with_reducible refine blk_drew _ _ ?_) | ((with_reducible refine blk_below (by assumption) ?_ ?_); focus (simp; done)) | ((with_reducible refine blk_below (by assumption) ?_ ?_); focus (first | omega | (simp; omega))))) (by rw [row_size]; kernel_rfl) (by simp [row_size]) (row_cells _ _ _ rfl) _ (row_over _ _ 64 _ _ (by simp)) ?_))
    refine bodyPost_ret (v := .tuple #[.agg (plate 0 0 (fun _ => 0)), .int .i64 5]) ?_ ?_ ?_
    · refine results_row_tmp Tryz.results6 _ _ _ 29 (plate 0 0 (fun _ => 0)) (0, 0) _ _ rfl rfl ?_ Tryz.underlying29 rfl (by simp only [row_size]; kernel_rfl)
      exact (by repeat (first | (with_reducible assumption) | ((with_reducible refine blk_new _ _ _ ?_); focus (simp; done)) | ((with_reducible refine blk_old _ _ _ ?_ ?_); focus (simp; done)) | ((with_reducible refine blk_old _ _ _ ?_ ?_); focus (first | omega | (simp; omega))) | ((with_reducible apply blk_set); focus (simp; done)) | ((with_reducible refine blk_off _ _ _ _ ?_ ?_); focus (simp; done)) | ((with_reducible refine blk_offc _ _ _ _ ?_ ?_); focus (first | (simp; done) | omega | (simp; omega))) | ((with_reducible refine blk_off _ _ _ _ ?_ ?_); focus (first | omega | (simp; omega))) | (with_reducible refine blk_drew _ _ ?_) | ((with_reducible refine blk_below (by assumption) ?_ ?_); focus (simp; done)) | ((with_reducible refine blk_below (by assumption) ?_ ?_); focus (first | omega | (simp; omega)))))
    · rfl
    · exact ⟨by (rw [HF.out.1, HF.out.2] <;> rfl), (by repeat (first | (with_reducible assumption) | (with_reducible exact Below.refl _ _) | ((with_reducible refine bel_alloc _ ?_ ?_); focus (first | omega | (simp; done) | (simp; omega))) | ((with_reducible refine bel_row _ ?_ ?_); focus (first | omega | (simp; done) | (simp; omega))) | ((with_reducible refine bel_cell _ ?_ ?_); focus (first | omega | (simp; done) | (simp; omega))) | (with_reducible refine Below.drew ?_) | (with_reducible refine below_wideW _ ?_) | ((with_reducible refine bel_next (by assumption) ?_ ?_); focus (first | omega | (simp; done) | (simp; omega)))))⟩
end Go.Proofs.YtekfmjddlemboaaGreatDoor

/-! What a train's text says is read from it again; plain. -/
set_option linter.unusedVariables false
set_option linter.unusedSimpArgs false
namespace Go.Proofs.YtekfmjddlemboaaGreatDoor
open Go.RowKit Go.Lib

theorem splitL_cat (c : UInt8) : ∀ (p r : List UInt8), splitL c (p ++ c :: r) = splitL c p ++ splitL c r
  | [], r => by
    show (if c = c then [] :: splitL c r else match splitL c r with | h :: t => (c :: h) :: t | [] => [[c]]) = [[]] ++ splitL c r
    rw [if_pos rfl]; rfl
  | b :: p, r => by
    have ih := splitL_cat c p r
    show (if b = c then [] :: splitL c (p ++ c :: r) else match splitL c (p ++ c :: r) with | h :: t => (b :: h) :: t | [] => [[b]]) = (if b = c then [] :: splitL c p else match splitL c p with | h :: t => (b :: h) :: t | [] => [[b]]) ++ splitL c r
    rw [ih]
    by_cases e : b = c
    · rw [if_pos e, if_pos e]; rfl
    · rw [if_neg e, if_neg e]
      cases h : splitL c p with
      | nil => exact absurd h (splitL_ne c p)
      | cons x y => rfl
theorem hexDig_no : ∀ n, n < 16 → hexDig n ≠ 32 := by decide
theorem hexL_no : ∀ k u, (32 : UInt8) ∉ hexL k u
  | 0, _ => by simp [hexL]
  | k + 1, u => by
    intro h
    rw [show hexL (k + 1) u = hexL k (u / 16) ++ [hexDig (u % 16)] from rfl, List.mem_append] at h
    rcases h with h | h
    · exact hexL_no k _ h
    · exact hexDig_no (u % 16) (Nat.mod_lt _ (by decide)) ((List.mem_singleton.1 h).symm)
theorem numText_no (a : Nat) : (32 : UInt8) ∉ numText a := hexL_no 8 _
theorem dec_no {n : Nat} (h : n < 13) : (32 : UInt8) ∉ Lib.decDigits n := by
  have key : ∀ m, m < 10 → (32 : UInt8) ≠ UInt8.ofNat (48 + m) := by decide
  by_cases h10 : n < 10
  · rw [dec_small h10]
    simp only [List.mem_singleton]
    exact key n h10
  · rw [dec_two (by omega) (by omega)]
    simp only [List.mem_cons, List.not_mem_nil, or_false, not_or]
    exact ⟨key (n / 10) (by omega), key (n % 10) (by omega)⟩
theorem readAll_text {G : Nat → Nat} {n : Nat} (hlt : ∀ k, k < n → G k < 2 ^ 32) (hc : ∀ k, k < n → canonB (G k) = G k) : readAll ((List.range n).map fun k => numText (G k)) = some ((List.range n).map G) := by
  induction n with
  | zero => rfl
  | succ n ih =>
    rw [List.range_succ, List.map_append, List.map_append]
    show readAll (((List.range n).map fun k => numText (G k)) ++ [numText (G n)]) = some (((List.range n).map G) ++ [G n])
    rw [readAll_snoc, ih (fun k hk => hlt k (by omega)) (fun k hk => hc k (by omega)), readOf_numText (hlt n (by omega)), hc n (by omega)]
    rfl
theorem canon_num {a : Nat} (h : ¬ Flt.NaN Ieee.single a) : canonB a = a := by unfold canonB; rw [if_neg h]
end Go.Proofs.YtekfmjddlemboaaGreatDoor

/-! What a plate's text says is read from it again; plain. -/
set_option linter.unusedVariables false
set_option linter.unusedSimpArgs false
namespace Go.Proofs.YtekfmjddlemboaaGreatDoor
open Go.RowKit Go.Lib

theorem hexDig_no10 : ∀ n, n < 16 → hexDig n ≠ 10 := by decide
theorem hexL_no10 : ∀ k u, (10 : UInt8) ∉ hexL k u
  | 0, _ => by simp [hexL]
  | k + 1, u => by
    intro h
    rw [show hexL (k + 1) u = hexL k (u / 16) ++ [hexDig (u % 16)] from rfl, List.mem_append] at h
    rcases h with h | h
    · exact hexL_no10 k _ h
    · exact hexDig_no10 (u % 16) (Nat.mod_lt _ (by decide)) ((List.mem_singleton.1 h).symm)
theorem numText_no10 (a : Nat) : (10 : UInt8) ∉ numText a := hexL_no10 8 _
theorem dec_no10 {n : Nat} (h : n < 10) : (10 : UInt8) ∉ Lib.decDigits n := by
  have key : ∀ m, m < 10 → (10 : UInt8) ≠ UInt8.ofNat (48 + m) := by decide
  rw [dec_small h]
  simp only [List.mem_singleton]
  exact key n h
theorem joinT_no10 (G : Nat → Nat) : ∀ n, (10 : UInt8) ∉ joinT G n
  | 0 => by simp [joinT_zero]
  | 1 => by rw [joinT_one]; exact numText_no10 _
  | n + 2 => by
    rw [joinT_succ G (n + 1) (by omega)]
    intro h
    rcases List.mem_append.1 h with h | h
    · exact joinT_no10 G (n + 1) h
    · rcases List.mem_cons.1 h with h | h
      · exact absurd h (by decide)
      · exact numText_no10 _ h
theorem split_join (G : Nat → Nat) : ∀ n, splitL 32 (joinT G (n + 1)) = (List.range (n + 1)).map fun k => numText (G k)
  | 0 => by rw [joinT_one, splitL_miss (numText_no _)]; rfl
  | n + 1 => by
    rw [joinT_succ G (n + 1) (by omega), splitL_cat, split_join G n, splitL_miss (numText_no _), List.range_succ (n := n + 1), List.map_append]
    rfl
theorem split_rows (a : Nat) (F : Nat → Nat) : ∀ (n : Nat) (J : List UInt8), (10 : UInt8) ∉ J → splitL 10 (rowsT a F n ++ J) = (List.range n).map (fun y => joinT (rowG F y) a) ++ [J]
  | 0, J, h => by
    show splitL 10 ([] ++ J) = _
    rw [List.nil_append, splitL_miss h]; rfl
  | n + 1, J, h => by
    have e : rowsT a F (n + 1) ++ J = (rowsT a F n ++ joinT (rowG F n) a) ++ 10 :: J := by
      show rowsT a F n ++ joinT (rowG F n) a ++ [10] ++ J = _
      rw [List.append_assoc _ [10] J]; rfl
    rw [e, splitL_cat, split_rows a F n _ (joinT_no10 _ _), splitL_miss h, List.range_succ, List.map_append]
    rfl
theorem nums_join {G : Nat → Nat} {n : Nat} (h0 : 0 < n) (hlt : ∀ k, k < n → G k < 2 ^ 32) (hc : ∀ k, k < n → canonB (G k) = G k) : numsOf (joinT G n) n = some ((List.range n).map G) := by
  obtain ⟨m, rfl⟩ : ∃ m, n = m + 1 := ⟨n - 1, by omega⟩
  unfold numsOf
  rw [split_join, readAll_text hlt hc]
  exact if_pos (by simp)
theorem rows_read {a : Nat} {F : Nat → Nat} (h0 : 0 < a) (hlt : ∀ k, F k < 2 ^ 32) (hc : ∀ k, canonB (F k) = F k) : ∀ n, readRows a ((List.range n).map (fun y => joinT (rowG F y) a)) = some ((List.range n).map fun y => (List.range a).map (rowG F y))
  | 0 => rfl
  | n + 1 => by
    rw [List.range_succ, List.map_append, List.map_append]
    show readRows a (_ ++ [joinT (rowG F n) a]) = some (_ ++ [(List.range a).map (rowG F n)])
    rw [readRows_snoc, rows_read h0 hlt hc n, nums_join (G := rowG F n) h0 (fun k _ => hlt _) (fun k _ => hc _)]
    rfl
theorem plF_rows {a b : Nat} {F : Nat → Nat} (hP : DrawnP a b F) : ∀ i, plF ((List.range b).map fun y => (List.range a).map (rowG F y)) i = F i := by
  intro i
  unfold plF
  by_cases h1 : i / 8 < b
  · have e : ((List.range b).map fun y => (List.range a).map (rowG F y)).getD (i / 8) [] = (List.range a).map (rowG F (i / 8)) := by simp [List.getD, h1]
    rw [e]
    by_cases h2 : i % 8 < a
    · have e2 : ((List.range a).map (rowG F (i / 8))).getD (i % 8) 0 = rowG F (i / 8) (i % 8) := by simp [List.getD, h2]
      rw [e2]
      unfold rowG
      congr 1
      omega
    · have e2 : ((List.range a).map (rowG F (i / 8))).getD (i % 8) 0 = 0 := by simp [List.getD, h2]
      rw [e2, hP.out i (by unfold isC; rw [decide_eq_false h2]; rfl)]
  · have e : ((List.range b).map fun y => (List.range a).map (rowG F y)).getD (i / 8) [] = [] := by simp [List.getD, h1]
    rw [e, hP.out i (by unfold isC; rw [decide_eq_false h1, Bool.and_false])]
    rfl
theorem plate_head {a b : Nat} (ha : a < 10) (hb : b < 10) : splitL 32 (Lib.decDigits a ++ 32 :: Lib.decDigits b) = [Lib.decDigits a, Lib.decDigits b] := by
  rw [splitL_cat, splitL_miss (dec_no (by omega)), splitL_miss (dec_no (by omega))]
  rfl
/-- A plate is read from its text. -/
theorem round_plate {a b : Nat} {F : Nat → Nat} (hP : DrawnP a b F) (hok : plateB (a : Int) (b : Int) F = true) : rpRow (readPL (plateText a b F)) = plate a b F ∧ rpCode (readPL (plateText a b F)) = 0 := by
  have a1 := hP.a1
  have a5 := hP.a5
  have b1 := hP.b1
  have b5 := hP.b5
  have hbare : bareTo a b F 64 = true := bareTo_all fun k _ => by
    cases h : isC a b k
    · exact Or.inr (hP.out k h)
    · exact Or.inl rfl
  have htx : plateText a b F = plateTx a b F := by
    unfold plateText
    rw [hok]
    show (if bareTo a b F 64 = true then plateTx a b F else []) = _
    rw [if_pos hbare]
  have hc : ∀ k, canonB (F k) = F k := fun k => canon_num (fin_nan (part_fin (hP.dot k).1))
  have hrows := rows_read (F := F) (by omega : 0 < a) (fun k => (hP.dot k).2) hc b
  have hsp : splitL 10 (plateTx a b F) = (Lib.decDigits a ++ 32 :: Lib.decDigits b) :: ((List.range b).map (fun y => joinT (rowG F y) a) ++ [[]]) := by
    have e : plateTx a b F = (Lib.decDigits a ++ 32 :: Lib.decDigits b) ++ 10 :: (rowsT a F b ++ []) := by
      unfold plateTx
      rw [List.append_assoc _ [10] _, List.append_nil]
      rfl
    rw [e, splitL_cat, split_rows a F b [] (by simp), splitL_miss]
    · rfl
    · intro h
      rcases List.mem_append.1 h with h | h
      · exact dec_no10 (by omega) h
      · rcases List.mem_cons.1 h with h | h
        · exact absurd h (by decide)
        · exact dec_no10 (by omega) h
  have hgb : plateB (a : Int) (b : Int) (plF ((List.range b).map fun y => (List.range a).map (rowG F y))) = true := by
    rw [show plF ((List.range b).map fun y => (List.range a).map (rowG F y)) = F from funext (plF_rows hP)]
    exact hok
  have hread : readPL (plateText a b F) = some (a, b, (List.range b).map fun y => (List.range a).map (rowG F y)) := by
    rw [htx]
    unfold readPL
    rw [hsp]
    simp only
    rw [plate_head (by omega) (by omega)]
    simp only
    rw [numOf_dec a (by omega), numOf_dec b (by omega)]
    simp only [Option.bind]
    rw [if_pos ⟨⟨by omega, by omega⟩, ⟨by omega, by omega⟩, by simp, by simp [List.getD]⟩]
    have ht : List.take b ((List.range b).map (fun y => joinT (rowG F y) a) ++ [[]]) = (List.range b).map (fun y => joinT (rowG F y) a) := by
      rw [List.take_append_of_le_length (by simp)]
      exact List.take_of_length_le (by simp)
    rw [ht, hrows]
    simp only
    rw [if_pos hgb]
  rw [hread]
  refine ⟨?_, rfl⟩
  show plate a b (plF ((List.range b).map fun y => (List.range a).map (rowG F y))) = plate a b F
  rw [show plF ((List.range b).map fun y => (List.range a).map (rowG F y)) = F from funext (plF_rows hP)]
end Go.Proofs.YtekfmjddlemboaaGreatDoor

/-! Plates that are drawn: mirrored, masked, printed over; their darkest cell, their gap; plain. -/
set_option linter.unusedVariables false
set_option linter.unusedSimpArgs false
namespace Go.Proofs.YtekfmjddlemboaaGreatDoor
open Go.RowKit Ieee

theorem dots_all2 {a b : Nat} {F : Nat → Nat} (h : ∀ i, dotB a b F i = true) : ∀ n, dotsB a b F n = true
  | 0 => rfl
  | n + 1 => by
    show (dotsB a b F n && dotB a b F n) = true
    rw [dots_all2 h n, h n]
    rfl
theorem DrawnP.good {a b : Nat} {F : Nat → Nat} (hP : DrawnP a b F) : plateB (a : Int) (b : Int) F = true := by
  have a1 := hP.a1
  have a5 := hP.a5
  have b1 := hP.b1
  have b5 := hP.b5
  unfold plateB
  rw [sizeB_iff.2 ⟨⟨by omega, by omega⟩, by omega, by omega⟩]
  refine (dots_all2 fun i => ?_) 64
  unfold dotB
  cases h : isC ((a : Int).toNat) ((b : Int).toNat) i
  · rw [hP.out i h]
    decide +kernel
  · exact (hP.dot i).1
theorem DrawnP.map {a b : Nat} {F g : Nat → Nat} (hP : DrawnP a b F) (h : ∀ i, isC a b i = true → partB (g i) = true ∧ g i < 2 ^ 32) : DrawnP a b (mapA a b g (fun _ => 0)) :=
  ⟨hP.a1, hP.a5, hP.b1, hP.b5, fun i => by
    unfold mapA
    cases hc : isC a b i
    · exact ⟨(by decide +kernel : partB 0 = true), (by decide : 0 < 2 ^ 32)⟩
    · exact h i hc, fun i hi => by unfold mapA; rw [hi]; rfl⟩
/-! ### mirrored -/
def mirF (a b : Nat) (F : Nat → Nat) : Nat → Nat := mapA a b (fun i => F (mirr a i)) (fun _ => 0)
section
variable {a b : Nat} {F : Nat → Nat} (hP : DrawnP a b F)
include hP
theorem DrawnP.mir : DrawnP a b (mirF a b F) := hP.map fun i _ => hP.dot _
theorem mir_back : plate (a : Int) (b : Int) (mirF a b (mirF a b F)) = plate (a : Int) (b : Int) F := by
  refine row_congr _ _ _ fun i hi => ?_
  unfold mirF mapA
  cases hc : isC a b i
  · rw [hP.out i hc]; rfl
  · obtain ⟨m1, m2, m3⟩ := mirr_of a (by have := hP.a5; omega) b (by have := hP.b5; omega) i hi hc
    simp only [m2, m3, if_true]
end
theorem mirr_row : ∀ a, a < 9 → ∀ b, b < 9 → ∀ x, x < a → ∀ k, k < b → isC a b (x + 8 * k) = true ∧ mirr a (x + 8 * k) = (a - 1 - x) + 8 * k := by decide +kernel
theorem sumTo_same {F G : Nat → Nat} : ∀ n, (∀ i, i < n → F i = G i) → sumTo F n = sumTo G n
  | 0, _ => rfl
  | 1, h => h 0 (by omega)
  | n + 2, h => by
    show fadd (sumTo F (n + 1)) (F (n + 1)) = fadd (sumTo G (n + 1)) (G (n + 1))
    rw [sumTo_same (n + 1) (fun i hi => h i (by omega)), h (n + 1) (by omega)]
theorem zone_mir {a b : Nat} (ha : a < 9) (hb : b < 9) (F : Nat → Nat) {x : Nat} (hx : x < a) : zonesF a b (mirF a b F) x = zonesF a b F (a - 1 - x) := by
  unfold zonesF mix
  rw [if_pos hx, if_pos (by omega)]
  unfold zoneAt
  congr 1
  refine sumTo_same b fun k hk => ?_
  obtain ⟨h1, h2⟩ := mirr_row a ha b hb x hx k hk
  unfold mirF mapA
  rw [h1]
  show F (mirr a (x + 8 * k)) = _
  rw [h2]
theorem zone_out {a b : Nat} (F : Nat → Nat) {x : Nat} (hx : ¬ x < a) : zonesF a b F x = 0 := by
  unfold zonesF mix
  rw [if_neg hx]
/-! ### masked -/
def maskF (a b : Nat) (G : Nat → Nat) (k : Nat) : Nat → Nat := fun i => if i < k ∧ isC a b i = false then 0 else G i
theorem mask_0 (a b : Nat) (G : Nat → Nat) : maskF a b G 0 = G := by funext i; unfold maskF; rw [if_neg (by omega)]
theorem mask_put {a b : Nat} {G : Nat → Nat} {k : Nat} (h : isC a b k = false) : upd (maskF a b G k) k 0 = maskF a b G (k + 1) := by
  funext i
  unfold upd maskF
  by_cases e : i = k
  · subst e; rw [if_pos rfl, if_pos ⟨by omega, h⟩]
  · rw [if_neg e]
    by_cases h1 : i < k ∧ isC a b i = false
    · rw [if_pos h1, if_pos ⟨by omega, h1.2⟩]
    · rw [if_neg h1, if_neg (fun h2 => h1 ⟨by omega, h2.2⟩)]
theorem mask_skip {a b : Nat} {G : Nat → Nat} {k : Nat} (h : isC a b k = true) : maskF a b G k = maskF a b G (k + 1) := by
  funext i
  unfold maskF
  by_cases h1 : i < k ∧ isC a b i = false
  · rw [if_pos h1, if_pos ⟨by omega, h1.2⟩]
  · rw [if_neg h1, if_neg (fun h2 => by
      by_cases e : i = k
      · subst e; rw [h] at h2; cases h2.2
      · exact h1 ⟨by omega, h2.2⟩)]
theorem DrawnP.mask {a b a' b' : Nat} {F G : Nat → Nat} (hP : DrawnP a b F) (hQ : DrawnP a' b' G) : DrawnP a b (maskF a b G 64) :=
  ⟨hP.a1, hP.a5, hP.b1, hP.b5, fun i => by
    unfold maskF
    split
    · exact ⟨(by decide +kernel : partB 0 = true), (by decide : 0 < 2 ^ 32)⟩
    · exact hQ.dot i, fun i hi => by
    unfold maskF
    by_cases h : i < 64
    · rw [if_pos ⟨h, hi⟩]
    · rw [if_neg (fun h2 => h h2.1)]
      refine hQ.out i (isC_no.2 fun h2 => ?_)
      have := hQ.b5
      omega⟩
/-! ### printed over, screened, inverted -/
section
variable {a b : Nat} {F G : Nat → Nat} (hP : DrawnP a b F) (hQ : DrawnP a b G)
include hP hQ
omit hP hQ in
theorem clip_lt {x : Nat} (h : x < 2 ^ 32) : clipR x < 2 ^ 32 := by
  unfold clipR
  split
  · decide
  · split
    · decide
    · exact h
theorem DrawnP.over : DrawnP a b (mapA a b (fun i => overN (F i) (G i)) (fun _ => 0)) := hP.map fun i _ => by
  have h := over_facts (hP.dot i).1 (hQ.dot i).1
  exact ⟨over_part (hP.dot i).1 (hQ.dot i).1, clip_lt (fadd_lt h.fd h.f2)⟩
theorem over_ge (i : Nat) : Z32 (F i) ≤ Z32 (overN (F i) (G i)) := by
  have h := over_facts (hP.dot i).1 (hQ.dot i).1
  obtain ⟨_, d2, d3⟩ := (part_iff _).1 (hP.dot i).1
  obtain ⟨_, m2, m3⟩ := (part_iff _).1 (part_mul (hQ.dot i).1 (part_one_sub (hP.dot i).1))
  have hge := fadd_ge h.fd h.f2 h.fd (by omega)
  unfold overN
  rw [clip_Z h.nv]
  split
  · exact d3
  · split <;> omega
end
section
variable {a b : Nat} {F : Nat → Nat} (hP : DrawnP a b F)
include hP
omit hP in
theorem screen_two (i : Nat) : screenF F i = 1065353216 ∨ screenF F i = 0 := by
  unfold screenF
  split
  · exact Or.inl rfl
  · exact Or.inr rfl
theorem DrawnP.screen : DrawnP a b (mapA a b (screenF F) (fun _ => 0)) := hP.map fun i _ => by
  rcases screen_two (F := F) i with h | h <;> rw [h] <;> decide +kernel
theorem DrawnP.invert : DrawnP a b (mapA a b (fun i => fsub 1065353216 (F i)) (fun _ => 0)) := hP.map fun i _ =>
  ⟨part_one_sub (hP.dot i).1, fsub_lt (by decide) (part_fin (hP.dot i).1)⟩
theorem DrawnP.put {v : Nat} (hv : partB v = true ∧ v < 2 ^ 32) : DrawnP a b (upd F 0 v) :=
  ⟨hP.a1, hP.a5, hP.b1, hP.b5, fun i => by
    unfold upd
    split
    · exact hv
    · exact hP.dot i, fun i hi => by
    unfold upd
    rw [if_neg (fun e => by
      subst e
      have h := isC_no.1 hi
      have := hP.a1
      have := hP.b1
      omega)]
    exact hP.out i hi⟩
/-! ### the darkest cell -/
omit hP in
theorem cellAt_lt {a k m : Nat} (h0 : 0 < a) (h5 : a ≤ 5) (hk : k < 25) (hm : m < k) : cellAt a m < cellAt a k := by
  obtain rfl | rfl | rfl | rfl | rfl : a = 1 ∨ a = 2 ∨ a = 3 ∨ a = 4 ∨ a = 5 := by omega
  all_goals (unfold cellAt; omega)
theorem area : 1 ≤ a * b ∧ a * b ≤ 25 := by
  have := Nat.mul_le_mul hP.a5 hP.b5
  have := Nat.mul_le_mul hP.a1 hP.b1
  omega
theorem dark_inv : ∀ k, 1 ≤ k → k ≤ a * b → (∃ m, m < k ∧ darkK F a k = cellAt a m) ∧ ∀ j, j < k → Z32 (F (cellAt a j)) ≤ Z32 (F (darkK F a k)) ∧ (cellAt a j < darkK F a k → Z32 (F (cellAt a j)) < Z32 (F (darkK F a k)))
  | 0, h, _ => absurd h (by omega)
  | 1, _, _ => by
    have e : cellAt a 0 = 0 := by simp [cellAt]
    rw [dark_1 (fin_nan (part_fin (hP.dot 0).1))]
    refine ⟨⟨0, by omega, e.symm⟩, fun j hj => ?_⟩
    obtain rfl : j = 0 := by omega
    rw [e]
    exact ⟨Int.le_refl _, fun h => absurd h (Nat.lt_irrefl 0)⟩
  | k + 2, _, hk => by
    obtain ⟨⟨m, hm, em⟩, ih⟩ := dark_inv (k + 1) (by omega) (by omega)
    have n1 := fin_nan (part_fin (hP.dot (cellAt a (k + 1))).1)
    have n2 := fin_nan (part_fin (hP.dot (darkK F a (k + 1))).1)
    have har := area hP
    cases h : (FloatKind.f32.format.order (F (cellAt a (k + 1))) (F (darkK F a (k + 1))) == some .gt)
    · rw [dark_keep rfl h]
      have hle : Z32 (F (cellAt a (k + 1))) ≤ Z32 (F (darkK F a (k + 1))) := by
        rw [order_Z n1 n2] at h
        rcases Int.lt_trichotomy (Z32 (F (cellAt a (k + 1)))) (Z32 (F (darkK F a (k + 1)))) with g | g | g
        · omega
        · omega
        · rw [Int.compare_eq_gt.2 g] at h; simp at h
      refine ⟨⟨m, by omega, em⟩, fun j hj => ?_⟩
      by_cases e : j = k + 1
      · subst e
        refine ⟨hle, fun hc => ?_⟩
        rw [em] at hc
        have := cellAt_lt (m := m) (k := k + 1) hP.a1 hP.a5 (by omega) (by omega)
        omega
      · exact ih j (by omega)
    · rw [dark_turn rfl h]
      have hgt : Z32 (F (darkK F a (k + 1))) < Z32 (F (cellAt a (k + 1))) := by
        rw [order_Z n1 n2] at h
        rcases Int.lt_trichotomy (Z32 (F (cellAt a (k + 1)))) (Z32 (F (darkK F a (k + 1)))) with g | g | g
        · rw [Int.compare_eq_lt.2 g] at h; simp at h
        · rw [Int.compare_eq_eq.2 g] at h; simp at h
        · omega
      refine ⟨⟨k + 1, by omega, rfl⟩, fun j hj => ?_⟩
      by_cases e : j = k + 1
      · subst e
        exact ⟨Int.le_refl _, fun hc => absurd hc (Nat.lt_irrefl _)⟩
      · have := ih j (by omega)
        exact ⟨by omega, fun _ => by omega⟩
theorem cell_index {i : Nat} (hi : i < 64) (hc : isC a b i = true) : ∃ j, j < a * b ∧ cellAt a j = i := by
  obtain ⟨h1, h2⟩ := cells_at a (by have := hP.a5; omega) b (by have := hP.b5; omega) i hi hc
  exact ⟨_, h2, h1⟩
theorem dark_top : darkK F a (a * b) < 64 ∧ isC a b (darkK F a (a * b)) = true ∧ ∀ i, i < 64 → isC a b i = true → Z32 (F i) ≤ Z32 (F (darkK F a (a * b))) ∧ (i < darkK F a (a * b) → Z32 (F i) < Z32 (F (darkK F a (a * b)))) := by
  have har := area hP
  obtain ⟨⟨m, hm, em⟩, ih⟩ := dark_inv hP (a * b) har.1 (Nat.le_refl _)
  obtain ⟨c1, c2, _⟩ := cells_of a (by have := hP.a5; omega) b (by have := hP.b5; omega) m (by omega) hm
  refine ⟨by rw [em]; exact c1, by rw [em]; exact c2, fun i hi hc => ?_⟩
  obtain ⟨j, hj, rfl⟩ := cell_index hP hi hc
  exact ih j hj
end
/-! ### the gap -/
section
variable {a b : Nat} {F G : Nat → Nat} (hP : DrawnP a b F) (hQ : DrawnP a b G)
include hP hQ
theorem gap_fin (i : Nat) : Fin32 (fsub (F i) (G i)) := fsub_fin (Or.inl (hP.dot i).1) (Or.inl (hQ.dot i).1)
theorem gap_num : ∀ k, ¬ Flt.NaN single (diffK F G a k) ∧ Flt.neg single (diffK F G a k) = false
  | 0 => ⟨(by decide : ¬ Flt.NaN single 0), (by decide : Flt.neg single 0 = false)⟩
  | k + 1 => by
    obtain ⟨m1, m2⟩ := gap_num k
    exact max_facts (fin_nan (gap_fin hP hQ _)) m1 m2
theorem gap_ge : ∀ k j, j < k → Z32 (absN (fsub (F (cellAt a j)) (G (cellAt a j)))) ≤ Z32 (diffK F G a k)
  | k + 1, j, hj => by
    have n1 := absN_num (fin_nan (gap_fin hP hQ (cellAt a k)))
    have n2 := (gap_num hP hQ k).1
    have hstep : Z32 (diffK F G a k) ≤ Z32 (diffK F G a (k + 1)) ∧ Z32 (absN (fsub (F (cellAt a k)) (G (cellAt a k)))) ≤ Z32 (diffK F G a (k + 1)) := by
      show _ ≤ Z32 (maxStep _ _) ∧ _ ≤ Z32 (maxStep _ _)
      unfold maxStep
      cases h : (FloatKind.f32.format.order (absN (fsub (F (cellAt a k)) (G (cellAt a k)))) (diffK F G a k) == some .gt)
      · rw [if_neg (by simp)]
        rw [order_Z n1 n2] at h
        rcases Int.lt_trichotomy (Z32 (absN (fsub (F (cellAt a k)) (G (cellAt a k))))) (Z32 (diffK F G a k)) with g | g | g
        · omega
        · omega
        · rw [Int.compare_eq_gt.2 g] at h; simp at h
      · rw [if_pos rfl]
        rw [order_Z n1 n2] at h
        rcases Int.lt_trichotomy (Z32 (absN (fsub (F (cellAt a k)) (G (cellAt a k))))) (Z32 (diffK F G a k)) with g | g | g
        · rw [Int.compare_eq_lt.2 g] at h; simp at h
        · rw [Int.compare_eq_eq.2 g] at h; simp at h
        · omega
    by_cases e : j = k
    · subst e; exact hstep.2
    · have := gap_ge k j (by omega)
      omega
theorem gap_near {i : Nat} (hi : i < 64) (hc : isC a b i = true) : ¬ Flt.NaN single (diffK F G a (a * b)) ∧ leF (absN (fsub (F i) (G i))) (diffK F G a (a * b)) = true := by
  obtain ⟨j, hj, rfl⟩ := cell_index hP hi hc
  have n2 := (gap_num hP hQ (a * b)).1
  exact ⟨n2, (leF_iff n2).2 ⟨absN_num (fin_nan (gap_fin hP hQ _)), gap_ge hP hQ _ j hj⟩⟩
end
/-! ### an even plate -/
theorem sum_half : ∀ n, n ≤ 25 → Fin32 (sumTo (fun _ => 1056964608) n) ∧ Z32 (sumTo (fun _ => 1056964608) n) = ((n * 2 ^ 148 : Nat) : Int)
  | 0, _ => ⟨(by decide : Fin32 0), by show Z32 0 = _; rw [Z_zero]; simp⟩
  | 1, _ => ⟨(by decide : Fin32 1056964608), by decide +kernel⟩
  | n + 2, h => by
    obtain ⟨f, z⟩ := sum_half (n + 1) (by omega)
    have fh : Fin32 1056964608 := by decide
    have zh : Z32 1056964608 = 2 ^ 148 := by decide +kernel
    obtain ⟨c, c1, c2⟩ := grid (n + 2) 148 (by omega) (by omega)
    have e : Z32 c = Z32 (sumTo (fun _ => 1056964608) (n + 1)) + Z32 1056964608 := by rw [z, zh, c2]; omega
    have h1 := fadd_le f fh c1 (by omega)
    have h2 := fadd_ge f fh c1 (by omega)
    have hz : Z32 (fadd (sumTo (fun _ => 1056964608) (n + 1)) 1056964608) = ((n + 2) * 2 ^ 148 : Nat) := by rw [← c2]; omega
    have hf : Fin32 (fadd (sumTo (fun _ => 1056964608) (n + 1)) 1056964608) := fin_of (num_fadd f fh) (by rw [hz]; omega) (by rw [hz]; omega)
    exact ⟨hf, hz⟩
def evenF (a b : Nat) : Nat → Nat := mapA a b (fun _ => 1056964608) (fun _ => 0)
theorem even_cover {a b : Nat} {F : Nat → Nat} (hP : DrawnP a b F) : DrawnP a b (evenF a b) ∧ FloatKind.f32.format.order (coverR a b (evenF a b)) 1056964608 = some .eq := by
  have hE : DrawnP a b (evenF a b) := hP.map fun i _ => ⟨(by decide +kernel : partB 1056964608 = true), (by decide : 1056964608 < 2 ^ 32)⟩
  refine ⟨hE, ?_⟩
  have har := area hP
  unfold coverR
  rw [hE.good, if_pos rfl]
  show FloatKind.f32.format.order (fdiv (sumTo (fun k => evenF a b (cellAt a k)) (a * b)) (cvtN (a * b))) 1056964608 = some .eq
  rw [sumTo_same (G := fun _ => 1056964608) (a * b) fun k hk => by
    obtain ⟨_, c2, _⟩ := cells_of a (by have := hP.a5; omega) b (by have := hP.b5; omega) k (by omega) hk
    show mapA a b (fun _ => 1056964608) (fun _ => 0) (cellAt a k) = 1056964608
    unfold mapA
    rw [c2]; rfl]
  obtain ⟨f, z⟩ := sum_half (a * b) har.2
  have hcv := cvtN_Z (a * b) (by omega)
  have fc : Fin32 (cvtN (a * b)) := (cvt_Z (a * b) (by omega)).1
  have hc0 : 0 < Z32 (cvtN (a * b)) := by rw [hcv]; omega
  have zh : Z32 1056964608 = 2 ^ 148 := by decide +kernel
  have fh : Fin32 1056964608 := by decide
  have s0 : 0 ≤ Z32 (sumTo (fun _ => 1056964608) (a * b)) := by rw [z]; omega
  have q1 := fdiv_le f fc s0 hc0 fh (by rw [zh]; omega) (by rw [z, hcv, zh]; omega)
  have q2 := fdiv_ge f fc s0 hc0 fh (by rw [zh]; omega) (by rw [z, hcv, zh]; omega)
  rw [order_Z (num_fdiv f fc (by omega : Z32 (cvtN (a * b)) ≠ 0)) (by decide)]
  rw [show compare (Z32 (fdiv (sumTo (fun _ => 1056964608) (a * b)) (cvtN (a * b)))) (Z32 1056964608) = .eq from Int.compare_eq_eq.2 (by omega)]
end Go.Proofs.YtekfmjddlemboaaGreatDoor
