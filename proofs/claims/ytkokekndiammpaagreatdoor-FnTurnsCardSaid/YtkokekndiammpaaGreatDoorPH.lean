/- Parts of a proof, merged; each under its own premises. -/
import Derived.Test.YtkokekndiammpaaGreatDoorPG
import Derived.Test.YtkokekndiammpaaGreatDoorPF
import Derived.ChangeSlices
import Derived.Shelf.LaysM
import Derived.Shelf.Strconv.Lower
import Derived.Shelf.Strconv.ParseUintEmpty
import Derived.Lib.Strings
import Derived.Lib.Walk
import Derived.Lib.ConvBytes
import Derived.Lib.ParseIntBMem
import Derived.Lib.Hide
import Derived.Laws.Strings3
import Derived.Laws.Closers25
import Derived.Laws.Closers25b
import Derived.WalkKit
import Derived.BigCall
import Derived.BigGuard
import Derived.Lib.ItoaWalk
import Derived.Lib.ItoaNum
import Derived.Laws.Bits64b
import Derived.Lib.LaidTab
import Derived.Laws.IdiomStrings
import Derived.Shelf.Strings.Builder1
import Derived.Shelf.Strings.Builder2
import Derived.Shelf.Strings.BuilderF
import Derived.Shelf.Strconv.Itoa0
import Derived.Shelf.Strconv.Itoa1
import Derived.Shelf.Strconv.Itoa2
import Derived.Shelf.Strconv.Itoa3
import Derived.Shelf.Strconv.Itoa4
import Derived.Shelf.Strconv.Clone
import Derived.Shelf.Strconv.RangeError
import Derived.Shelf.LaysC
import Derived.Shelf.Strconv.ToErrorRange
import Derived.Shelf.Strings.Search1
import Derived.Shelf.Strings.Search2
import Derived.Shelf.Strings.Search3
import Derived.Shelf.Strings.Cut
import Derived.Shelf.Strings.Count
import Derived.Shelf.Strings.Shaped
import Derived.Shelf.Strings.Prefix
import Derived.Shelf.Bits.Mul64
import Derived.Shelf.Strings.Repeat
import Derived.Shelf.Unicode.DecodeSlow
import Derived.Test.YtkokekndiammpaaGreatDoorProg
import Derived.Test.YtkokekndiammpaaGreatDoorPA
import Derived.ShutString
import Derived.Laws.MakeOwn

/-! Contracts of what FnTurns calls, of trains of small films; each under its own premises. -/
set_option linter.unusedVariables false
set_option linter.unusedSimpArgs false
namespace Go.Proofs.YtkokekndiammpaaGreatDoor
open Go.RowKit Ieee

/-- A slice of n numbers, its block below B. -/
def FltsAt (w : World) (B : Nat) (ao : Option Addr) (n : Nat) (G : Nat → Nat) : Prop := 0 < n → ∃ g : Nat, ao = some ⟨g, 0, none⟩ ∧ g < B ∧ ∀ j : Nat, j < n → w.cell? ⟨g, j, none⟩ = some (.float .f32 (G j))
theorem flts_below {B C : Nat} {w w' : World} {ao : Option Addr} {n : Nat} {G : Nat → Nat} (hb : Below C w w') (hB : B ≤ C) (h : FltsAt w B ao n G) : FltsAt w' B ao n G := fun hn => by
  obtain ⟨g, e, hl, hc⟩ := h hn
  exact ⟨g, e, hl, fun j hj => (hb.cell (p := ⟨g, j, none⟩) (Nat.lt_of_lt_of_le hl hB)).trans (hc j hj)⟩
theorem flts_wide {B C : Nat} {w : World} {ao : Option Addr} {n : Nat} {G : Nat → Nat} (hB : B ≤ C) (h : FltsAt w B ao n G) : FltsAt w C ao n G := fun hn => by
  obtain ⟨g, e, hl, hc⟩ := h hn
  exact ⟨g, e, Nat.lt_of_lt_of_le hl hB, hc⟩
theorem flts_set {B g : Nat} {w : World} {cs : Array Value} {ao : Option Addr} {n : Nat} {G : Nat → Nat} (hg : B ≤ g) (h : FltsAt w B ao n G) : FltsAt (w.setRow g cs) B ao n G := fun hn => by
  obtain ⟨g', e, hl, hc⟩ := h hn
  refine ⟨g', e, hl, fun j hj => ?_⟩
  have hb : Below g w (w.setRow g cs) := bel_row _ (Nat.le_refl _) (Below.refl _ _)
  exact (hb.cell (p := ⟨g', j, none⟩) (Nat.lt_of_lt_of_le hl hg)).trans (hc j hj)
theorem flts_of {w : World} {base n : Nat} {v : Value} {G : Nat → Nat} (h : Floats w base v n G) : ∃ (ao : Option Addr) (c : Nat), v = .slice ao n c ∧ FltsAt w w.heap.size ao n G := by
  obtain ⟨ao, c, hv, ho⟩ := h
  refine ⟨ao, c, hv, fun hn => ?_⟩
  obtain ⟨g, cur, e, h1, h2, h3, h4, h5⟩ := own_floats (ho hn) hn
  exact ⟨g, e, h2, fun j hj => (cell_of_row w g j _ _ _ h3).trans (h5 j hj)⟩
theorem a2at_any (ao : Option Addr) (n cap : Nat) (w : World) (hb : BytesAt w w.heap.size ao n) : Calls Tryz.prog 8 #[.slice ao n cap, .int .i64 0, .int .i64 20] w fun e w' => ∃ k : Nat, k ≤ 19 ∧ e = .returned (.int .i64 k) ∧ w = w' := by
  obtain ⟨hn, hc⟩ := hb
  unfold maxLen at hn
  by_cases h0 : n = 0
  · subst h0
    go_enter Tryz.func8, Tryz.ntmps8
    go_wp2
    go_ret
    exact ⟨0, by omega, rfl, rfl⟩
  · obtain ⟨a, rfl, hlt, hcell⟩ := hc (by omega)
    obtain ⟨x, hx, x0, x1⟩ := hcell 0 (by omega)
    have hx' : w.cell? a = some (.int .u8 x) := by rw [show a.add 0 = a from by simp [Addr.add]] at hx; exact hx
    clear hx hcell hc
    go_enter Tryz.func8, Tryz.ntmps8
    go_wp2
    go_ret
    exact ⟨(x % 20).toNat, by omega, by go_num, rfl⟩
set_option maxHeartbeats 1600000 in
theorem a2sameN_any (G : Nat → Nat) (n : Nat) (hn : n ≤ 19) (ao ao' : Option Addr) (c c' : Nat) (w : World) (B B' : Nat) (hc : FltsAt w B ao n G) (hc' : FltsAt w B' ao' n G) :
    Calls Tryz.prog 20 #[.slice ao n c, .slice ao' n c'] w fun e w' => e = .returned (.bool true) ∧ ∃ m, w' = w.drewN m := by
  have HC := Lib.hid hc
  have HC' := Lib.hid hc'
  clear hc hc'
  go_enter Tryz.func20, Tryz.ntmps20
  go_wp2
  go_loopw [5] (fun i wr => ∃ k m : Nat, k ≤ n ∧ i = .int .i64 k ∧ wr = w.drewN m) (fun i _ => n - (intOf i).toNat)
  case atStart => exact ⟨0, 0, by omega, rfl, rfl⟩
  case round =>
    obtain ⟨k, m, hk, rfl, hwr⟩ := hrel
    by_cases hlt : k < n
    · obtain ⟨g, rfl, _, hg⟩ := HC.out (by omega)
      obtain ⟨g', rfl, _, hg'⟩ := HC'.out (by omega)
      have ca : wr.cell? ⟨g, k, none⟩ = some (.float .f32 (G k)) := by rw [hwr]; exact hg k hlt
      have cb : wr.cell? ⟨g', k, none⟩ = some (.float .f32 (G k)) := by rw [hwr]; exact hg' k hlt
      have hk2 : sameN (G k) (G k) = true := sameN_self _
      have HW := Lib.hid hwr
      clear hwr hg hg'
      go_wp2
      go_quiet ((go_at_call 44; with_reducible exact specSame_q hk2 _ _))
      go_wp2
      go_roundw
      case rel => exact ⟨k + 1, _, by omega, by go_num, by rw [HW.out, World.drewN_drewN]⟩
      case measure => simp [intOf]; omega
    · obtain rfl : k = n := by omega
      have HW := Lib.hid hwr
      clear hwr
      go_wp2
      go_ret
      exact ⟨rfl, m, HW.out⟩
theorem a2sameN_b {G : Nat → Nat} {n : Nat} (hn : n ≤ 19) {ao ao' : Option Addr} {c c' : Nat} {w : World} {B B' : Nat} (hc : FltsAt w B ao n G) (hc' : FltsAt w B' ao' n G) :
    Calls Tryz.prog 20 #[.slice ao n c, .slice ao' n c'] w fun e w' => e = .returned (.bool true) ∧ Below w.heap.size w w' :=
  (a2sameN_any G n hn ao ao' c c' w B B' hc hc').mono fun e w' ⟨h, m, hm⟩ => ⟨h, by rw [hm]; exact bel_drewN m (Below.refl _ _)⟩
theorem near_b {a b wi : Nat} {v : Bool} (ha : Fin32 a) (hb : Fin32 b) (hd : Fin32 (fsub a b)) (hw : ¬ Flt.NaN single wi) (h : leF (absN (fsub a b)) wi = v) (w : World) :
    Calls Tryz.prog 21 #[.float .f32 a, .float .f32 b, .float .f32 wi] w fun e w' => e = .returned (.bool v) ∧ Below w.heap.size w w' :=
  (near_q ha hb hd hw h w 0).mono fun e w' ⟨h, m, hm⟩ => ⟨h, by rw [hm]; exact bel_drewN m (Below.refl _ _)⟩
theorem sameNum_b (a : Nat) (w : World) : Calls Tryz.prog 19 #[.float .f32 a, .float .f32 a] w fun e w' => e = .returned (.bool true) ∧ Below w.heap.size w w' :=
  (sameNum_any a w).mono fun e w' ⟨h, hm⟩ => ⟨h, by rw [← hm]; exact Below.refl _ _⟩

theorem sameIN {r : Int} {s t : Nat} {F : Nat → Nat} (hL : LtT s t F) (w : World) : Calls Tryz.prog 16 #[.agg (train r s t F), .agg (train r s t F)] w fun e w' => e = .returned (.bool true) ∧ Below w.heap.size w w' := by
  have := implSameTr_any r s t F r s t F w hL.1 hL.2.1 hL.2.2 hL.1 hL.2.1 hL.2.2
  rwa [sameT_eq (fun _ _ => rfl)] at this

section
variable {r : Int} {s t : Nat} {F : Nat → Nat} {fed cov : Nat} (hS : SmallT r s t F)
include hS
theorem sums_small (hf : Small fed) (hc : partB cov = true) {m : Nat} (hm : m ≤ 2000) : tsB r s t F fed cov m = true ∧ tsN r s t F fed cov m = m ∧ tsC r s t F fed cov m = 0 ∧ keptT r s t F fed cov m = sumTo (itF r s t fed cov F m) r.toNat := by
  have hb : tsB r s t F fed cov m = true := small_ts hS hf hc (m : Int) (by omega) (by omega)
  refine ⟨hb, by unfold tsN; rw [hb]; rfl, ?_, by unfold keptT; rw [hb]; rfl⟩
  have hb' := hb
  unfold tsB at hb'
  simp only [Bool.and_eq_true] at hb'
  unfold tsC
  rw [hb'.1.1, hb'.1.2, hb'.2]
  rfl
theorem timesSN (hf : Small fed) (hc : partB cov = true) {m : Nat} (hm : m ≤ 2000) (w : World) : Calls Tryz.prog 12 #[.agg (train r s t F), .float .f32 fed, .float .f32 cov, .int .i64 m] w fun e w' => e = .returned (.tuple #[.agg (train r s t (itF r s t fed cov F m)), .agg #[.float .f32 (sumTo (fun _ => fed) m), .float .f32 (sumTo (prF r s t fed cov F) m), .float .f32 (sumTo (itF r s t fed cov F m) r.toNat)], .int .i64 0]) ∧ Below w.heap.size w w' := by
  obtain ⟨h1, h2, h3, h4⟩ := sums_small hS hf hc hm
  have := specTimes_any r s t F fed cov m w hS.lo hS.hi (by omega) (by omega)
  rw [h1, h2, h3, h4] at this
  exact this
theorem timesIN (hf : Small fed) (hc : partB cov = true) {m : Nat} (hm : m ≤ 2000) (w : World) : Calls Tryz.prog 11 #[.agg (train r s t F), .float .f32 fed, .float .f32 cov, .int .i64 m] w fun e w' => e = .returned (.tuple #[.agg (train r s t (itF r s t fed cov F m)), .agg #[.float .f32 (sumTo (fun _ => fed) m), .float .f32 (sumTo (prF r s t fed cov F) m), .float .f32 (sumTo (itF r s t fed cov F m) r.toNat)], .int .i64 0]) ∧ Below w.heap.size w w' := by
  obtain ⟨h1, h2, h3, h4⟩ := sums_small hS hf hc hm
  have := implTimes_any r s t F fed cov m w hS.lo hS.hi (by omega) (by omega)
  rw [h1, h2, h3, h4] at this
  exact this
theorem printedSN (hf : Small fed) (hc : partB cov = true) {m : Nat} (hm : m ≤ 2000) (w : World) : Calls Tryz.prog 14 #[.agg (train r s t F), .float .f32 fed, .float .f32 cov, .int .i64 m] w fun e w' => (∃ (ao : Option Addr) (c : Nat), e = .returned (.tuple #[.slice ao m c, .int .i64 0]) ∧ FltsAt w' w'.heap.size ao m (prF r s t fed cov F)) ∧ Below w.heap.size w w' := by
  obtain ⟨h1, h2, h3, h4⟩ := sums_small hS hf hc hm
  have := specPrinted_any r s t F fed cov m w hS.lo hS.hi (by omega) (by omega)
  rw [h2, h3] at this
  refine this.mono fun e w' hh => ?_
  obtain ⟨v, he, hfl, hbel⟩ := hh
  obtain ⟨ao, c, rfl, hA⟩ := flts_of hfl
  exact ⟨⟨ao, c, he, hA⟩, hbel⟩
theorem printedIN (hf : Small fed) (hc : partB cov = true) {m : Nat} (hm : m ≤ 2000) (w : World) : Calls Tryz.prog 13 #[.agg (train r s t F), .float .f32 fed, .float .f32 cov, .int .i64 m] w fun e w' => (∃ (ao : Option Addr) (c : Nat), e = .returned (.tuple #[.slice ao m c, .int .i64 0]) ∧ FltsAt w' w'.heap.size ao m (prF r s t fed cov F)) ∧ Below w.heap.size w w' := by
  obtain ⟨h1, h2, h3, h4⟩ := sums_small hS hf hc hm
  have := implPrinted_any r s t F fed cov m w hS.lo hS.hi (by omega) (by omega)
  rw [h2, h3] at this
  refine this.mono fun e w' hh => ?_
  obtain ⟨v, he, hfl, hbel⟩ := hh
  obtain ⟨ao, c, rfl, hA⟩ := flts_of hfl
  exact ⟨⟨ao, c, he, hA⟩, hbel⟩
theorem once_ok (hf : Small fed) (hc : partB cov = true) {k : Nat} (hk : k < 2000) : onceB r s t (itF r s t fed cov F k) fed cov = true ∧ onceC r s t (itF r s t fed cov F k) fed cov = 0 := by
  have h1 : trainB r s t (itF r s t fed cov F k) = true := it_train hS hf hc k (by omega)
  have h2 : trainB r s t (turnF r s t (itF r s t fed cov F k) fed cov) = true := it_train hS hf hc (k + 1) (by omega)
  have ha : askB r s t (itF r s t fed cov F k) fed cov = true := by unfold askB; rw [h1, small_film hf, hc]; rfl
  unfold onceB onceC
  rw [ha, h2]
  exact ⟨rfl, rfl⟩
theorem onceSN (hf : Small fed) (hc : partB cov = true) {k : Nat} (hk : k < 2000) (w : World) : Calls Tryz.prog 23 #[.agg (train r s t (itF r s t fed cov F k)), .float .f32 fed, .float .f32 cov] w fun e w' => e = .returned (.tuple #[.agg (train r s t (itF r s t fed cov F (k + 1))), .float .f32 (prF r s t fed cov F k), .int .i64 0]) ∧ Below w.heap.size w w' := by
  obtain ⟨h1, h2⟩ := once_ok hS hf hc hk
  have := specOnce_any r s t (itF r s t fed cov F k) fed cov w hS.lo hS.hi
  rw [h1, h2] at this
  exact this
theorem onceIN (hf : Small fed) (hc : partB cov = true) {k : Nat} (hk : k < 2000) (w : World) : Calls Tryz.prog 22 #[.agg (train r s t (itF r s t fed cov F k)), .float .f32 fed, .float .f32 cov] w fun e w' => e = .returned (.tuple #[.agg (train r s t (itF r s t fed cov F (k + 1))), .float .f32 (prF r s t fed cov F k), .int .i64 0]) ∧ Below w.heap.size w w' := by
  obtain ⟨h1, h2⟩ := once_ok hS hf hc hk
  have := implOnce_any r s t (itF r s t fed cov F k) fed cov w hS.lo hS.hi
  rw [h1, h2] at this
  exact this
theorem inkIN (w : World) : Calls Tryz.prog 15 #[.agg (train r s t F)] w fun e w' => e = .returned (.tuple #[.float .f32 (sumTo F r.toNat), .int .i64 0]) ∧ Below w.heap.size w w' := by
  have := implInkOn_any r s t F w hS.lo hS.hi
  unfold inkR codeV at this
  rw [hS.ok] at this
  exact this
theorem validIN (w : World) : Calls Tryz.prog 18 #[.agg (train r s t F)] w fun e w' => e = .returned (.bool true) ∧ Below w.heap.size w w' := by
  have := implOk_any r s t F w hS.lo hS.hi
  rwa [hS.ok] at this
theorem validKN (hf : Small fed) (hc : partB cov = true) {k : Nat} (hk : k ≤ 2000) (w : World) : Calls Tryz.prog 18 #[.agg (train r s t (itF r s t fed cov F k))] w fun e w' => e = .returned (.bool true) ∧ Below w.heap.size w w' := by
  have := implOk_any r s t (itF r s t fed cov F k) w hS.lo hS.hi
  rwa [show trainB r s t (itF r s t fed cov F k) = true from it_train hS hf hc k hk] at this
theorem ink_pos (hf : Small fed) (hc : partB cov = true) {k n : Nat} (hk : k < n) (hn : n ≤ 19) : (FloatKind.f32.format.order (prF r s t fed cov F k) 0 == some .lt) = false := by
  obtain ⟨_, p2, _⟩ := it_two hS hf hc n hn
  obtain ⟨f1, f2⟩ := p2 k hk
  rw [order_Z (fin_nan f1) (by decide)]
  rw [show Z32 0 = 0 from Z_zero]
  cases h : compare (Z32 (prF r s t fed cov F k)) 0
  · rw [Int.compare_eq_lt] at h; omega
  · rfl
  · rfl
end
end Go.Proofs.YtkokekndiammpaaGreatDoor

/-! Small laws of worlds, and the parts of a function's code; each under its own premises. -/
set_option linter.unusedVariables false
set_option linter.unusedSimpArgs false
namespace Go.Proofs.YtkokekndiammpaaGreatDoor
open Go.RowKit Ieee
theorem lt_of_heap {w : World} {g : Nat} {o : Obj} (h : w.heap[g]? = some o) : g < w.heap.size := by
  obtain ⟨h1, _⟩ := Array.getElem?_eq_some_iff.1 h
  exact h1
theorem chain1 {wk : World} {o o1 : Obj} {cs : Array Value} {g : Nat} (h : wk.heap[g]? = some o1) : ((wk.alloc o).setRow wk.heap.size cs).heap[g]? = some o1 := by
  have hl := lt_of_heap h
  exact blk_off _ _ _ _ (by omega) (blk_old _ _ _ hl h)
theorem chainN (wk : World) (a cs : Array Value) (t : TypeId) : ((wk.alloc (.cells a t)).setRow wk.heap.size cs).heap[wk.heap.size]? = some (.cells cs t (0, 0)) := blk_set _ _ _ _ _ _ _ rfl (blk_new _ _ _ rfl)
theorem old0 {wk w2 : World} {o1 : Obj} {g : Nat} (hb : Below wk.heap.size wk w2) (h : wk.heap[g]? = some o1) : w2.heap[g]? = some o1 := blk_below hb (lt_of_heap h) h
theorem old1 {wk w2 : World} {o o1 : Obj} {cs : Array Value} {g : Nat} (hb : Below ((wk.alloc o).setRow wk.heap.size cs).heap.size ((wk.alloc o).setRow wk.heap.size cs) w2) (h : wk.heap[g]? = some o1) : w2.heap[g]? = some o1 := by
  have hl := lt_of_heap h
  exact blk_below hb (by simp; omega) (chain1 h)
theorem new1 {wk w2 : World} {a cs : Array Value} {t : TypeId} (hb : Below ((wk.alloc (.cells a t)).setRow wk.heap.size cs).heap.size ((wk.alloc (.cells a t)).setRow wk.heap.size cs) w2) : w2.heap[wk.heap.size]? = some (.cells cs t (0, 0)) :=
  blk_below hb (by simp) (chainN _ _ _ _)
theorem bel0 {B : Nat} {w wk w2 : World} (hb : Below wk.heap.size wk w2) (h : Below B w wk) (hl : B ≤ wk.heap.size) : Below B w w2 := h.trans (hb.mono hl)
theorem belr {B : Nat} {w wk : World} {o : Obj} {cs : Array Value} (h : Below B w wk) (hl : B ≤ wk.heap.size) : Below B w ((wk.alloc o).setRow wk.heap.size cs) := bel_row _ hl (bel_alloc _ hl h)
theorem bel1 {B : Nat} {w wk w2 : World} {o : Obj} {cs : Array Value} (hb : Below ((wk.alloc o).setRow wk.heap.size cs).heap.size ((wk.alloc o).setRow wk.heap.size cs) w2) (h : Below B w wk) (hl : B ≤ wk.heap.size) : Below B w w2 :=
  bel_next hb (by simp; omega) (bel_row _ hl (bel_alloc _ hl h))

/-! ### the parts of a code -/
def cL : Code → Code
  | .seq a _ => a
  | c => c
def cR : Code → Code
  | .seq _ b => b
  | c => c
def cRn : Nat → Code → Code
  | 0, c => c
  | n + 1, c => cRn n (cR c)
def bodyOf (f : Func) : Code := f.body.getD .skip
end Go.Proofs.YtkokekndiammpaaGreatDoor

/-! The bytes that a law's argument holds. -/
set_option linter.unusedVariables false
set_option linter.unusedSimpArgs false
namespace Go.Proofs.YtkokekndiammpaaGreatDoor
open Go.ChangeShapes Go.WideShapes Go.ChangeAt Go.RowKit

theorem cell_in {w : World} {a : Addr} {v : Value} (h : w.cell? a = some v) : a.block < w.heap.size := by
  refine Classical.byContradiction fun hn => ?_
  have : w.heap[a.block]? = none := Array.getElem?_eq_none (by omega)
  simp [World.cell?, this] at h
theorem form_bytes {H : Type} {P : Program} {enc : TypeId × Value → H} {r : Reach} {W : World} {b0 : Nat} {t e : TypeId} {v : Value} {d : DataW H} {ps : List MemPlace} {base : Nat} {spare : Nat → Bool} {held : Bool} (ht : P.underlying t = some (.slice e)) (he : P.underlying e = some (.int .u8)) (hc : P.cellsOf e = 1)
    (hval : Value.okWide P W r b0 t v) (hd : DataW.Trod enc P W base spare held t v d ps) : ∃ (ao : Option Addr) (n cap : Nat), v = .slice ao n cap ∧ BytesAt W W.heap.size ao n := by
  obtain ⟨a0, n0, c0, rfl⟩ := okWide_slice ht hval
  refine ⟨a0, n0, c0, rfl, ?_⟩
  obtain ⟨fuel, hf⟩ := hd
  rcases open_ints ht he hc hf with ⟨hcs, _⟩ | ⟨a, len, cap, zs, hcs, _, hl, hm, hz, _, hcell, hwz⟩
  · obtain ⟨rfl, rfl, rfl⟩ : a0 = none ∧ n0 = 0 ∧ c0 = 0 := by simpa [Value.cells] using hcs
    exact ⟨Nat.zero_le _, fun h => by omega⟩
  · obtain ⟨rfl, rfl, rfl⟩ : a0 = some a ∧ n0 = len ∧ c0 = cap := by simpa [Value.cells] using hcs
    have hlen : n0 ≤ zs.length := by rw [hz]; split <;> omega
    refine ⟨by omega, fun h => ⟨a, rfl, ?_, fun i hi => ?_⟩⟩
    · have := cell_in (hcell 0 (by omega))
      rwa [show (a.add 0).block = a.block from by unfold Addr.add; split <;> rfl] at this
    · refine ⟨zs.getD i 0, hcell i (by omega), ?_⟩
      have hw := hwz (zs.getD i 0) (by
        rw [List.getD_eq_getElem?_getD, List.getElem?_eq_getElem (by omega)]
        exact List.getElem_mem _)
      generalize zs.getD i 0 = z at hw ⊢
      simp [Lit.wf, IntKind.min, IntKind.max, IntKind.signed, IntKind.bits] at hw
      omega
end Go.Proofs.YtkokekndiammpaaGreatDoor

/-! Numbers and their texts of eight hexadecimal digits; plain, no program in sight. -/
set_option linter.unusedVariables false
set_option linter.unusedSimpArgs false
namespace Go.Proofs.YtkokekndiammpaaGreatDoor

/-- The byte of a digit. -/
def hexDig (n : Nat) : UInt8 := UInt8.ofNat (if n < 10 then 48 + n else 87 + n)
/-- The lowest k digits of u. -/
def hexL : Nat → Nat → List UInt8
  | 0, _ => []
  | k + 1, u => hexL k (u / 16) ++ [hexDig (u % 16)]
/-- The digits of u without leading zeros, at most k. -/
def hexS : Nat → Nat → List UInt8
  | 0, _ => []
  | k + 1, u => if u < 16 then [hexDig u] else hexS k (u / 16) ++ [hexDig (u % 16)]
/-- The digit of a byte. -/
def digOf (c : Nat) : Option Nat := if 48 ≤ c ∧ c ≤ 57 then some (c - 48) else if 97 ≤ c ∧ c ≤ 102 then some (c - 87) else none

theorem hexL_length : ∀ k u, (hexL k u).length = k
  | 0, _ => rfl
  | k + 1, u => by simp [hexL, hexL_length k]
theorem hexL_zero : ∀ k, hexL k 0 = List.replicate k 48
  | 0 => rfl
  | k + 1 => by
    show hexL k 0 ++ [hexDig 0] = _
    rw [hexL_zero k, List.replicate_succ']
    rfl
theorem hexS_length_le : ∀ k u, (hexS k u).length ≤ k
  | 0, _ => Nat.le_refl _
  | k + 1, u => by
    unfold hexS
    split
    · simp
    · have := hexS_length_le k (u / 16); simp; omega
theorem hexS_pad : ∀ k u, 0 < k → u < 16 ^ k → List.replicate (k - (hexS k u).length) 48 ++ hexS k u = hexL k u
  | 0, _, h, _ => absurd h (by omega)
  | k + 1, u, _, h => by
    unfold hexS hexL
    split
    · rename_i hu
      have e0 : u / 16 = 0 := by omega
      have e1 : u % 16 = u := by omega
      rw [e0, e1, hexL_zero]
      simp
    · rename_i hu
      have hk : 0 < k := by
        cases k with
        | zero => simp at h; omega
        | succ k => omega
      have hd : u / 16 < 16 ^ k := by rw [Nat.pow_succ] at h; omega
      have ih := hexS_pad k (u / 16) hk hd
      have hl := hexS_length_le k (u / 16)
      rw [← ih, List.length_append, List.length_singleton, Nat.add_sub_add_right, List.append_assoc]
/-- The value of digits, the first ones the highest, behind a value already read; none if a byte is no digit. -/
def hexV : Nat → List UInt8 → Option Nat
  | a, [] => some a
  | a, c :: l => match digOf c.toNat with
    | some d => hexV (a * 16 + d) l
    | none => none

theorem digOf_hexDig : ∀ n, n < 16 → digOf (hexDig n).toNat = some n := by decide
theorem hexDig_digOf : ∀ c : Nat, c < 256 → ∀ d, digOf c = some d → d < 16 ∧ hexDig d = UInt8.ofNat c := by
  intro c hc d hd
  unfold digOf at hd
  split at hd
  · injection hd with hd
    subst hd
    refine ⟨by omega, ?_⟩
    unfold hexDig
    rw [if_pos (by omega)]
    congr 1
    omega
  · split at hd
    · injection hd with hd
      subst hd
      refine ⟨by omega, ?_⟩
      unfold hexDig
      rw [if_neg (by omega)]
      congr 1
      omega
    · exact absurd hd (by simp)
theorem hexV_cons (a : Nat) (c : UInt8) (l : List UInt8) : hexV a (c :: l) = (digOf c.toNat).bind fun d => hexV (a * 16 + d) l := by
  show (match digOf c.toNat with | some d => hexV (a * 16 + d) l | none => none) = _
  cases digOf c.toNat <;> rfl
theorem hexV_append : ∀ (l : List UInt8) (a : Nat) (m : List UInt8), hexV a (l ++ m) = (hexV a l).bind fun b => hexV b m
  | [], _, _ => rfl
  | c :: l, a, m => by
    rw [List.cons_append, hexV_cons, hexV_cons]
    cases digOf c.toNat with
    | none => rfl
    | some d => exact hexV_append l _ m
theorem hexV_hexL : ∀ k u a, u < 16 ^ k → hexV a (hexL k u) = some (a * 16 ^ k + u)
  | 0, u, a, h => by simp at h; simp [hexL, hexV, h]
  | k + 1, u, a, h => by
    have hd : u / 16 < 16 ^ k := by rw [Nat.pow_succ] at h; omega
    rw [show hexL (k + 1) u = hexL k (u / 16) ++ [hexDig (u % 16)] from rfl, hexV_append, hexV_hexL k _ a hd]
    show (match digOf (hexDig (u % 16)).toNat with | some d => hexV ((a * 16 ^ k + u / 16) * 16 + d) [] | none => none) = _
    rw [digOf_hexDig _ (by omega)]
    show some ((a * 16 ^ k + u / 16) * 16 + u % 16) = _
    congr 1
    rw [Nat.pow_succ, Nat.add_mul, Nat.mul_assoc]
    omega
theorem hexL_hexV : ∀ (l : List UInt8) (v : Nat), hexV 0 l = some v → v < 16 ^ l.length ∧ l = hexL l.length v := by
  intro l
  -- from the last byte on
  suffices h : ∀ (m : List UInt8) v, hexV 0 m.reverse = some v → v < 16 ^ m.length ∧ m.reverse = hexL m.length v by
    intro v hv
    have := h l.reverse v (by simpa using hv)
    simpa using this
  intro m
  induction m with
  | nil => intro v hv; simp [hexV] at hv; subst hv; simp [hexL]
  | cons c m ih =>
    intro v hv
    rw [List.reverse_cons, hexV_append] at hv
    cases h1 : hexV 0 m.reverse with
    | none => rw [h1] at hv; simp at hv
    | some b =>
      rw [h1] at hv
      obtain ⟨hb, eb⟩ := ih b h1
      simp only [Option.bind] at hv
      cases h2 : digOf c.toNat with
      | none => simp [hexV, h2] at hv
      | some d =>
        simp [hexV, h2] at hv
        obtain ⟨hd, ed⟩ := hexDig_digOf c.toNat c.toNat_lt d h2
        subst hv
        have e0 : (b * 16 + d) / 16 = b := by omega
        have e1 : (b * 16 + d) % 16 = d := by omega
        refine ⟨by rw [List.length_cons, Nat.pow_succ]; omega, ?_⟩
        rw [List.reverse_cons, List.length_cons, show hexL (m.length + 1) (b * 16 + d) = hexL m.length ((b * 16 + d) / 16) ++ [hexDig ((b * 16 + d) % 16)] from rfl, e0, e1, ← eb, ed]
        congr 1
        simp

end Go.Proofs.YtkokekndiammpaaGreatDoor

/-! internal/strconv.ParseUint(s, 16, 32), over any program that lays it. -/
set_option linter.unusedVariables false
set_option linter.unusedSimpArgs false
namespace Go.Proofs.YtkokekndiammpaaGreatDoor
open Go.Shelf Go.RowKit
variable {P : Program} {ρ : Ren}

/-- The digit of a byte, capitals too. -/
def digU (c : Nat) : Option Nat := if 48 ≤ c ∧ c ≤ 57 then some (c - 48) else if 97 ≤ c ∧ c ≤ 102 then some (c - 87) else if 65 ≤ c ∧ c ≤ 70 then some (c - 55) else none
/-- The value of digits, of 32 bits at most. -/
def hexU : Nat → List UInt8 → Option Nat
  | a, [] => some a
  | a, c :: l => match digU c.toNat with
    | some d => if a * 16 + d ≤ 4294967295 then hexU (a * 16 + d) l else none
    | none => none
theorem low_same : ∀ c : Nat, c < 256 → 97 ≤ c → c ≤ 122 → bits .or .u8 (c : Int) 32 = (c : Int) := by decide +kernel
theorem low_cap : ∀ c : Nat, c < 256 → 65 ≤ c → c ≤ 90 → bits .or .u8 (c : Int) 32 = (c : Int) + 32 := by decide +kernel
theorem low_no : ∀ c : Nat, c < 256 → ¬ (97 ≤ c ∧ c ≤ 122) → ¬ (65 ≤ c ∧ c ≤ 90) → ¬ (97 ≤ bits .or .u8 (c : Int) 32 ∧ bits .or .u8 (c : Int) 32 ≤ 122) := by decide +kernel

/-- What the outcome is: the number, or some error. -/
def uintEnd (T : TypeId) (o : Option Nat) (v : Value) : Prop :=
  match o with
  | some n => v = .tuple #[.int .u64 n, .nilIface]
  | none => ∃ (M e : Int), (e = 1 ∨ e = 2) ∧ v = .tuple #[.int .u64 M, .iface T (.int .i64 e)]

set_option maxHeartbeats 32000000 in
set_option maxRecDepth 100000 in
theorem parseUint16 (L : Lays.n287 P ρ) (t : ByteArray) (hne : t.size ≠ 0) (hmax : t.size ≤ 9223372036854775806) (w : World) :
    Calls P (ρ.f 287) #[.string t, .int .i64 16, .int .i64 32] w fun e w' => (∃ v, e = .returned v ∧ uintEnd (ρ.t 167) (hexU 0 t.data.toList) v) ∧ w' = Lib.bytesWorld w (ρ.t 5) t := by
  have mixed := L.mixed
  have t9 := L.t9; have a9 := L.a9; have z9 := L.z9; have v9 := L.v9
  have t3 := L.t3; have a3 := L.a3; have z3 := L.z3; have v3 := L.v3
  have t53 := L.t53; have a53 := L.a53; have z53 := L.z53; have v53 := L.v53
  have t75 := L.t75; have a75 := L.a75; have z75 := L.z75; have v75 := L.v75
  have t4 := L.t4; have a4 := L.a4; have z4 := L.z4; have v4 := L.v4
  have t167 := L.t167; have a167 := L.a167; have z167 := L.z167; have v167 := L.v167
  have t5 := L.t5; have a5 := L.a5; have z5 := L.z5; have v5 := L.v5
  have t46 := L.t46; have a46 := L.a46; have z46 := L.z46; have v46 := L.v46
  have t37 := L.t37; have a37 := L.a37; have z37 := L.z37; have v37 := L.v37
  have t0 := L.t0; have a0 := L.a0; have z0 := L.z0; have v0 := L.v0
  have e321 : ∀ args w, (callFunc (ρ.f 321) args).run P w = .ok (.enter (ρ.f 321) args) w := enters_of L.f321 (by kernel_rfl) rfl
  have hemp : t.toList.isEmpty = false := by
    rw [← decide_eq_emptyBytes]
    exact decide_eq_false (fun h => hne (by rw [h]; rfl))
  have hcv := Lib.run_convert_string_bytes (P := P) w (ρ.t 9) (ρ.t 37) (ρ.t 5) t (u := .string) L.t9 L.t37 L.t5
  have hB : ∀ j, j < t.size → (Lib.bytesWorld w (ρ.t 5) t).cell? ⟨w.heap.size, j, none⟩ = some (.int .u8 (t.data.toList.getD j 0).toNat) := fun j hj => Lib.bytesWorld_cell w (ρ.t 5) t j hj
  obtain ⟨W1, hW1⟩ : ∃ W1, W1 = Lib.bytesWorld w (ρ.t 5) t := ⟨_, rfl⟩
  rw [← hW1] at hcv hB ⊢
  clear hW1
  obtain ⟨bs, hL⟩ : ∃ bs, bs = t.data.toList := ⟨_, rfl⟩
  have hLn : bs.length = t.size := by rw [hL, Lib.size_eq]
  rw [← hL] at hB ⊢
  clear hL
  have hmv : IntKind.u64.wrap (IntKind.u64.wrap 4294967296 - 1) = 4294967295 := by
    rw [IntKind.wrap_u64, IntKind.wrap_u64]
    decide
  go_enter L.f287, Body.n287_ntmps ρ
  go_wp2
  go_loop [12, 13, 101] (fun vu vn vi => ∃ (k acc : Nat) (a : Int), vu = .bool false ∧ vn = .int .u64 a ∧ vi = .int .i64 k ∧ k ≤ t.size ∧ Hid (a = (acc : Int) ∧ acc ≤ 4294967295 ∧ hexU 0 bs = hexU acc (bs.drop k)))
    (fun _ _ vi => t.size - (intOf vi).toNat)
  case atStart => exact ⟨0, 0, 0, rfl, rfl, rfl, by omega, rfl, by omega, rfl⟩
  case round =>
    obtain ⟨k, acc, a, rfl, rfl, rfl, hk, hh⟩ := hrel
    obtain ⟨ha, hacc, hdec⟩ := hh.out
    clear hh
    have a0 : 0 ≤ a := by omega
    have a1 : a ≤ 4294967295 := by omega
    by_cases hkn : k < t.size
    · have hc := hB k hkn
      have hdrop : bs.drop k = bs[k]'(by omega) :: bs.drop (k + 1) := List.drop_eq_getElem_cons (by omega)
      have hget : bs.getD k 0 = bs[k]'(by omega) := by simp [List.getD, List.getElem?_eq_getElem (show k < bs.length by omega)]
      rw [hdrop] at hdec
      rw [hget] at hc
      generalize bs[k]'(by omega) = c at hc hdec
      have hc256 : c.toNat < 256 := c.toNat_lt
      clear hB hdrop hget
      cases hd : digU c.toNat with
      | some d =>
        by_cases hov : acc * 16 + d ≤ 4294967295
        · have hF : hexU acc (c :: bs.drop (k + 1)) = hexU (acc * 16 + d) (bs.drop (k + 1)) := by simp [hexU, hd, hov]
          have HN : Hid (a * 16 + (d : Int) = ((acc * 16 + d : Nat) : Int) ∧ acc * 16 + d ≤ 4294967295 ∧ hexU 0 bs = hexU (acc * 16 + d) (bs.drop (k + 1))) := Lib.hid ⟨by omega, by omega, hdec.trans hF⟩
          have iov : a * 16 + (d : Int) ≤ 4294967295 := by omega
          by_cases h1 : 48 ≤ c.toNat ∧ c.toNat ≤ 57
          · have hdv : d = c.toNat - 48 := by rw [digU, if_pos h1] at hd; injection hd with hd; exact hd.symm
            obtain ⟨h1a, h1b⟩ := h1
            obtain rfl := hdv
            clear hacc hF hov hdec ha hd
            go_wp2
            refine ⟨⟨k + 1, _, _, rfl, ?_, ?_, by omega, HN⟩, by simp [intOf]; omega⟩
            · congr 1; omega
            · first | rfl | (congr 1; omega)
          · by_cases h2 : 97 ≤ c.toNat ∧ c.toNat ≤ 102
            · have hdv : d = c.toNat - 87 := by rw [digU, if_neg h1, if_pos h2] at hd; injection hd with hd; exact hd.symm
              have hlow := low_same c.toNat hc256 (by omega) (by omega)
              obtain ⟨h2a, h2b⟩ := h2
              clear h1
              obtain rfl := hdv
              clear hacc hF hov hdec ha hd
              go_wp2_with (go_at_fn (ρ.f 321); refine (Any.internal_strconv_lower { L with } _ _).mono ?_; rintro e w' ⟨rfl, rfl⟩; rw [hlow])
              refine ⟨⟨k + 1, _, _, rfl, ?_, ?_, by omega, HN⟩, by simp [intOf]; omega⟩
              · congr 1; omega
              · first | rfl | (congr 1; omega)
            · have h3 : 65 ≤ c.toNat ∧ c.toNat ≤ 70 := by
                unfold digU at hd
                rw [if_neg h1, if_neg h2] at hd
                exact Classical.byContradiction fun h => by rw [if_neg h] at hd; exact absurd hd (by simp)
              have hdv : d = c.toNat - 55 := by rw [digU, if_neg h1, if_neg h2, if_pos h3] at hd; injection hd with hd; exact hd.symm
              have hlow := low_cap c.toNat hc256 (by omega) (by omega)
              obtain ⟨h3a, h3b⟩ := h3
              clear h1 h2
              obtain rfl := hdv
              clear hacc hF hov hdec ha hd
              go_wp2_with (go_at_fn (ρ.f 321); refine (Any.internal_strconv_lower { L with } _ _).mono ?_; rintro e w' ⟨rfl, rfl⟩; rw [hlow])
              refine ⟨⟨k + 1, _, _, rfl, ?_, ?_, by omega, HN⟩, by simp [intOf]; omega⟩
              · congr 1; omega
              · first | rfl | (congr 1; omega)
        · -- OVER THE SIZE
          have hF : hexU acc (c :: bs.drop (k + 1)) = none := by simp [hexU, hd, hov]
          rw [hF] at hdec
          have HD := Lib.hid hdec
          have iov : 4294967295 < a * 16 + (d : Int) := by omega
          by_cases h1 : 48 ≤ c.toNat ∧ c.toNat ≤ 57
          · have hdv : d = c.toNat - 48 := by rw [digU, if_pos h1] at hd; injection hd with hd; exact hd.symm
            obtain ⟨h1a, h1b⟩ := h1
            obtain rfl := hdv
            clear hacc hF hov hdec ha hd
            go_wp2
            go_ret2
            exact ⟨⟨_, rfl, by rw [HD.out]; exact ⟨_, 1, Or.inl rfl, rfl⟩⟩, rfl⟩
          · by_cases h2 : 97 ≤ c.toNat ∧ c.toNat ≤ 102
            · have hdv : d = c.toNat - 87 := by rw [digU, if_neg h1, if_pos h2] at hd; injection hd with hd; exact hd.symm
              have hlow := low_same c.toNat hc256 (by omega) (by omega)
              obtain ⟨h2a, h2b⟩ := h2
              clear h1
              obtain rfl := hdv
              clear hacc hF hov hdec ha hd
              go_wp2_with (go_at_fn (ρ.f 321); refine (Any.internal_strconv_lower { L with } _ _).mono ?_; rintro e w' ⟨rfl, rfl⟩; rw [hlow])
              go_ret2
              exact ⟨⟨_, rfl, by rw [HD.out]; exact ⟨_, 1, Or.inl rfl, rfl⟩⟩, rfl⟩
            · have h3 : 65 ≤ c.toNat ∧ c.toNat ≤ 70 := by
                unfold digU at hd
                rw [if_neg h1, if_neg h2] at hd
                exact Classical.byContradiction fun h => by rw [if_neg h] at hd; exact absurd hd (by simp)
              have hdv : d = c.toNat - 55 := by rw [digU, if_neg h1, if_neg h2, if_pos h3] at hd; injection hd with hd; exact hd.symm
              have hlow := low_cap c.toNat hc256 (by omega) (by omega)
              obtain ⟨h3a, h3b⟩ := h3
              clear h1 h2
              obtain rfl := hdv
              clear hacc hF hov hdec ha hd
              go_wp2_with (go_at_fn (ρ.f 321); refine (Any.internal_strconv_lower { L with } _ _).mono ?_; rintro e w' ⟨rfl, rfl⟩; rw [hlow])
              go_ret2
              exact ⟨⟨_, rfl, by rw [HD.out]; exact ⟨_, 1, Or.inl rfl, rfl⟩⟩, rfl⟩
      | none =>
        -- NO DIGIT
        have hF : hexU acc (c :: bs.drop (k + 1)) = none := by simp [hexU, hd]
        rw [hF] at hdec
        have HD := Lib.hid hdec
        have n1 : ¬ (48 ≤ c.toNat ∧ c.toNat ≤ 57) := fun h => by simp [digU, h] at hd
        have n2 : ¬ (97 ≤ c.toNat ∧ c.toNat ≤ 102) := fun h => by simp [digU, n1, h] at hd
        have n3 : ¬ (65 ≤ c.toNat ∧ c.toNat ≤ 70) := fun h => by simp [digU, n1, n2, h] at hd
        clear hacc hF ha hd hdec
        obtain ⟨m, hm⟩ : ∃ m, m = bits .or .u8 (c.toNat : Int) 32 := ⟨_, rfl⟩
        have m0 : 0 ≤ m := by rw [hm]; exact bits_lo_u8 .or (c.toNat : Int) 32
        have m1 : m ≤ 255 := by rw [hm]; exact bits_hi_u8 .or (c.toNat : Int) 32
        have h95 : bits .or .u8 95 32 = 127 := by decide +kernel
        have m2 : ¬ (97 ≤ m ∧ m ≤ 102) := by
          by_cases q1 : 97 ≤ c.toNat ∧ c.toNat ≤ 122
          · rw [hm, low_same c.toNat hc256 q1.1 q1.2]; omega
          · by_cases q2 : 65 ≤ c.toNat ∧ c.toNat ≤ 90
            · rw [hm, low_cap c.toNat hc256 q2.1 q2.2]; omega
            · have := low_no c.toNat hc256 q1 q2
              rw [← hm] at this
              omega
        by_cases q : 97 ≤ m ∧ m ≤ 122
        · obtain ⟨q0, q1⟩ := q
          have q2 : 103 ≤ m := by omega
          clear m2
          go_wp2_with (go_at_fn (ρ.f 321); refine (Any.internal_strconv_lower { L with } _ _).mono ?_; rintro e w' ⟨rfl, rfl⟩; first | rw [← hm] | rw [h95])
          all_goals go_ret2
          all_goals exact ⟨⟨_, rfl, by rw [HD.out]; exact ⟨_, 2, Or.inr rfl, rfl⟩⟩, rfl⟩
        · clear m2
          go_wp2_with (go_at_fn (ρ.f 321); refine (Any.internal_strconv_lower { L with } _ _).mono ?_; rintro e w' ⟨rfl, rfl⟩; first | rw [← hm] | rw [h95])
          all_goals go_ret2
          all_goals exact ⟨⟨_, rfl, by rw [HD.out]; exact ⟨_, 2, Or.inr rfl, rfl⟩⟩, rfl⟩
    · -- THE BYTES ARE AT AN END
      have hkk : k = t.size := by omega
      subst hkk
      have hF : hexU acc (bs.drop t.size) = some acc := by rw [List.drop_eq_nil_of_le (by omega)]; rfl
      rw [hF] at hdec
      have HD := Lib.hid hdec
      subst ha
      clear hacc hF a0 a1 hdec
      go_wp2
      go_ret2
      exact ⟨⟨_, rfl, by rw [HD.out]; rfl⟩, rfl⟩
end Go.Proofs.YtkokekndiammpaaGreatDoor

/-! internal/strconv.formatBits at base 16, for numbers of 32 bits. -/
set_option linter.unusedVariables false
set_option linter.unusedSimpArgs false
namespace Go.Proofs.YtkokekndiammpaaGreatDoor
open Go.RowKit Go.Lib

def deBruijn64 : List Int := [0, 1, 56, 2, 57, 49, 28, 3, 61, 58, 42, 50, 38, 29, 17, 4, 62, 47, 59, 36, 45, 43, 51, 22, 53, 39, 33, 30, 24, 18, 12, 5, 63, 55, 48, 27, 60, 41, 37, 16, 46, 35, 44, 21, 52, 32, 23, 11, 54, 26, 40, 15, 34, 20, 31, 10, 25, 14, 19, 9, 13, 8, 7, 6]

theorem digits36_at : ∀ i, i < 16 → digits36.data.toList.getD i 0 = hexDig i := by decide +kernel
theorem idx_digits {P : Program} (t : TypeId) (ht : P.underlying t = some .string) (k : IntKind) (z : Int) (i : Nat) (hz : z = (i : Int)) (hi : i < 16) (w : World) :
    (Instr.index t (.string digits36) (.int k z)).run P w = .ok (.int .u8 ((hexDig i).toNat : Int)) w := by
  subst hz
  rw [run_index_string w t digits36 k _ ht, dif_pos ⟨by omega, by rw [digits36_size]; omega⟩]
  have e : ((i : Int)).toNat = i := by omega
  simp only [e]
  rw [Lib.getD_at digits36 i (by rw [digits36_size]; omega), digits36_at i hi]
theorem and15 (v : Nat) (hv : v < 18446744073709551616) : bits .and .u64 (v : Int) 15 = ((v % 16 : Nat) : Int) := by
  have h := bits_and_u64_nat v 15 hv (by omega)
  rw [Nat.and_two_pow_sub_one_eq_mod v 4] at h
  exact h
set_option maxHeartbeats 4000000 in
set_option maxRecDepth 100000 in
theorem isPow16 (w : World) : Calls Tryz.prog 116 #[.int .i64 16] w fun e w' => e = .returned (.bool true) ∧ w = w' := by
  have h1 : bits .and .i64 16 15 = 0 := by decide
  go_enter Tryz.func116, Tryz.ntmps116
  go_wp2
  go_ret
  exact ⟨rfl, rfl⟩

set_option maxHeartbeats 4000000 in
set_option maxRecDepth 100000 in
theorem tz16 (w : World) (hc : w.cell? ⟨6, 15, none⟩ = some (.int .u8 4)) : Calls Tryz.prog 117 #[.int .u64 16] w fun e w' => e = .returned (.int .i64 4) ∧ w = w' := by
  have h1 : bits .and .u64 16 (IntKind.u64.wrap (-16)) = 16 := by decide
  have h2 : IntKind.u64.wrap (16 * 285870213051353865) / 288230376151711744 = 15 := by decide
  go_enter Tryz.func117, Tryz.ntmps117
  go_wp2
  go_ret
  exact ⟨rfl, rfl⟩

/-- What the row of bytes behind the walk's own world says. -/
structure RowB (n : Nat) (w wr : World) (B : Nat) (i : Nat) (D : List UInt8) : Prop where
  cells : ∃ G : Nat → Int, (∀ t, t < n → wr.cell? ⟨B, t, none⟩ = some (.int .u8 (G t))) ∧ ∀ j (h : j < D.length), G (i + j) = ((D[j]).toNat : Int)
  free : ∀ t, t < n → wr.frozen? ⟨B, t, none⟩ = false
  below : Below w.heap.size w wr

theorem RowB.step {n : Nat} {w wr : World} {B i : Nat} {D : List UInt8} (h : RowB n w wr B (i + 1) D) (hB : w.heap.size ≤ B) (hi : i < n) (x : UInt8) : RowB n w (wr.setCell ⟨B, i, none⟩ (.int .u8 (x.toNat : Int))) B i (x :: D) := by
  obtain ⟨⟨G, h1, h2⟩, h3, h4⟩ := h
  refine ⟨⟨fun t => if t = i then (x.toNat : Int) else G t, fun t ht => ?_, fun j hj => ?_⟩, fun t ht => ?_, h4.setCell hB _⟩
  · by_cases e : t = i
    · subst e
      rw [World.cell?_setCell_same _ _ _ (h1 t ht)]
      simp
    · rw [World.cell?_setCell_other _ _ _ _ (by simp [e]), h1 t ht]
      simp [e]
  · cases j with
    | zero => simp
    | succ j =>
      have := h2 j (by simpa using hj)
      simp only [List.getElem_cons_succ]
      rw [← this]
      simp
      congr 1
      omega
  · rw [World.frozen?_setCell]
    exact h3 t ht

theorem zero65 : ∀ t, t < 65 → Tryz.zeroCells145[t]? = some (.int .u8 0) := by
  intro t ht
  have e : Tryz.zeroCells145 = Array.replicate 65 (Value.int .u8 0) := rfl
  rw [e]
  simp [ht]
theorem slice65 (B k : Nat) (hk : k < 65) (W : World) : (Instr.sliceAt 145 (.pointer (some ⟨B, 0, none⟩)) (some (.int .i64 (k : Int))) none none).run Tryz.prog W = .ok (.slice (some ⟨B, k, none⟩) (65 - k) (65 - k)) W := by
  have hal : Tryz.prog.arrayLen 145 = 65 := by kernel_rfl
  rw [run_sliceAt_array_l W 145 ⟨B, 0, none⟩ (by kernel_rfl) .i64 (k : Int) (by omega) (by rw [hal]; omega), hal]
  have h1 : (sizeOf (Tryz.prog.elem 145)).run Tryz.prog W = .ok 1 W := by kernel_rfl
  rw [h1]
  simp [slicedAt, Addr.add, Result.andThen]
  rw [if_neg (by omega)]
  split <;> simp_all
theorem wp_nm {P : Program} {c : Code} {fr : Act} {w : World} {Q : Exit → Act → World → Prop} {S : World → Prop} (h : S w) (k : ∀ W, S W → c.wp P Q fr W) : c.wp P Q fr w := k w h

set_option maxHeartbeats 8000000 in
set_option maxRecDepth 100000 in
theorem formatBits16 (u : Nat) (hu : u < 4294967296) (w : World) (hc : w.cell? ⟨6, 15, none⟩ = some (.int .u8 4)) :
    Calls Tryz.prog 97 #[.slice none 0 0, .int .u64 u, .int .i64 16, .bool false, .bool false] w fun e w' => e = .returned (.tuple #[.slice none 0 0, .string ⟨(hexS 8 u).toArray⟩]) ∧ Below w.heap.size w w' := by
  have hc1 : ∀ o, (w.alloc o).cell? ⟨6, 15, none⟩ = some (.int .u8 4) := fun o => by
    rw [World.cell?_alloc_old _ _ _ (Nat.ne_of_lt (World.block_lt_of_cell? _ _ hc))]
    exact hc
  have AHC := Lib.hid hc
  clear hc
  go_enter Tryz.func97, Tryz.ntmps97
  go_name_bytes PM hPM
  clear hPM
  go_name_bytes DG hDG
  have eDG : DG = Lib.digits36 := by rw [← hDG]; decide +kernel
  subst eDG
  clear hDG
  go_wp2_with (first
    | (go_at_call 116; refine (isPow16 _).mono ?_; rintro e w' ⟨rfl, rfl⟩)
    | (go_at_call 117; refine (tz16 _ (hc1 _)).mono ?_; rintro e w' ⟨rfl, rfl⟩))
  have hW0 : RowB 65 w (w.alloc (.cells Tryz.zeroCells145 145)) w.heap.size 65 [] :=
    ⟨⟨fun _ => 0, fun t ht => by rw [World.cell?_alloc_new]; exact zero65 t ht, fun j hj => absurd hj (by simp)⟩, fun t ht => World.frozen?_alloc_new _ _ _ _, Below.alloc (Below.refl _ w) (Nat.le_refl _) _⟩
  refine wp_nm (S := fun W => RowB 65 w W w.heap.size 65 []) hW0 ?_
  intro W HW
  have hSZ : w.heap.size ≤ W.heap.size := HW.below.size
  have hHW := Lib.hid HW
  clear HW hc1
  go_loopw [1, 13] (fun vu vi wr => ∃ (v i : Nat) (D : List UInt8), vu = .int .u64 v ∧ vi = .int .i64 i ∧ Hid (RowB 65 w wr w.heap.size i D ∧ i + D.length = 65 ∧ D.length < 8 ∧ v < 16 ^ (8 - D.length) ∧ hexS (8 - D.length) v ++ D = hexS 8 u)) (fun vu _ _ => (RowKit.intOf vu).toNat)
  case atStart => exact ⟨u, 65, [], rfl, rfl, hHW.out, by simp, by simp, by simpa using hu, by simp⟩
  case round =>
    obtain ⟨v, i, D, rfl, rfl, hh⟩ := hrel
    obtain ⟨hR, hiD, hD8, hv, hS⟩ := hh.out
    clear hh
    obtain ⟨G, hc, hg⟩ := hR.cells
    have hf := hR.free
    have HR := Lib.hid hR
    have hb1 : w.heap.size ≤ wr.heap.size := hR.below.size
    have HG := Lib.hid hg
    clear hR hg
    obtain ⟨k, rfl⟩ : ∃ k, i = k + 1 := ⟨i - 1, by omega⟩
    have hv64 : v < 18446744073709551616 := by
      have := Nat.pow_le_pow_right (show 0 < 16 by omega) (show 8 - D.length ≤ 8 by omega)
      omega
    by_cases h16 : 16 ≤ v
    · have hL : D.length ≤ 6 := by
        apply Classical.byContradiction
        intro hn
        have : D.length = 7 := by omega
        rw [this] at hv
        omega
      have hand : bits .and .u64 (v : Int) 15 = (v : Int) % 16 := by rw [and15 v hv64]; omega
      have hix : ∀ w, (Instr.index 9 (.string Lib.digits36) (.int .u64 ((v : Int) % 16))).run Tryz.prog w = .ok (.int .u8 ((hexDig (v % 16)).toNat : Int)) w := fun w => idx_digits 9 Tryz.underlying9 .u64 _ (v % 16) (by omega) (by omega) w
      have HN : Hid (k + (hexDig (v % 16) :: D).length = 65 ∧ (hexDig (v % 16) :: D).length < 8 ∧ v / 16 < 16 ^ (8 - (hexDig (v % 16) :: D).length) ∧ hexS (8 - (hexDig (v % 16) :: D).length) (v / 16) ++ (hexDig (v % 16) :: D) = hexS 8 u) := by
        refine Lib.hid ⟨by simp; omega, by simp; omega, ?_, ?_⟩
        · have e : 8 - D.length = (8 - (D.length + 1)) + 1 := by omega
          rw [e, Nat.pow_succ] at hv
          simp only [List.length_cons]
          omega
        · have e : 8 - D.length = (8 - (D.length + 1)) + 1 := by omega
          rw [e] at hS
          simp only [List.length_cons]
          rw [← hS, show hexS (8 - (D.length + 1) + 1) v = if v < 16 then [hexDig v] else hexS (8 - (D.length + 1)) (v / 16) ++ [hexDig (v % 16)] from rfl, if_neg (by omega), List.append_assoc]
          rfl
      have hk : k < 65 := by omega
      clear hv hS hD8 hL hiD
      go_wp2
      go_roundw
      case rel => exact ⟨v / 16, k, hexDig (v % 16) :: D, by first | rfl | go_num | (congr 1; omega), by first | rfl | go_num | (congr 1; omega), Lib.hid ⟨HR.out.step (Nat.le_refl _) hk _, HN.out⟩⟩
      case measure => simp [RowKit.intOf]; omega
    · have hix : ∀ w, (Instr.index 9 (.string Lib.digits36) (.int .u64 (v : Int))).run Tryz.prog w = .ok (.int .u8 ((hexDig v).toNat : Int)) w := fun w => idx_digits 9 Tryz.underlying9 .u64 _ v rfl (by omega) w
      have HS : Hid (hexDig v :: D = hexS 8 u) := by
        have e : 8 - D.length = (8 - (D.length + 1)) + 1 := by omega
        rw [e, show hexS (8 - (D.length + 1) + 1) v = if v < 16 then [hexDig v] else hexS (8 - (D.length + 1)) (v / 16) ++ [hexDig (v % 16)] from rfl, if_pos (by omega)] at hS
        exact Lib.hid hS
      have hk : k < 65 := by omega
      have HI := Lib.hid hiD
      clear hv hS hD8 hiD
      have hsl := fun W => slice65 w.heap.size k hk W
      have hR2 := HR.out.step (Nat.le_refl _) hk (hexDig v)
      have hcv : (convert 22 9 (.slice (some ⟨w.heap.size, k, none⟩) (65 - k) (65 - k))).run Tryz.prog (wr.setCell ⟨w.heap.size, k, none⟩ (.int .u8 ((hexDig v).toNat : Int))) = .ok (.string ⟨(hexS 8 u).toArray⟩) (wr.setCell ⟨w.heap.size, k, none⟩ (.int .u8 ((hexDig v).toNat : Int))) := by
        obtain ⟨G2, g1, g2⟩ := hR2.cells
        have hl : (hexDig v :: D).length = 65 - k := by have := HI.out; simp; omega
        have h := run_convert_bytes_back (P := Tryz.prog) (wr.setCell ⟨w.heap.size, k, none⟩ (.int .u8 ((hexDig v).toNat : Int))) 22 9 5 ⟨w.heap.size, k, none⟩ (65 - k) (hexDig v :: D) Tryz.underlying22 Tryz.underlying5 Tryz.underlying9 (fun j hj => by
          rw [← g2 j hj]
          have e : (⟨w.heap.size, k, none⟩ : Addr).add j = ⟨w.heap.size, k + j, none⟩ := by unfold Addr.add; split <;> simp_all
          rw [e]
          exact g1 (k + j) (by omega))
        rw [hl, HS.out] at h
        exact h
      have HR2 := Lib.hid hR2.below
      clear hR2
      go_wp2
      go_ret2
      exact ⟨rfl, HR2.out⟩
end Go.Proofs.YtkokekndiammpaaGreatDoor

/-! The shelf's contracts at this translation, in plain words: written by the kit's lay-plain. -/
namespace Go.Proofs
open Go.Shelf
def Tryz.lays171_ren : Go.Shelf.Ren := ⟨fun | 171 => 33 | 243 => 58 | 246 => 75 | 283 => 94 | 284 => 95 | 285 => 96 | 286 => 97 | 129 => 114 | 317 => 113 | 318 => 115 | 319 => 116 | 320 => 117 | 337 => 126 | 338 => 127 | n => n, fun | 3 => 3 | 9 => 9 | 2 => 2 | 4 => 4 | 171 => 124 | 0 => 0 | 53 => 79 | 37 => 22 | 5 => 5 | 173 => 127 | 212 => 144 | 51 => 95 | 20 => 20 | 213 => 145 | 46 => 117 | 232 => 161 | 233 => 162 | n => n, fun | 17 => 4 | 18 => 5 | 19 => 6 | n => n⟩
theorem Tryz.lays171 : Go.Proofs.Lays.n171 Tryz.prog Tryz.lays171_ren := {
  mixed := by kernel_rfl
  f129 := Tryz.func114.trans (congrArg some (by kernel_rfl))
  f171 := Tryz.func33.trans (congrArg some (by kernel_rfl))
  f243 := Tryz.func58.trans (congrArg some (by kernel_rfl))
  f246 := Tryz.func75.trans (congrArg some (by kernel_rfl))
  f283 := Tryz.func94.trans (congrArg some (by kernel_rfl))
  f284 := Tryz.func95.trans (congrArg some (by kernel_rfl))
  f285 := Tryz.func96.trans (congrArg some (by kernel_rfl))
  f286 := Tryz.func97.trans (congrArg some (by kernel_rfl))
  f317 := Tryz.func113.trans (congrArg some (by kernel_rfl))
  f318 := Tryz.func115.trans (congrArg some (by kernel_rfl))
  f319 := Tryz.func116.trans (congrArg some (by kernel_rfl))
  f320 := Tryz.func117.trans (congrArg some (by kernel_rfl))
  f337 := Tryz.func126.trans (congrArg some (by kernel_rfl))
  f338 := Tryz.func127.trans (congrArg some (by kernel_rfl))
  t0 := Tryz.underlying0
  a0 := Tryz.isAgg0
  z0 := Tryz.sizeOf0
  v0 := Tryz.zeroValue0
  t2 := Tryz.underlying2
  a2 := Tryz.isAgg2
  z2 := Tryz.sizeOf2
  v2 := Tryz.zeroValue2
  t3 := Tryz.underlying3
  a3 := Tryz.isAgg3
  z3 := Tryz.sizeOf3
  v3 := Tryz.zeroValue3
  t4 := Tryz.underlying4
  a4 := Tryz.isAgg4
  z4 := Tryz.sizeOf4
  v4 := Tryz.zeroValue4
  t5 := Tryz.underlying5
  a5 := Tryz.isAgg5
  z5 := Tryz.sizeOf5
  v5 := Tryz.zeroValue5
  t9 := Tryz.underlying9
  a9 := Tryz.isAgg9
  z9 := Tryz.sizeOf9
  v9 := Tryz.zeroValue9
  t20 := Tryz.underlying20
  a20 := Tryz.isAgg20
  z20 := Tryz.sizeOf20
  v20 := Tryz.zeroValue20
  t37 := Tryz.underlying22
  a37 := Tryz.isAgg22
  z37 := Tryz.sizeOf22
  v37 := Tryz.zeroValue22
  t46 := Tryz.underlying117
  a46 := Tryz.isAgg117
  z46 := Tryz.sizeOf117
  v46 := Tryz.zeroValue117
  t51 := Tryz.underlying95
  a51 := Tryz.isAgg95
  z51 := Tryz.sizeOf95
  v51 := Tryz.zeroValue95
  t53 := Tryz.underlying79
  a53 := Tryz.isAgg79
  z53 := Tryz.sizeOf79
  v53 := Tryz.zeroValue79
  t171 := Tryz.underlying124
  a171 := Tryz.isAgg124
  z171 := Tryz.sizeOf124
  v171 := Tryz.zeroValue124
  t173 := Tryz.underlying127
  a173 := Tryz.isAgg127
  z173 := Tryz.sizeOf127
  v173 := Tryz.zeroValue127
  t212 := Tryz.underlying144
  a212 := Tryz.isAgg144
  z212 := Tryz.sizeOf144
  v212 := Tryz.zeroValue144
  t213 := Tryz.underlying145
  a213 := Tryz.isAgg145
  z213 := Tryz.sizeOf145
  t232 := Tryz.underlying161
  a232 := Tryz.isAgg161
  z232 := Tryz.sizeOf161
  v232 := Tryz.zeroValue161
  t233 := Tryz.underlying162
  a233 := Tryz.isAgg162
  z233 := Tryz.sizeOf162
  v233 := Tryz.zeroValue162
  g17 := by kernel_rfl
  g18 := by kernel_rfl
  g19 := by kernel_rfl }
open Go.RowKit Go.Sort Go.Lib in
theorem Tryz.strconv_Itoa_small (i : Nat) (hi : i < 100) (w : World) :
    Calls Tryz.prog 33 #[.int .i64 i] w fun e w' => e = .returned (.string ⟨(Lib.decDigits i).toArray⟩) ∧ w' = w := Any.strconv_Itoa_small Tryz.lays171 i hi w
def Tryz.laysM173_ren : Go.Shelf.Ren := ⟨fun | 173 => 54 | 246 => 75 | 283 => 94 | 284 => 95 | 285 => 96 | 286 => 97 | 129 => 114 | 317 => 113 | 318 => 115 | 319 => 116 | 320 => 117 | 337 => 126 | 338 => 127 | n => n, fun | 2 => 2 | 3 => 3 | 9 => 9 | 4 => 4 | 171 => 124 | 0 => 0 | 53 => 79 | 37 => 22 | 5 => 5 | 173 => 127 | 212 => 144 | 51 => 95 | 20 => 20 | 213 => 145 | 46 => 117 | 232 => 161 | 233 => 162 | n => n, fun | 17 => 4 | 18 => 5 | 19 => 6 | n => n⟩
theorem Tryz.laysM173 : Go.Proofs.LaysM.n173 Tryz.prog Tryz.laysM173_ren := {
  mixed := by kernel_rfl
  f129 := Tryz.func114.trans (congrArg some (by kernel_rfl))
  f173 := Tryz.func54.trans (congrArg some (by kernel_rfl))
  f246 := Tryz.func75.trans (congrArg some (by kernel_rfl))
  f283 := Tryz.func94.trans (congrArg some (by kernel_rfl))
  f284 := Tryz.func95.trans (congrArg some (by kernel_rfl))
  f285 := Tryz.func96.trans (congrArg some (by kernel_rfl))
  f286 := Tryz.func97.trans (congrArg some (by kernel_rfl))
  f317 := Tryz.func113.trans (congrArg some (by kernel_rfl))
  f318 := Tryz.func115.trans (congrArg some (by kernel_rfl))
  f319 := Tryz.func116.trans (congrArg some (by kernel_rfl))
  f320 := Tryz.func117.trans (congrArg some (by kernel_rfl))
  f337 := Tryz.func126.trans (congrArg some (by kernel_rfl))
  f338 := Tryz.func127.trans (congrArg some (by kernel_rfl))
  t0 := Tryz.underlying0
  a0 := Tryz.isAgg0
  z0 := Tryz.sizeOf0
  v0 := Tryz.zeroValue0
  t2 := Tryz.underlying2
  a2 := Tryz.isAgg2
  z2 := Tryz.sizeOf2
  v2 := Tryz.zeroValue2
  t3 := Tryz.underlying3
  a3 := Tryz.isAgg3
  z3 := Tryz.sizeOf3
  v3 := Tryz.zeroValue3
  t4 := Tryz.underlying4
  a4 := Tryz.isAgg4
  z4 := Tryz.sizeOf4
  v4 := Tryz.zeroValue4
  t5 := Tryz.underlying5
  a5 := Tryz.isAgg5
  z5 := Tryz.sizeOf5
  v5 := Tryz.zeroValue5
  t9 := Tryz.underlying9
  a9 := Tryz.isAgg9
  z9 := Tryz.sizeOf9
  v9 := Tryz.zeroValue9
  t20 := Tryz.underlying20
  a20 := Tryz.isAgg20
  z20 := Tryz.sizeOf20
  v20 := Tryz.zeroValue20
  t37 := Tryz.underlying22
  a37 := Tryz.isAgg22
  z37 := Tryz.sizeOf22
  v37 := Tryz.zeroValue22
  t46 := Tryz.underlying117
  a46 := Tryz.isAgg117
  z46 := Tryz.sizeOf117
  v46 := Tryz.zeroValue117
  t51 := Tryz.underlying95
  a51 := Tryz.isAgg95
  z51 := Tryz.sizeOf95
  v51 := Tryz.zeroValue95
  t53 := Tryz.underlying79
  a53 := Tryz.isAgg79
  z53 := Tryz.sizeOf79
  v53 := Tryz.zeroValue79
  t171 := Tryz.underlying124
  a171 := Tryz.isAgg124
  z171 := Tryz.sizeOf124
  v171 := Tryz.zeroValue124
  t173 := Tryz.underlying127
  a173 := Tryz.isAgg127
  z173 := Tryz.sizeOf127
  v173 := Tryz.zeroValue127
  t212 := Tryz.underlying144
  a212 := Tryz.isAgg144
  z212 := Tryz.sizeOf144
  v212 := Tryz.zeroValue144
  t213 := Tryz.underlying145
  a213 := Tryz.isAgg145
  z213 := Tryz.sizeOf145
  t232 := Tryz.underlying161
  a232 := Tryz.isAgg161
  z232 := Tryz.sizeOf161
  v232 := Tryz.zeroValue161
  t233 := Tryz.underlying162
  a233 := Tryz.isAgg162
  z233 := Tryz.sizeOf162
  v233 := Tryz.zeroValue162
  g17 := by kernel_rfl
  g18 := by kernel_rfl
  g19 := by kernel_rfl
  i0 := by kernel_rfl
  i2 := by kernel_rfl
  i3 := by kernel_rfl
  i4 := by kernel_rfl
  i5 := by kernel_rfl
  i9 := by kernel_rfl
  i20 := by kernel_rfl
  i37 := by kernel_rfl
  i46 := by kernel_rfl
  i51 := by kernel_rfl
  i53 := by kernel_rfl
  i171 := by kernel_rfl
  i173 := by kernel_rfl
  i212 := by kernel_rfl
  i232 := by kernel_rfl
  i233 := by kernel_rfl
  m17 := by kernel_rfl
  m18 := by kernel_rfl
  m19 := by kernel_rfl }
open Go.RowKit Go.Sort Go.Lib in
theorem Tryz.strconv_FormatInt_10 (n : Int) (h0 : -9223372036854775808 ≤ n) (h1 : n ≤ 9223372036854775807) (w : World) (htab : Lib.TabIs Tryz.prog w "internal/strconv.uint64pow10" .u64 Lib.pow10Tab) :
    Calls Tryz.prog 54 #[.int .i64 n, .int .i64 10] w fun e w' => e = .returned (.string ⟨(Lib.itoa n).toArray⟩) ∧ ∃ k os, w' = grow (w.drewN k) os := Any.strconv_FormatInt_10 Tryz.laysM173 n h0 h1 w htab
def Tryz.lays321_ren : Go.Shelf.Ren := ⟨fun | 321 => 109 | n => n, fun | 5 => 5 | n => n, fun | n => n⟩
theorem Tryz.lays321 : Go.Proofs.Lays.n321 Tryz.prog Tryz.lays321_ren := {
  mixed := by kernel_rfl
  f321 := Tryz.func109.trans (congrArg some (by kernel_rfl))
  t5 := Tryz.underlying5
  a5 := Tryz.isAgg5
  z5 := Tryz.sizeOf5
  v5 := Tryz.zeroValue5 }
open Go.RowKit in
theorem Tryz.internal_strconv_lower (c : Int) (w : World) :
    Calls Tryz.prog 109 #[.int .u8 c] w fun e w' => e = .returned (.int .u8 (bits .or .u8 c 32)) ∧ w' = w := Any.internal_strconv_lower Tryz.lays321 c w
def Tryz.laysC245_ren : Go.Shelf.Ren := ⟨fun | 245 => 74 | 279 => 90 | 280 => 91 | 281 => 92 | 282 => 93 | 316 => 111 | 171 => 33 | 205 => 112 | 243 => 58 | 246 => 75 | 283 => 94 | 284 => 95 | 285 => 96 | 286 => 97 | 129 => 114 | 317 => 113 | 318 => 115 | 319 => 116 | 320 => 117 | 337 => 126 | 338 => 127 | n => n, fun | 9 => 9 | 3 => 3 | 75 => 83 | 167 => 120 | 4 => 4 | 168 => 121 | 210 => 141 | 37 => 22 | 0 => 0 | 127 => 134 | 145 => 159 | 143 => 157 | 2 => 2 | 171 => 124 | 53 => 79 | 5 => 5 | 173 => 127 | 212 => 144 | 51 => 95 | 20 => 20 | 213 => 145 | 46 => 117 | 232 => 161 | 233 => 162 | 80 => 116 | n => n, fun | 15 => 2 | 16 => 3 | 17 => 4 | 18 => 5 | 19 => 6 | n => n⟩
theorem Tryz.laysC245 : Go.Proofs.LaysC.n245 Tryz.prog Tryz.laysC245_ren := {
  mixed := by kernel_rfl
  f129 := Tryz.func114.trans (congrArg some (by kernel_rfl))
  f171 := Tryz.func33.trans (congrArg some (by kernel_rfl))
  f205 := Tryz.func112.trans (congrArg some (by kernel_rfl))
  f243 := Tryz.func58.trans (congrArg some (by kernel_rfl))
  f245 := Tryz.func74.trans (congrArg some (by kernel_rfl))
  f246 := Tryz.func75.trans (congrArg some (by kernel_rfl))
  f279 := Tryz.func90.trans (congrArg some (by kernel_rfl))
  f280 := Tryz.func91.trans (congrArg some (by kernel_rfl))
  f281 := Tryz.func92.trans (congrArg some (by kernel_rfl))
  f282 := Tryz.func93.trans (congrArg some (by kernel_rfl))
  f283 := Tryz.func94.trans (congrArg some (by kernel_rfl))
  f284 := Tryz.func95.trans (congrArg some (by kernel_rfl))
  f285 := Tryz.func96.trans (congrArg some (by kernel_rfl))
  f286 := Tryz.func97.trans (congrArg some (by kernel_rfl))
  f316 := Tryz.func111.trans (congrArg some (by kernel_rfl))
  f317 := Tryz.func113.trans (congrArg some (by kernel_rfl))
  f318 := Tryz.func115.trans (congrArg some (by kernel_rfl))
  f319 := Tryz.func116.trans (congrArg some (by kernel_rfl))
  f320 := Tryz.func117.trans (congrArg some (by kernel_rfl))
  f337 := Tryz.func126.trans (congrArg some (by kernel_rfl))
  f338 := Tryz.func127.trans (congrArg some (by kernel_rfl))
  t0 := Tryz.underlying0
  a0 := Tryz.isAgg0
  z0 := Tryz.sizeOf0
  v0 := Tryz.zeroValue0
  t2 := Tryz.underlying2
  a2 := Tryz.isAgg2
  z2 := Tryz.sizeOf2
  v2 := Tryz.zeroValue2
  t3 := Tryz.underlying3
  a3 := Tryz.isAgg3
  z3 := Tryz.sizeOf3
  v3 := Tryz.zeroValue3
  t4 := Tryz.underlying4
  a4 := Tryz.isAgg4
  z4 := Tryz.sizeOf4
  v4 := Tryz.zeroValue4
  t5 := Tryz.underlying5
  a5 := Tryz.isAgg5
  z5 := Tryz.sizeOf5
  v5 := Tryz.zeroValue5
  t9 := Tryz.underlying9
  a9 := Tryz.isAgg9
  z9 := Tryz.sizeOf9
  v9 := Tryz.zeroValue9
  t20 := Tryz.underlying20
  a20 := Tryz.isAgg20
  z20 := Tryz.sizeOf20
  v20 := Tryz.zeroValue20
  t37 := Tryz.underlying22
  a37 := Tryz.isAgg22
  z37 := Tryz.sizeOf22
  v37 := Tryz.zeroValue22
  t46 := Tryz.underlying117
  a46 := Tryz.isAgg117
  z46 := Tryz.sizeOf117
  v46 := Tryz.zeroValue117
  t51 := Tryz.underlying95
  a51 := Tryz.isAgg95
  z51 := Tryz.sizeOf95
  v51 := Tryz.zeroValue95
  t53 := Tryz.underlying79
  a53 := Tryz.isAgg79
  z53 := Tryz.sizeOf79
  v53 := Tryz.zeroValue79
  t75 := Tryz.underlying83
  a75 := Tryz.isAgg83
  z75 := Tryz.sizeOf83
  v75 := Tryz.zeroValue83
  t127 := Tryz.underlying134
  a127 := Tryz.isAgg134
  z127 := Tryz.sizeOf134
  v127 := Tryz.zeroValue134
  t143 := Tryz.underlying157
  a143 := Tryz.isAgg157
  z143 := Tryz.sizeOf157
  v143 := Tryz.zeroValue157
  t145 := Tryz.underlying159
  a145 := Tryz.isAgg159
  z145 := Tryz.sizeOf159
  v145 := Tryz.zeroValue159
  t167 := Tryz.underlying120
  a167 := Tryz.isAgg120
  z167 := Tryz.sizeOf120
  v167 := Tryz.zeroValue120
  t168 := Tryz.underlying121
  a168 := Tryz.isAgg121
  z168 := Tryz.sizeOf121
  v168 := Tryz.zeroValue121
  t171 := Tryz.underlying124
  a171 := Tryz.isAgg124
  z171 := Tryz.sizeOf124
  v171 := Tryz.zeroValue124
  t173 := Tryz.underlying127
  a173 := Tryz.isAgg127
  z173 := Tryz.sizeOf127
  v173 := Tryz.zeroValue127
  t210 := Tryz.underlying141
  a210 := Tryz.isAgg141
  z210 := Tryz.sizeOf141
  v210 := Tryz.zeroValue141
  t212 := Tryz.underlying144
  a212 := Tryz.isAgg144
  z212 := Tryz.sizeOf144
  v212 := Tryz.zeroValue144
  t213 := Tryz.underlying145
  a213 := Tryz.isAgg145
  z213 := Tryz.sizeOf145
  t232 := Tryz.underlying161
  a232 := Tryz.isAgg161
  z232 := Tryz.sizeOf161
  v232 := Tryz.zeroValue161
  t233 := Tryz.underlying162
  a233 := Tryz.isAgg162
  z233 := Tryz.sizeOf162
  v233 := Tryz.zeroValue162
  g15 := by kernel_rfl
  g16 := by kernel_rfl
  g17 := by kernel_rfl
  g18 := by kernel_rfl
  g19 := by kernel_rfl
  t80 := Tryz.underlying116
  a80 := Tryz.isAgg116
  z80 := Tryz.sizeOf116
  v80 := Tryz.zeroValue116
  i0 := by kernel_rfl
  i2 := by kernel_rfl
  i3 := by kernel_rfl
  i4 := by kernel_rfl
  i5 := by kernel_rfl
  i9 := by kernel_rfl
  i20 := by kernel_rfl
  i37 := by kernel_rfl
  i46 := by kernel_rfl
  i51 := by kernel_rfl
  i53 := by kernel_rfl
  i75 := by kernel_rfl
  i80 := by kernel_rfl
  i127 := by kernel_rfl
  i143 := by kernel_rfl
  i145 := by kernel_rfl
  i167 := by kernel_rfl
  i168 := by kernel_rfl
  i171 := by kernel_rfl
  i173 := by kernel_rfl
  i210 := by kernel_rfl
  i212 := by kernel_rfl
  i232 := by kernel_rfl
  i233 := by kernel_rfl
  m15 := by kernel_rfl
  m16 := by kernel_rfl
  m17 := by kernel_rfl
  m18 := by kernel_rfl
  m19 := by kernel_rfl
  c0 := by kernel_rfl
  c2 := by kernel_rfl
  c3 := by kernel_rfl
  c4 := by kernel_rfl
  c5 := by kernel_rfl
  c9 := by kernel_rfl
  c20 := by kernel_rfl
  c37 := by kernel_rfl
  c46 := by kernel_rfl
  c51 := by kernel_rfl
  c53 := by kernel_rfl
  c75 := by kernel_rfl
  c80 := by kernel_rfl
  c127 := by kernel_rfl
  c143 := by kernel_rfl
  c145 := by kernel_rfl
  c167 := by kernel_rfl
  c168 := by kernel_rfl
  c171 := by kernel_rfl
  c173 := by kernel_rfl
  c210 := by kernel_rfl
  c212 := by kernel_rfl
  c213 := by kernel_rfl
  c232 := by kernel_rfl
  c233 := by kernel_rfl }
open Go.RowKit in
theorem Tryz.strconv_toError_range (fn s : ByteArray) (base bits : Int) (ev : Value) (w : World) (hlim : s.size ≤ 281474976710656) (hv : w.cell? ⟨3, 0, none⟩ = some ev) (hev : ev = .nilIface ∨ ∃ te pe, ev = .iface te pe) :
    Calls Tryz.prog 74 #[.string fn, .string s, .int .i64 base, .int .i64 bits, .iface 120 (.int .i64 1)] w fun e w' => ∃ N, e = .returned (.iface 121 (.pointer (some ⟨N, 0, none⟩))) ∧ w.heap.size ≤ N ∧ w'.heap[N]? = some (.cells #[.string fn, .string s, ev] 141 (0, 0)) ∧ Below w.heap.size w w' := Any.strconv_toError_range Tryz.laysC245 fn s base bits ev w hlim hv hev
def Tryz.lays287_ren : Go.Shelf.Ren := ⟨fun | 287 => 89 | 321 => 109 | 322 => 110 | n => n, fun | 9 => 9 | 3 => 3 | 53 => 79 | 75 => 83 | 4 => 4 | 167 => 120 | 5 => 5 | 46 => 117 | 37 => 22 | 0 => 0 | 21 => 21 | 80 => 116 | n => n, fun | n => n⟩
theorem Tryz.lays287 : Go.Proofs.Lays.n287 Tryz.prog Tryz.lays287_ren := {
  mixed := by kernel_rfl
  f287 := Tryz.func89.trans (congrArg some (by kernel_rfl))
  f321 := Tryz.func109.trans (congrArg some (by kernel_rfl))
  f322 := Tryz.func110.trans (congrArg some (by kernel_rfl))
  t0 := Tryz.underlying0
  a0 := Tryz.isAgg0
  z0 := Tryz.sizeOf0
  v0 := Tryz.zeroValue0
  t3 := Tryz.underlying3
  a3 := Tryz.isAgg3
  z3 := Tryz.sizeOf3
  v3 := Tryz.zeroValue3
  t4 := Tryz.underlying4
  a4 := Tryz.isAgg4
  z4 := Tryz.sizeOf4
  v4 := Tryz.zeroValue4
  t5 := Tryz.underlying5
  a5 := Tryz.isAgg5
  z5 := Tryz.sizeOf5
  v5 := Tryz.zeroValue5
  t9 := Tryz.underlying9
  a9 := Tryz.isAgg9
  z9 := Tryz.sizeOf9
  v9 := Tryz.zeroValue9
  t21 := Tryz.underlying21
  a21 := Tryz.isAgg21
  z21 := Tryz.sizeOf21
  v21 := Tryz.zeroValue21
  t37 := Tryz.underlying22
  a37 := Tryz.isAgg22
  z37 := Tryz.sizeOf22
  v37 := Tryz.zeroValue22
  t46 := Tryz.underlying117
  a46 := Tryz.isAgg117
  z46 := Tryz.sizeOf117
  v46 := Tryz.zeroValue117
  t53 := Tryz.underlying79
  a53 := Tryz.isAgg79
  z53 := Tryz.sizeOf79
  v53 := Tryz.zeroValue79
  t75 := Tryz.underlying83
  a75 := Tryz.isAgg83
  z75 := Tryz.sizeOf83
  v75 := Tryz.zeroValue83
  t167 := Tryz.underlying120
  a167 := Tryz.isAgg120
  z167 := Tryz.sizeOf120
  v167 := Tryz.zeroValue120 }
open Go.RowKit in
theorem Tryz.internal_strconv_ParseUint_empty (base bits : Int) (w : World) :
    Calls Tryz.prog 89 #[.string ⟨#[]⟩, .int .i64 base, .int .i64 bits] w fun e w' => e = .returned (.tuple #[.int .u64 0, .iface 120 (.int .i64 2)]) ∧ w' = w := Any.internal_strconv_ParseUint_empty Tryz.lays287 base bits w
def Tryz.lays145_ren : Go.Shelf.Ren := ⟨fun | 145 => 28 | 220 => 52 | 219 => 72 | 217 => 85 | 225 => 86 | 224 => 87 | 267 => 88 | 266 => 107 | 314 => 108 | n => n, fun | 9 => 9 | 4 => 4 | 59 => 55 | 3 => 3 | 5 => 5 | 46 => 117 | 146 => 135 | 51 => 95 | n => n, fun | 1 => 1 | n => n⟩
theorem Tryz.lays145 : Go.Proofs.Lays.n145 Tryz.prog Tryz.lays145_ren := {
  mixed := by kernel_rfl
  f145 := Tryz.func28.trans (congrArg some (by kernel_rfl))
  f217 := Tryz.func85.trans (congrArg some (by kernel_rfl))
  f219 := Tryz.func72.trans (congrArg some (by kernel_rfl))
  f220 := Tryz.func52.trans (congrArg some (by kernel_rfl))
  f224 := Tryz.func87.trans (congrArg some (by kernel_rfl))
  f225 := Tryz.func86.trans (congrArg some (by kernel_rfl))
  f266 := Tryz.func107.trans (congrArg some (by kernel_rfl))
  f267 := Tryz.func88.trans (congrArg some (by kernel_rfl))
  f314 := Tryz.func108.trans (congrArg some (by kernel_rfl))
  t3 := Tryz.underlying3
  a3 := Tryz.isAgg3
  z3 := Tryz.sizeOf3
  v3 := Tryz.zeroValue3
  t4 := Tryz.underlying4
  a4 := Tryz.isAgg4
  z4 := Tryz.sizeOf4
  v4 := Tryz.zeroValue4
  t5 := Tryz.underlying5
  a5 := Tryz.isAgg5
  z5 := Tryz.sizeOf5
  v5 := Tryz.zeroValue5
  t9 := Tryz.underlying9
  a9 := Tryz.isAgg9
  z9 := Tryz.sizeOf9
  v9 := Tryz.zeroValue9
  t46 := Tryz.underlying117
  a46 := Tryz.isAgg117
  z46 := Tryz.sizeOf117
  v46 := Tryz.zeroValue117
  t51 := Tryz.underlying95
  a51 := Tryz.isAgg95
  z51 := Tryz.sizeOf95
  v51 := Tryz.zeroValue95
  t59 := Tryz.underlying55
  a59 := Tryz.isAgg55
  z59 := Tryz.sizeOf55
  v59 := Tryz.zeroValue55
  t146 := Tryz.underlying135
  a146 := Tryz.isAgg135
  z146 := Tryz.sizeOf135
  v146 := Tryz.zeroValue135
  g1 := by kernel_rfl }
open Go.RowKit Go.Lib in
theorem Tryz.strings_Cut (s sep : ByteArray) (m : Int) (w : World) (hs : s.size < 4294967281) (hm : w.cell? ⟨1, 0, none⟩ = some (.int .i64 m)) :
    Calls Tryz.prog 28 #[.string s, .string sep] w fun e w' => e = .returned (.tuple #[.string ⟨(Lib.cut s.data.toList sep.data.toList).1.toArray⟩, .string ⟨(Lib.cut s.data.toList sep.data.toList).2.1.toArray⟩, .bool (Lib.cut s.data.toList sep.data.toList).2.2]) ∧ ∃ n, w' = w.drewN n := Any.strings_Cut Tryz.lays145 s sep m w hs hm
def Tryz.lays105_ren : Go.Shelf.Ren := ⟨fun | 105 => 81 | 212 => 102 | 99 => 103 | 165 => 82 | 166 => 83 | 170 => 104 | 169 => 84 | 263 => 121 | 264 => 122 | 206 => 123 | 240 => 105 | 241 => 106 | 276 => 124 | 277 => 125 | n => n, fun | 9 => 9 | 3 => 3 | 4 => 4 | 20 => 20 | 0 => 0 | 46 => 117 | 109 => 130 | 5 => 5 | 72 => 112 | 76 => 114 | 51 => 95 | 146 => 135 | 53 => 79 | 148 => 152 | 70 => 110 | 37 => 22 | 75 => 83 | 127 => 134 | 164 => 154 | 80 => 116 | n => n, fun | n => n⟩
theorem Tryz.lays105 : Go.Proofs.Lays.n105 Tryz.prog Tryz.lays105_ren := {
  mixed := by kernel_rfl
  f99 := Tryz.func103.trans (congrArg some (by kernel_rfl))
  f105 := Tryz.func81.trans (congrArg some (by kernel_rfl))
  f165 := Tryz.func82.trans (congrArg some (by kernel_rfl))
  f166 := Tryz.func83.trans (congrArg some (by kernel_rfl))
  f169 := Tryz.func84.trans (congrArg some (by kernel_rfl))
  f170 := Tryz.func104.trans (congrArg some (by kernel_rfl))
  f206 := Tryz.func123.trans (congrArg some (by kernel_rfl))
  f212 := Tryz.func102.trans (congrArg some (by kernel_rfl))
  f240 := Tryz.func105.trans (congrArg some (by kernel_rfl))
  f241 := Tryz.func106.trans (congrArg some (by kernel_rfl))
  f263 := Tryz.func121.trans (congrArg some (by kernel_rfl))
  f264 := Tryz.func122.trans (congrArg some (by kernel_rfl))
  f276 := Tryz.func124.trans (congrArg some (by kernel_rfl))
  f277 := Tryz.func125.trans (congrArg some (by kernel_rfl))
  t0 := Tryz.underlying0
  a0 := Tryz.isAgg0
  z0 := Tryz.sizeOf0
  v0 := Tryz.zeroValue0
  t3 := Tryz.underlying3
  a3 := Tryz.isAgg3
  z3 := Tryz.sizeOf3
  v3 := Tryz.zeroValue3
  t4 := Tryz.underlying4
  a4 := Tryz.isAgg4
  z4 := Tryz.sizeOf4
  v4 := Tryz.zeroValue4
  t5 := Tryz.underlying5
  a5 := Tryz.isAgg5
  z5 := Tryz.sizeOf5
  v5 := Tryz.zeroValue5
  t9 := Tryz.underlying9
  a9 := Tryz.isAgg9
  z9 := Tryz.sizeOf9
  v9 := Tryz.zeroValue9
  t20 := Tryz.underlying20
  a20 := Tryz.isAgg20
  z20 := Tryz.sizeOf20
  v20 := Tryz.zeroValue20
  t37 := Tryz.underlying22
  a37 := Tryz.isAgg22
  z37 := Tryz.sizeOf22
  v37 := Tryz.zeroValue22
  t46 := Tryz.underlying117
  a46 := Tryz.isAgg117
  z46 := Tryz.sizeOf117
  v46 := Tryz.zeroValue117
  t51 := Tryz.underlying95
  a51 := Tryz.isAgg95
  z51 := Tryz.sizeOf95
  v51 := Tryz.zeroValue95
  t53 := Tryz.underlying79
  a53 := Tryz.isAgg79
  z53 := Tryz.sizeOf79
  v53 := Tryz.zeroValue79
  t70 := Tryz.underlying110
  a70 := Tryz.isAgg110
  z70 := Tryz.sizeOf110
  v70 := Tryz.zeroValue110
  t72 := Tryz.underlying112
  a72 := Tryz.isAgg112
  z72 := Tryz.sizeOf112
  v72 := Tryz.zeroValue112
  t75 := Tryz.underlying83
  a75 := Tryz.isAgg83
  z75 := Tryz.sizeOf83
  v75 := Tryz.zeroValue83
  t76 := Tryz.underlying114
  a76 := Tryz.isAgg114
  z76 := Tryz.sizeOf114
  v76 := Tryz.zeroValue114
  t109 := Tryz.underlying130
  a109 := Tryz.isAgg130
  z109 := Tryz.sizeOf130
  v109 := Tryz.zeroValue130
  t127 := Tryz.underlying134
  a127 := Tryz.isAgg134
  z127 := Tryz.sizeOf134
  v127 := Tryz.zeroValue134
  t146 := Tryz.underlying135
  a146 := Tryz.isAgg135
  z146 := Tryz.sizeOf135
  v146 := Tryz.zeroValue135
  t148 := Tryz.underlying152
  a148 := Tryz.isAgg152
  z148 := Tryz.sizeOf152
  v148 := Tryz.zeroValue152
  t164 := Tryz.underlying154
  a164 := Tryz.isAgg154
  z164 := Tryz.sizeOf154
  v164 := Tryz.zeroValue154 }
theorem Tryz.Builder_Extra_105 : Builder.Extra Tryz.prog Tryz.lays105_ren := {
  sizeBuilder := by kernel_rfl
  liesBuilder := by kernel_rfl
  t5 := Tryz.underlying5
  a5 := Tryz.isAgg5
  z5 := Tryz.sizeOf5
  v5 := Tryz.zeroValue5
  infoByte := by kernel_rfl
  cellsByte := by kernel_rfl
  sizeByte := by kernel_rfl
  neB5 := by decide }
open Go.RowKit Go.Lib in
theorem Tryz.strings_Repeat (s : ByteArray) (c : Nat) (w : World) (hc : c ≤ 9223372036854775807) (hlen : s.size * c ≤ 140737488355328) :
    Calls Tryz.prog 81 #[.string s, .int .i64 c] w fun e w' => e = .returned (.string ⟨(Lib.repeatL s.data.toList c).toArray⟩) ∧ Below w.heap.size w w' := Any.strings_Repeat Tryz.lays105 Tryz.Builder_Extra_105 s c w hc hlen
end Go.Proofs

/-! The text of a number: the program's and the reference's. -/
set_option linter.unusedVariables false
set_option linter.unusedSimpArgs false
namespace Go.Proofs.YtkokekndiammpaaGreatDoor
open Go.RowKit Go.Lib

/-- The bits of a number, one pattern for each NaN. -/
def canonB (a : Nat) : Nat := if Flt.NaN Ieee.single a then 2143289344 else a
/-- The text of a number. -/
def numText (a : Nat) : List UInt8 := hexL 8 (canonB a)
theorem numText_length (a : Nat) : (numText a).length = 8 := hexL_length 8 _
theorem calls_args {P : Program} {f : FuncId} {a b : Array Value} {w : World} {Q : Ending → World → Prop} (h : a = b) (c : Calls P f b w Q) : Calls P f a w Q := h ▸ c
theorem repeatL_zero48 : ∀ c, Lib.repeatL [48] c = List.replicate c (48 : UInt8)
  | 0 => rfl
  | c + 1 => by
    have := repeatL_zero48 c
    simp [Lib.repeatL, List.replicate_succ] at this ⊢
    exact this
theorem str_app (l m : List UInt8) : (⟨l.toArray⟩ : ByteArray) ++ ⟨m.toArray⟩ = ⟨(l ++ m).toArray⟩ := by
  apply ByteArray.ext
  simp

set_option maxHeartbeats 4000000 in
set_option maxRecDepth 100000 in
theorem fmtUintIn (u : Nat) (hu : u < 4294967296) (w : World) (hc : w.cell? ⟨6, 15, none⟩ = some (.int .u8 4)) (S : ByteArray) (hS : S = ⟨(hexS 8 u).toArray⟩) :
    Calls Tryz.prog 101 #[.int .u64 u, .int .i64 16] w fun e w' => e = .returned (.string S) ∧ Below w.heap.size w w' := by
  have hF := formatBits16 u hu w hc
  rw [← hS] at hF
  clear hS
  go_enter Tryz.func101, Tryz.ntmps101
  go_wp2_with (go_at_call 97; refine hF.mono ?_; rintro e w1 ⟨rfl, hb1⟩)
  go_ret
  exact ⟨rfl, hb1⟩
set_option maxHeartbeats 4000000 in
set_option maxRecDepth 100000 in
theorem fmtUint (u : Nat) (hu : u < 4294967296) (w : World) (hc : w.cell? ⟨6, 15, none⟩ = some (.int .u8 4)) (S : ByteArray) (hS : S = ⟨(hexS 8 u).toArray⟩) :
    Calls Tryz.prog 80 #[.int .u64 u, .int .i64 16] w fun e w' => e = .returned (.string S) ∧ Below w.heap.size w w' := by
  have hF := fmtUintIn u hu w hc S hS
  clear hS
  go_enter Tryz.func80, Tryz.ntmps80
  go_wp2_with (go_at_call 101; refine hF.mono ?_; rintro e w1 ⟨rfl, hb1⟩)
  go_ret
  exact ⟨rfl, hb1⟩

set_option maxHeartbeats 400000 in
set_option maxRecDepth 100000 in
theorem implNumberText (a : Nat) (ha : a < 2 ^ 32) (w : World) (hc : w.cell? ⟨6, 15, none⟩ = some (.int .u8 4)) :
    Calls Tryz.prog 59 #[.float .f32 a] w fun e w' => e = .returned (.string ⟨(numText a).toArray⟩) ∧ Below w.heap.size w w' := by
  have hbits : ∀ x w, (callFunc 64 #[.float .f32 x]).run Tryz.prog w = .ok (.value (.int .u32 x)) w := fun x w => by kernel_rfl
  by_cases na : Flt.NaN Ieee.single a
  · have h1 : FloatKind.f32.format.order a a = none := order_nan .f32 (Or.inl na)
    have hT : (⟨#[55, 102, 99, 48, 48, 48, 48, 48]⟩ : ByteArray) = ⟨(numText a).toArray⟩ := by
      unfold numText canonB
      rw [if_pos na]
      decide +kernel
    rw [← hT]
    clear na hT
    go_enter Tryz.func59, Tryz.ntmps59
    go_wp2
    go_ret
    exact ⟨rfl, Below.refl _ _⟩
  · have h1 : FloatKind.f32.format.order a a = some .eq := order_self .f32 na
    have ha' : a < 4294967296 := by simpa using ha
    have hlen := hexS_length_le 8 a
    obtain ⟨n, hn⟩ : ∃ n, n = (hexS 8 a).length := ⟨_, rfl⟩
    obtain ⟨S, hS⟩ : ∃ S : ByteArray, S = ⟨(hexS 8 a).toArray⟩ := ⟨_, rfl⟩
    have hF := fmtUint a ha' w hc S hS
    have hsz : S.size = n := by rw [hS, hn]; rfl
    have hn8 : n ≤ 8 := by omega
    obtain ⟨c, hcn⟩ : ∃ c : Nat, c + n = 8 := ⟨8 - n, by omega⟩
    have hT : (⟨(Lib.repeatL [48] c).toArray⟩ : ByteArray) ++ S = ⟨(numText a).toArray⟩ := by
      have h := hexS_pad 8 a (by omega) ha'
      unfold numText canonB
      rw [if_neg na, hS, str_app, repeatL_zero48, ← h, ← hn, show 8 - n = c by omega]
    rw [← hT]
    obtain ⟨R, hR⟩ : ∃ R : ByteArray, R = ⟨(Lib.repeatL [48] c).toArray⟩ := ⟨_, rfl⟩
    have hRz : R.size = c := by rw [hR, size_of_list, repeatL_zero48]; simp
    rw [← hR]
    have hrep : ∀ w, Calls Tryz.prog 81 #[.string ⟨#[48]⟩, .int .i64 (8 - (n : Int))] w fun e w' => e = .returned (.string R) ∧ Below w.heap.size w w' := fun w => by
      have h := Tryz.strings_Repeat ⟨#[48]⟩ c w (by omega) (by have : (⟨#[48]⟩ : ByteArray).size = 1 := rfl; rw [this]; omega)
      rw [show (8 - (n : Int)) = (c : Int) by omega, hR]
      exact h
    have hm : ∀ n, IntKind.u64.wrap (IntKind.u32.wrap n) = IntKind.u32.wrap n := fun n => by
      rw [IntKind.wrap_u64]; simp [IntKind.wrap, IntKind.signed, IntKind.bits]; omega
    have hA := Lib.hid na
    clear na hT hS hlen hn hR
    go_enter Tryz.func59, Tryz.ntmps59
    go_wp2_with (first
      | (go_at_call 80; with_reducible refine hF.mono ?_; rintro e w1 ⟨rfl, hb1⟩)
      | (go_at_call 81; with_reducible refine calls_args (b := #[.string ⟨#[48]⟩, .int .i64 (8 - (n : Int))]) (by kernel_rfl) ?_; with_reducible refine (hrep _).mono ?_; rintro e w2 ⟨rfl, hb2⟩))
    go_ret
    exact ⟨rfl, hb1.trans (hb2.mono hb1.size)⟩

end Go.Proofs.YtkokekndiammpaaGreatDoor
