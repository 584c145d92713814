/- The law on ZoneTrains. -/
import Derived.Test.YtlohgpbhebmefaaTZoneS
import Derived.Test.YtlohgpbhebmefaaTZoneI
set_option linter.unusedVariables false
set_option linter.unusedSimpArgs false
namespace Go.Proofs.Ytlohgpbhebmefaa
open Go.RowKit Ieee
/-- Behind a piece of a walk all older blocks are as they were. -/
def Kept (B : Nat) (w0 wr w' : World) : Prop := (∀ i, i < wr.heap.size → w'.heap[i]? = wr.heap[i]?) ∧ wr.heap.size ≤ w'.heap.size ∧ Below B w0 w'
theorem norm_act {Q : Exit → Act → World → Prop} {a a1 : Act} {w : World} (h : a = a1) (hq : Q .normal a1 w) : Q .normal a w := h ▸ hq
theorem Kept.refl {B : Nat} {w0 wr : World} (h : Below B w0 wr) : Kept B w0 wr wr := ⟨fun _ _ => rfl, Nat.le_refl _, h⟩
theorem Kept.drew {B : Nat} {w0 wr w' : World} (h : Kept B w0 wr w') : Kept B w0 wr w'.drew := ⟨h.1, h.2.1, Below.drew h.2.2⟩
theorem Kept.call {B : Nat} {w0 wr W W2 : World} (h : Kept B w0 wr W) (hB : B ≤ wr.heap.size) (hb : Below W.heap.size W W2) : Kept B w0 wr W2 :=
  ⟨fun i hi => (hb.block i (Nat.lt_of_lt_of_le hi h.2.1)).trans (h.1 i hi), Nat.le_trans h.2.1 hb.size, bel_next hb (Nat.le_trans hB h.2.1) h.2.2⟩
theorem Kept.alloc {B : Nat} {w0 wr W : World} (h : Kept B w0 wr W) (hB : B ≤ wr.heap.size) (o : Obj) : Kept B w0 wr (W.alloc o) :=
  ⟨fun i hi => blk_old _ _ _ (Nat.lt_of_lt_of_le hi h.2.1) (h.1 i hi), by have := h.2.1; simp; omega, bel_alloc o (Nat.le_trans hB h.2.1) h.2.2⟩
theorem Kept.row {B : Nat} {w0 wr W : World} (h : Kept B w0 wr W) (hB : B ≤ wr.heap.size) {g : Nat} (hg : wr.heap.size ≤ g) (cs : Array Value) : Kept B w0 wr (W.setRow g cs) :=
  ⟨fun i hi => blk_off _ _ _ _ (by omega) (h.1 i hi), by have := h.2.1; simp; omega, bel_row cs (Nat.le_trans hB hg) h.2.2⟩

set_option maxRecDepth 100000 in
set_option maxHeartbeats 6400000 in
theorem exactZoneTrains_any (r : Int) (s t : Nat) (F z fd : Nat → Nat) (q : Int) (lr : -128 ≤ r) (ur : r ≤ 127) (lq : -9223372036854775808 ≤ q) (uq : q ≤ 9223372036854775807) (w : World) : Calls Try.prog 11 #[.agg (train r s t F), .agg (row [] 8 z), .agg (row [] 8 fd), .int .i64 q] w fun e w' => e = .returned (.bool true) ∧ Below w.heap.size w w' := by
  obtain ⟨G, C, hN, hS, hI⟩ : ∃ (G : Nat → Nat) (C : Int), (∀ i, i < 8 → ¬ Flt.NaN single (G i)) ∧ (∀ w : World, Calls Try.prog 37 #[.agg (train r s t F), .agg (row [] 8 z), .agg (row [] 8 fd), .int .i64 q] w fun e w' => e = .returned (.tuple #[.agg (row [] 8 G), .int .i64 C]) ∧ Below w.heap.size w w') ∧ (∀ w : World, Calls Try.prog 39 #[.agg (train r s t F), .agg (row [] 8 z), .agg (row [] 8 fd), .int .i64 q] w fun e w' => e = .returned (.tuple #[.agg (row [] 8 G), .int .i64 C]) ∧ Below w.heap.size w w') := by
    obtain ⟨O, hO⟩ : ∃ O, zAll r s t F z fd q = O := ⟨_, rfl⟩
    have h1 := fun w => specZone_any r s t F z fd q O hO w lr ur lq uq
    have h2 := fun w => implZone_any r s t F z fd q O hO w lr ur lq uq
    cases hc : O.1
    · rw [hc] at h1 h2
      exact ⟨_, _, fun _ _ => (by decide : ¬ Flt.NaN single 0), h1, h2⟩
    · have hall : ∀ j, j < 8 → tsB r s t F (fd j) (z j) q = true := by
        subst hO
        unfold zAll at hc
        cases ha : trainB r s t F
        · rw [ha] at hc; simp at hc
        · cases hz : zoneB z fd 8
          · rw [ha, hz] at hc; simp at hc
          · rw [ha, hz] at hc
            simp only [if_true] at hc
            exact fun j hj => zRun_all 8 0 hc j (by omega) (by omega)
      rw [hc] at h1 h2
      exact ⟨_, _, last_num hall, h1, h2⟩
  have hz : (#[Value.int IntKind.i8 0, Value.float FloatKind.f32 0, Value.float FloatKind.f32 0, Value.float FloatKind.f32 0, Value.float FloatKind.f32 0, Value.float FloatKind.f32 0, Value.float FloatKind.f32 0, Value.float FloatKind.f32 0, Value.float FloatKind.f32 0, Value.float FloatKind.f32 0, Value.float FloatKind.f32 0, Value.float FloatKind.f32 0, Value.float FloatKind.f32 0, Value.float FloatKind.f32 0, Value.float FloatKind.f32 0] : Array Value) = row [Value.int IntKind.i8 0, Value.float FloatKind.f32 0, Value.float FloatKind.f32 0] 12 (fun _ => 0) := rfl
  go_enter Try.func11, Try.ntmps11
  go_upto_region 1 with fail
  refine wp_name (fun W => W.heap[w.heap.size]? = some (.cells (train r s t F) 26 (0, 0)) ∧ W.heap[w.heap.size + 1]? = some (.cells (row [] 8 z) 64 (0, 0)) ∧ W.heap[w.heap.size + 1 + 1]? = some (.cells (row [] 8 fd) 64 (0, 0)) ∧ Below w.heap.size w W ∧ w.heap.size + 3 ≤ W.heap.size) ⟨(by repeat (first | (with_reducible assumption) | ((with_reducible refine blk_new _ _ _ ?_); focus (simp; done)) | ((with_reducible refine blk_old _ _ _ ?_ ?_); focus (simp; done)) | ((with_reducible refine blk_old _ _ _ ?_ ?_); focus (first | omega | (simp; omega))) | ((with_reducible apply blk_set); focus (simp; done)) | ((with_reducible refine blk_off _ _ _ _ ?_ ?_); focus (simp; done)) | ((with_reducible refine blk_offc _ _ _ _ ?_ ?_); focus (first | (simp; done) | omega | (simp; omega))) | ((with_reducible refine blk_off _ _ _ _ ?_ ?_); focus (first | omega | (simp; omega))) | (with_reducible refine blk_drew _ _ ?_) | ((with_reducible refine blk_below (by assumption) ?_ ?_); focus (simp; done)) | ((with_reducible refine blk_below (by assumption) ?_ ?_); focus (first | omega | (simp; omega))))), (by repeat (first | (with_reducible assumption) | ((with_reducible refine blk_new _ _ _ ?_); focus (simp; done)) | ((with_reducible refine blk_old _ _ _ ?_ ?_); focus (simp; done)) | ((with_reducible refine blk_old _ _ _ ?_ ?_); focus (first | omega | (simp; omega))) | ((with_reducible apply blk_set); focus (simp; done)) | ((with_reducible refine blk_off _ _ _ _ ?_ ?_); focus (simp; done)) | ((with_reducible refine blk_offc _ _ _ _ ?_ ?_); focus (first | (simp; done) | omega | (simp; omega))) | ((with_reducible refine blk_off _ _ _ _ ?_ ?_); focus (first | omega | (simp; omega))) | (with_reducible refine blk_drew _ _ ?_) | ((with_reducible refine blk_below (by assumption) ?_ ?_); focus (simp; done)) | ((with_reducible refine blk_below (by assumption) ?_ ?_); focus (first | omega | (simp; omega))))), (by repeat (first | (with_reducible assumption) | ((with_reducible refine blk_new _ _ _ ?_); focus (simp; done)) | ((with_reducible refine blk_old _ _ _ ?_ ?_); focus (simp; done)) | ((with_reducible refine blk_old _ _ _ ?_ ?_); focus (first | omega | (simp; omega))) | ((with_reducible apply blk_set); focus (simp; done)) | ((with_reducible refine blk_off _ _ _ _ ?_ ?_); focus (simp; done)) | ((with_reducible refine blk_offc _ _ _ _ ?_ ?_); focus (first | (simp; done) | omega | (simp; omega))) | ((with_reducible refine blk_off _ _ _ _ ?_ ?_); focus (first | omega | (simp; omega))) | (with_reducible refine blk_drew _ _ ?_) | ((with_reducible refine blk_below (by assumption) ?_ ?_); focus (simp; done)) | ((with_reducible refine blk_below (by assumption) ?_ ?_); focus (first | omega | (simp; omega))))), (by repeat (first | (with_reducible assumption) | (with_reducible exact Below.refl _ _) | ((with_reducible refine bel_alloc _ ?_ ?_); focus (first | omega | (simp; done) | (simp; omega))) | ((with_reducible refine bel_row _ ?_ ?_); focus (first | omega | (simp; done) | (simp; omega))) | ((with_reducible refine bel_cell _ ?_ ?_); focus (first | omega | (simp; done) | (simp; omega))) | (with_reducible refine Below.drew ?_) | (with_reducible refine below_wideW _ ?_) | ((with_reducible refine bel_next (by assumption) ?_ ?_); focus (first | omega | (simp; done) | (simp; omega))))), (by first | omega | (simp; done) | (simp; omega) | (simp at *; omega))⟩ (fun wr ⟨h1, h2, h3, h5, h7⟩ => ?_)
  have hK := Kept.refl h5
  have hB : w.heap.size ≤ wr.heap.size := by omega
  go_wp2
  refine region_merge (fun a0 a' W' => ∃ (bn : Nat), a' = ((((((((((((((a0.put (some 14) (.agg (train r s t F))).put (some 16) (.agg (row [] 8 z))).put (some 18) (.agg (row [] 8 fd))).put (some 20) (.int .i64 q)).put (some 15) (.agg (train r s t F))).put (some 17) (.agg (row [] 8 z))).put (some 19) (.agg (row [] 8 fd))).put (some 21) (.tuple #[.agg (row [] 8 G), .int .i64 C])).put (some 13) (.tuple #[.agg (row [] 8 G), .int .i64 C])).put (some 22) (.agg (row [] 8 G))).put (some 23) (.int .i64 C)).put (some 9) (.pointer (some ⟨bn, 0, none⟩))).put none (undef)).put (some 10) (.int .i64 C)) ∧ W'.heap[bn]? = some (.cells (row [] 8 G) 64 (0, 0)) ∧ wr.heap.size ≤ bn ∧ Kept w.heap.size w wr W') ?_ ?_
  · refine wp_region_held_drew (S := fun w' => Kept w.heap.size w wr w') (by kernel_rfl) hK.drew (fun hk0 => ?_)
    refine held_load 0 rfl rfl (by kernel_rfl) (by kernel_rfl) (by kernel_rfl) (fun _ _ _ _ h => nomatch h.1) 26 (.tmp 4) rfl (w.heap.size) 0 15 (by kernel_rfl) _ _ _ _ (fun _ h => (h.1 _ (by omega)).trans h1) Try.underlying26 rfl (by kernel_rfl) (by simp [row_size]) _ (row_all [_, _, _] 12 _) hk0 ?_
    refine held_load 2 rfl rfl (by kernel_rfl) (by kernel_rfl) (by kernel_rfl) (fun _ _ _ _ h => nomatch h.1) 64 (.tmp 5) rfl (w.heap.size + 1) 0 8 (by kernel_rfl) _ _ _ _ (fun _ h => (h.1 _ (by omega)).trans h2) Try.underlying64 rfl (by kernel_rfl) (by simp [row_size]) _ (row_all [] 8 _) hk0 ?_
    refine held_load 4 rfl rfl (by kernel_rfl) (by kernel_rfl) (by kernel_rfl) (fun _ _ _ _ h => nomatch h.1) 64 (.tmp 6) rfl (w.heap.size + 1 + 1) 0 8 (by kernel_rfl) _ _ _ _ (fun _ h => (h.1 _ (by omega)).trans h3) Try.underlying64 rfl (by kernel_rfl) (by simp [row_size]) _ (row_all [] 8 _) hk0 ?_
    refine held_yield 6 rfl rfl (by kernel_rfl) (by kernel_rfl) (by kernel_rfl) (fun _ _ _ _ h => nomatch h.1) (.int .i64 q) (fun w' hw' => by kernel_rfl) hk0 ?_
    refine held_two 1 11 (by kernel_rfl) rfl rfl rfl rfl ?_ ?_
    · skip
      refine oper_call 14 #[.agg (train r s t F)] (by kernel_rfl) (R := fun v w' => v = .agg (train r s t F) ∧ Below (World.heap (wr.drew)).size (wr.drew) w') ((toTrain_any r s t F _).mono (fun e w' ⟨he, hb⟩ => ⟨_, he, rfl, hb⟩)) (fun v0 u1 hR => ?_)
      obtain ⟨rfl, hb1⟩ := hR
      have k1 := hk0.call hB hb1
      refine ⟨k1, ?_⟩
      refine held_two 3 11 (by kernel_rfl) rfl rfl rfl rfl ?_ ?_
      · skip
        refine oper_call 38 #[.agg (row [] 8 z)] (by kernel_rfl) (R := fun v w' => v = .agg (row [] 8 z) ∧ Below (World.heap (u1)).size (u1) w') ((toZones_any z _).mono (fun e w' ⟨he, hb⟩ => ⟨_, he, rfl, hb⟩)) (fun v0 u2 hR => ?_)
        obtain ⟨rfl, hb2⟩ := hR
        have k2 := k1.call hB hb2
        refine ⟨k2, ?_⟩
        refine held_two 5 11 (by kernel_rfl) rfl rfl rfl rfl ?_ ?_
        · skip
          refine oper_call 38 #[.agg (row [] 8 fd)] (by kernel_rfl) (R := fun v w' => v = .agg (row [] 8 fd) ∧ Below (World.heap (u2)).size (u2) w') ((toZones_any fd _).mono (fun e w' ⟨he, hb⟩ => ⟨_, he, rfl, hb⟩)) (fun v0 u3 hR => ?_)
          obtain ⟨rfl, hb3⟩ := hR
          have k3 := k2.call hB hb3
          refine ⟨k3, ?_⟩
          refine held_two 7 11 (by kernel_rfl) rfl rfl rfl rfl ?_ ?_
          · skip
            refine oper_call 37 #[.agg (train r s t F), .agg (row [] 8 z), .agg (row [] 8 fd), .int .i64 q] (by kernel_rfl) (R := fun v w' => v = .tuple #[.agg (row [] 8 G), .int .i64 C] ∧ Below (World.heap (u3)).size (u3) w') ((hS _).mono (fun e w' ⟨he, hb⟩ => ⟨_, he, rfl, hb⟩)) (fun v0 u4 hR => ?_)
            obtain ⟨rfl, hb4⟩ := hR
            have k4 := k3.call hB hb4
            refine ⟨k4, ?_⟩
            refine held_yield 8 rfl rfl (by kernel_rfl) (by kernel_rfl) (by kernel_rfl) (fun _ _ _ _ h => nomatch h.1) (.tuple #[.agg (row [] 8 G), .int .i64 C]) (fun w' hw' => by kernel_rfl) k4 ?_
            refine held_yield 9 rfl rfl (by kernel_rfl) (by kernel_rfl) (by kernel_rfl) (fun _ _ _ _ h => nomatch h.1) (.agg (row [] 8 G)) (fun w' hw' => by kernel_rfl) k4 ?_
            refine held_yield 10 rfl rfl (by kernel_rfl) (by kernel_rfl) (by kernel_rfl) (fun _ _ _ _ h => nomatch h.1) (.int .i64 C) (fun w' hw' => by kernel_rfl) k4 ?_
            refine held_one 11 (by kernel_rfl) rfl rfl ?_
            refine oper_value (.pointer (some ⟨World.heap (u4) |>.size, 0, none⟩)) (w1 := World.alloc (u4) (.cells (row [] 8 (fun _ => 0)) 64)) (by kernel_rfl) ?_
            have ka := k4.alloc hB (.cells (row [] 8 (fun _ => 0)) 64)
            have hgb := k4.2.1
            have gka : (World.alloc (u4) (.cells (row [] 8 (fun _ => 0)) 64)).heap[(World.heap (u4)).size]? = some (.cells (row [] 8 (fun _ => 0)) 64 (0, 0)) := blk_new _ _ _ rfl
            obtain ⟨alb, halb⟩ : ∃ x, x = (World.heap (u4)).size := ⟨_, rfl⟩
            have ska : alb < (World.alloc (u4) (.cells (row [] 8 (fun _ => 0)) 64)).heap.size := by rw [halb]; simp
            rw [← halb] at gka hgb ⊢
            refine ⟨ka, ?_⟩
            have hge : wr.heap.size ≤ alb := hgb
            refine held_store 12 (by kernel_rfl) rfl rfl 64 (.tmp 9) (.tmp 22) rfl (alb) 0 (row [] 8 G) (by kernel_rfl) (by kernel_rfl) 64 (row [] 8 (fun _ => 0)) (gka) (by rw [row_size]; kernel_rfl) (by simp [row_size]) (row_cells _ _ _ rfl) _ (row_over _ _ 8 _ _ (by simp)) (ka.row hB hge _) ?_
            refine held_yield 13 rfl rfl (by kernel_rfl) (by kernel_rfl) (by kernel_rfl) (fun _ _ _ _ h => nomatch h.1) (.int .i64 C) (fun w' hw' => by kernel_rfl) (ka.row hB hge _) ?_
            refine wpAnyH_done (by kernel_rfl) ⟨rfl, alb, by kernel_rfl, blk_set _ _ _ _ _ _ _ rfl (gka), hge, ka.row hB hge _⟩ _
          · skip
            refine oper_value (.pointer (some ⟨World.heap (u3) |>.size, 0, none⟩)) (w1 := World.alloc (u3) (.cells (row [] 8 (fun _ => 0)) 64)) (by kernel_rfl) ?_
            have ka := k3.alloc hB (.cells (row [] 8 (fun _ => 0)) 64)
            have hgb := k3.2.1
            have gka : (World.alloc (u3) (.cells (row [] 8 (fun _ => 0)) 64)).heap[(World.heap (u3)).size]? = some (.cells (row [] 8 (fun _ => 0)) 64 (0, 0)) := blk_new _ _ _ rfl
            obtain ⟨alb, halb⟩ : ∃ x, x = (World.heap (u3)).size := ⟨_, rfl⟩
            have ska : alb < (World.alloc (u3) (.cells (row [] 8 (fun _ => 0)) 64)).heap.size := by rw [halb]; simp
            rw [← halb] at gka hgb ⊢
            refine ⟨ka, ?_⟩
            refine held_one 7 (by kernel_rfl) rfl rfl ?_
            refine oper_call 37 #[.agg (train r s t F), .agg (row [] 8 z), .agg (row [] 8 fd), .int .i64 q] (by kernel_rfl) (R := fun v w' => v = .tuple #[.agg (row [] 8 G), .int .i64 C] ∧ Below (World.heap (World.alloc (u3) (.cells (row [] 8 (fun _ => 0)) 64))).size (World.alloc (u3) (.cells (row [] 8 (fun _ => 0)) 64)) w') ((hS _).mono (fun e w' ⟨he, hb⟩ => ⟨_, he, rfl, hb⟩)) (fun v0 u4 hR => ?_)
            obtain ⟨rfl, hb4⟩ := hR
            have k4 := ka.call hB hb4
            have gk4 := blk_below hb4 (by first | assumption | (simp; done)) gka
            have sk4 : alb < u4.heap.size := Nat.lt_of_lt_of_le (by first | assumption | (simp; done)) hb4.size
            refine ⟨k4, ?_⟩
            refine held_yield 8 rfl rfl (by kernel_rfl) (by kernel_rfl) (by kernel_rfl) (fun _ _ _ _ h => nomatch h.1) (.tuple #[.agg (row [] 8 G), .int .i64 C]) (fun w' hw' => by kernel_rfl) k4 ?_
            refine held_yield 9 rfl rfl (by kernel_rfl) (by kernel_rfl) (by kernel_rfl) (fun _ _ _ _ h => nomatch h.1) (.agg (row [] 8 G)) (fun w' hw' => by kernel_rfl) k4 ?_
            refine held_yield 10 rfl rfl (by kernel_rfl) (by kernel_rfl) (by kernel_rfl) (fun _ _ _ _ h => nomatch h.1) (.int .i64 C) (fun w' hw' => by kernel_rfl) k4 ?_
            have hge : wr.heap.size ≤ alb := hgb
            refine held_store 12 (by kernel_rfl) rfl rfl 64 (.tmp 9) (.tmp 22) rfl (alb) 0 (row [] 8 G) (by kernel_rfl) (by kernel_rfl) 64 (row [] 8 (fun _ => 0)) (gk4) (by rw [row_size]; kernel_rfl) (by simp [row_size]) (row_cells _ _ _ rfl) _ (row_over _ _ 8 _ _ (by simp)) (k4.row hB hge _) ?_
            refine held_yield 13 rfl rfl (by kernel_rfl) (by kernel_rfl) (by kernel_rfl) (fun _ _ _ _ h => nomatch h.1) (.int .i64 C) (fun w' hw' => by kernel_rfl) (k4.row hB hge _) ?_
            refine wpAnyH_done (by kernel_rfl) ⟨rfl, alb, by kernel_rfl, blk_set _ _ _ _ _ _ _ rfl (gk4), hge, k4.row hB hge _⟩ _
        · skip
          refine oper_value (.pointer (some ⟨World.heap (u2) |>.size, 0, none⟩)) (w1 := World.alloc (u2) (.cells (row [] 8 (fun _ => 0)) 64)) (by kernel_rfl) ?_
          have ka := k2.alloc hB (.cells (row [] 8 (fun _ => 0)) 64)
          have hgb := k2.2.1
          have gka : (World.alloc (u2) (.cells (row [] 8 (fun _ => 0)) 64)).heap[(World.heap (u2)).size]? = some (.cells (row [] 8 (fun _ => 0)) 64 (0, 0)) := blk_new _ _ _ rfl
          obtain ⟨alb, halb⟩ : ∃ x, x = (World.heap (u2)).size := ⟨_, rfl⟩
          have ska : alb < (World.alloc (u2) (.cells (row [] 8 (fun _ => 0)) 64)).heap.size := by rw [halb]; simp
          rw [← halb] at gka hgb ⊢
          refine ⟨ka, ?_⟩
          refine held_one 5 (by kernel_rfl) rfl rfl ?_
          refine oper_call 38 #[.agg (row [] 8 fd)] (by kernel_rfl) (R := fun v w' => v = .agg (row [] 8 fd) ∧ Below (World.heap (World.alloc (u2) (.cells (row [] 8 (fun _ => 0)) 64))).size (World.alloc (u2) (.cells (row [] 8 (fun _ => 0)) 64)) w') ((toZones_any fd _).mono (fun e w' ⟨he, hb⟩ => ⟨_, he, rfl, hb⟩)) (fun v0 u3 hR => ?_)
          obtain ⟨rfl, hb3⟩ := hR
          have k3 := ka.call hB hb3
          have gk3 := blk_below hb3 (by first | assumption | (simp; done)) gka
          have sk3 : alb < u3.heap.size := Nat.lt_of_lt_of_le (by first | assumption | (simp; done)) hb3.size
          refine ⟨k3, ?_⟩
          refine held_one 7 (by kernel_rfl) rfl rfl ?_
          refine oper_call 37 #[.agg (train r s t F), .agg (row [] 8 z), .agg (row [] 8 fd), .int .i64 q] (by kernel_rfl) (R := fun v w' => v = .tuple #[.agg (row [] 8 G), .int .i64 C] ∧ Below (World.heap (u3)).size (u3) w') ((hS _).mono (fun e w' ⟨he, hb⟩ => ⟨_, he, rfl, hb⟩)) (fun v0 u4 hR => ?_)
          obtain ⟨rfl, hb4⟩ := hR
          have k4 := k3.call hB hb4
          have gk4 := blk_below hb4 (by first | assumption | (simp; done)) gk3
          have sk4 : alb < u4.heap.size := Nat.lt_of_lt_of_le (by first | assumption | (simp; done)) hb4.size
          refine ⟨k4, ?_⟩
          refine held_yield 8 rfl rfl (by kernel_rfl) (by kernel_rfl) (by kernel_rfl) (fun _ _ _ _ h => nomatch h.1) (.tuple #[.agg (row [] 8 G), .int .i64 C]) (fun w' hw' => by kernel_rfl) k4 ?_
          refine held_yield 9 rfl rfl (by kernel_rfl) (by kernel_rfl) (by kernel_rfl) (fun _ _ _ _ h => nomatch h.1) (.agg (row [] 8 G)) (fun w' hw' => by kernel_rfl) k4 ?_
          refine held_yield 10 rfl rfl (by kernel_rfl) (by kernel_rfl) (by kernel_rfl) (fun _ _ _ _ h => nomatch h.1) (.int .i64 C) (fun w' hw' => by kernel_rfl) k4 ?_
          have hge : wr.heap.size ≤ alb := hgb
          refine held_store 12 (by kernel_rfl) rfl rfl 64 (.tmp 9) (.tmp 22) rfl (alb) 0 (row [] 8 G) (by kernel_rfl) (by kernel_rfl) 64 (row [] 8 (fun _ => 0)) (gk4) (by rw [row_size]; kernel_rfl) (by simp [row_size]) (row_cells _ _ _ rfl) _ (row_over _ _ 8 _ _ (by simp)) (k4.row hB hge _) ?_
          refine held_yield 13 rfl rfl (by kernel_rfl) (by kernel_rfl) (by kernel_rfl) (fun _ _ _ _ h => nomatch h.1) (.int .i64 C) (fun w' hw' => by kernel_rfl) (k4.row hB hge _) ?_
          refine wpAnyH_done (by kernel_rfl) ⟨rfl, alb, by kernel_rfl, blk_set _ _ _ _ _ _ _ rfl (gk4), hge, k4.row hB hge _⟩ _
      · skip
        refine oper_value (.pointer (some ⟨World.heap (u1) |>.size, 0, none⟩)) (w1 := World.alloc (u1) (.cells (row [] 8 (fun _ => 0)) 64)) (by kernel_rfl) ?_
        have ka := k1.alloc hB (.cells (row [] 8 (fun _ => 0)) 64)
        have hgb := k1.2.1
        have gka : (World.alloc (u1) (.cells (row [] 8 (fun _ => 0)) 64)).heap[(World.heap (u1)).size]? = some (.cells (row [] 8 (fun _ => 0)) 64 (0, 0)) := blk_new _ _ _ rfl
        obtain ⟨alb, halb⟩ : ∃ x, x = (World.heap (u1)).size := ⟨_, rfl⟩
        have ska : alb < (World.alloc (u1) (.cells (row [] 8 (fun _ => 0)) 64)).heap.size := by rw [halb]; simp
        rw [← halb] at gka hgb ⊢
        refine ⟨ka, ?_⟩
        refine held_one 3 (by kernel_rfl) rfl rfl ?_
        refine oper_call 38 #[.agg (row [] 8 z)] (by kernel_rfl) (R := fun v w' => v = .agg (row [] 8 z) ∧ Below (World.heap (World.alloc (u1) (.cells (row [] 8 (fun _ => 0)) 64))).size (World.alloc (u1) (.cells (row [] 8 (fun _ => 0)) 64)) w') ((toZones_any z _).mono (fun e w' ⟨he, hb⟩ => ⟨_, he, rfl, hb⟩)) (fun v0 u2 hR => ?_)
        obtain ⟨rfl, hb2⟩ := hR
        have k2 := ka.call hB hb2
        have gk2 := blk_below hb2 (by first | assumption | (simp; done)) gka
        have sk2 : alb < u2.heap.size := Nat.lt_of_lt_of_le (by first | assumption | (simp; done)) hb2.size
        refine ⟨k2, ?_⟩
        refine held_one 5 (by kernel_rfl) rfl rfl ?_
        refine oper_call 38 #[.agg (row [] 8 fd)] (by kernel_rfl) (R := fun v w' => v = .agg (row [] 8 fd) ∧ Below (World.heap (u2)).size (u2) w') ((toZones_any fd _).mono (fun e w' ⟨he, hb⟩ => ⟨_, he, rfl, hb⟩)) (fun v0 u3 hR => ?_)
        obtain ⟨rfl, hb3⟩ := hR
        have k3 := k2.call hB hb3
        have gk3 := blk_below hb3 (by first | assumption | (simp; done)) gk2
        have sk3 : alb < u3.heap.size := Nat.lt_of_lt_of_le (by first | assumption | (simp; done)) hb3.size
        refine ⟨k3, ?_⟩
        refine held_one 7 (by kernel_rfl) rfl rfl ?_
        refine oper_call 37 #[.agg (train r s t F), .agg (row [] 8 z), .agg (row [] 8 fd), .int .i64 q] (by kernel_rfl) (R := fun v w' => v = .tuple #[.agg (row [] 8 G), .int .i64 C] ∧ Below (World.heap (u3)).size (u3) w') ((hS _).mono (fun e w' ⟨he, hb⟩ => ⟨_, he, rfl, hb⟩)) (fun v0 u4 hR => ?_)
        obtain ⟨rfl, hb4⟩ := hR
        have k4 := k3.call hB hb4
        have gk4 := blk_below hb4 (by first | assumption | (simp; done)) gk3
        have sk4 : alb < u4.heap.size := Nat.lt_of_lt_of_le (by first | assumption | (simp; done)) hb4.size
        refine ⟨k4, ?_⟩
        refine held_yield 8 rfl rfl (by kernel_rfl) (by kernel_rfl) (by kernel_rfl) (fun _ _ _ _ h => nomatch h.1) (.tuple #[.agg (row [] 8 G), .int .i64 C]) (fun w' hw' => by kernel_rfl) k4 ?_
        refine held_yield 9 rfl rfl (by kernel_rfl) (by kernel_rfl) (by kernel_rfl) (fun _ _ _ _ h => nomatch h.1) (.agg (row [] 8 G)) (fun w' hw' => by kernel_rfl) k4 ?_
        refine held_yield 10 rfl rfl (by kernel_rfl) (by kernel_rfl) (by kernel_rfl) (fun _ _ _ _ h => nomatch h.1) (.int .i64 C) (fun w' hw' => by kernel_rfl) k4 ?_
        have hge : wr.heap.size ≤ alb := hgb
        refine held_store 12 (by kernel_rfl) rfl rfl 64 (.tmp 9) (.tmp 22) rfl (alb) 0 (row [] 8 G) (by kernel_rfl) (by kernel_rfl) 64 (row [] 8 (fun _ => 0)) (gk4) (by rw [row_size]; kernel_rfl) (by simp [row_size]) (row_cells _ _ _ rfl) _ (row_over _ _ 8 _ _ (by simp)) (k4.row hB hge _) ?_
        refine held_yield 13 rfl rfl (by kernel_rfl) (by kernel_rfl) (by kernel_rfl) (fun _ _ _ _ h => nomatch h.1) (.int .i64 C) (fun w' hw' => by kernel_rfl) (k4.row hB hge _) ?_
        refine wpAnyH_done (by kernel_rfl) ⟨rfl, alb, by kernel_rfl, blk_set _ _ _ _ _ _ _ rfl (gk4), hge, k4.row hB hge _⟩ _
    · skip
      refine oper_value (.pointer (some ⟨World.heap (wr.drew) |>.size, 0, none⟩)) (w1 := World.alloc (wr.drew) (.cells (row [] 8 (fun _ => 0)) 64)) (by kernel_rfl) ?_
      have ka := hk0.alloc hB (.cells (row [] 8 (fun _ => 0)) 64)
      have hgb := hk0.2.1
      have gka : (World.alloc (wr.drew) (.cells (row [] 8 (fun _ => 0)) 64)).heap[(World.heap (wr.drew)).size]? = some (.cells (row [] 8 (fun _ => 0)) 64 (0, 0)) := blk_new _ _ _ rfl
      obtain ⟨alb, halb⟩ : ∃ x, x = (World.heap (wr.drew)).size := ⟨_, rfl⟩
      have ska : alb < (World.alloc (wr.drew) (.cells (row [] 8 (fun _ => 0)) 64)).heap.size := by rw [halb]; simp
      rw [← halb] at gka hgb ⊢
      refine ⟨ka, ?_⟩
      refine held_one 1 (by kernel_rfl) rfl rfl ?_
      refine oper_call 14 #[.agg (train r s t F)] (by kernel_rfl) (R := fun v w' => v = .agg (train r s t F) ∧ Below (World.heap (World.alloc (wr.drew) (.cells (row [] 8 (fun _ => 0)) 64))).size (World.alloc (wr.drew) (.cells (row [] 8 (fun _ => 0)) 64)) w') ((toTrain_any r s t F _).mono (fun e w' ⟨he, hb⟩ => ⟨_, he, rfl, hb⟩)) (fun v0 u1 hR => ?_)
      obtain ⟨rfl, hb1⟩ := hR
      have k1 := ka.call hB hb1
      have gk1 := blk_below hb1 (by first | assumption | (simp; done)) gka
      have sk1 : alb < u1.heap.size := Nat.lt_of_lt_of_le (by first | assumption | (simp; done)) hb1.size
      refine ⟨k1, ?_⟩
      refine held_one 3 (by kernel_rfl) rfl rfl ?_
      refine oper_call 38 #[.agg (row [] 8 z)] (by kernel_rfl) (R := fun v w' => v = .agg (row [] 8 z) ∧ Below (World.heap (u1)).size (u1) w') ((toZones_any z _).mono (fun e w' ⟨he, hb⟩ => ⟨_, he, rfl, hb⟩)) (fun v0 u2 hR => ?_)
      obtain ⟨rfl, hb2⟩ := hR
      have k2 := k1.call hB hb2
      have gk2 := blk_below hb2 (by first | assumption | (simp; done)) gk1
      have sk2 : alb < u2.heap.size := Nat.lt_of_lt_of_le (by first | assumption | (simp; done)) hb2.size
      refine ⟨k2, ?_⟩
      refine held_one 5 (by kernel_rfl) rfl rfl ?_
      refine oper_call 38 #[.agg (row [] 8 fd)] (by kernel_rfl) (R := fun v w' => v = .agg (row [] 8 fd) ∧ Below (World.heap (u2)).size (u2) w') ((toZones_any fd _).mono (fun e w' ⟨he, hb⟩ => ⟨_, he, rfl, hb⟩)) (fun v0 u3 hR => ?_)
      obtain ⟨rfl, hb3⟩ := hR
      have k3 := k2.call hB hb3
      have gk3 := blk_below hb3 (by first | assumption | (simp; done)) gk2
      have sk3 : alb < u3.heap.size := Nat.lt_of_lt_of_le (by first | assumption | (simp; done)) hb3.size
      refine ⟨k3, ?_⟩
      refine held_one 7 (by kernel_rfl) rfl rfl ?_
      refine oper_call 37 #[.agg (train r s t F), .agg (row [] 8 z), .agg (row [] 8 fd), .int .i64 q] (by kernel_rfl) (R := fun v w' => v = .tuple #[.agg (row [] 8 G), .int .i64 C] ∧ Below (World.heap (u3)).size (u3) w') ((hS _).mono (fun e w' ⟨he, hb⟩ => ⟨_, he, rfl, hb⟩)) (fun v0 u4 hR => ?_)
      obtain ⟨rfl, hb4⟩ := hR
      have k4 := k3.call hB hb4
      have gk4 := blk_below hb4 (by first | assumption | (simp; done)) gk3
      have sk4 : alb < u4.heap.size := Nat.lt_of_lt_of_le (by first | assumption | (simp; done)) hb4.size
      refine ⟨k4, ?_⟩
      refine held_yield 8 rfl rfl (by kernel_rfl) (by kernel_rfl) (by kernel_rfl) (fun _ _ _ _ h => nomatch h.1) (.tuple #[.agg (row [] 8 G), .int .i64 C]) (fun w' hw' => by kernel_rfl) k4 ?_
      refine held_yield 9 rfl rfl (by kernel_rfl) (by kernel_rfl) (by kernel_rfl) (fun _ _ _ _ h => nomatch h.1) (.agg (row [] 8 G)) (fun w' hw' => by kernel_rfl) k4 ?_
      refine held_yield 10 rfl rfl (by kernel_rfl) (by kernel_rfl) (by kernel_rfl) (fun _ _ _ _ h => nomatch h.1) (.int .i64 C) (fun w' hw' => by kernel_rfl) k4 ?_
      have hge : wr.heap.size ≤ alb := hgb
      refine held_store 12 (by kernel_rfl) rfl rfl 64 (.tmp 9) (.tmp 22) rfl (alb) 0 (row [] 8 G) (by kernel_rfl) (by kernel_rfl) 64 (row [] 8 (fun _ => 0)) (gk4) (by rw [row_size]; kernel_rfl) (by simp [row_size]) (row_cells _ _ _ rfl) _ (row_over _ _ 8 _ _ (by simp)) (k4.row hB hge _) ?_
      refine held_yield 13 rfl rfl (by kernel_rfl) (by kernel_rfl) (by kernel_rfl) (fun _ _ _ _ h => nomatch h.1) (.int .i64 C) (fun w' hw' => by kernel_rfl) (k4.row hB hge _) ?_
      refine wpAnyH_done (by kernel_rfl) ⟨rfl, alb, by kernel_rfl, blk_set _ _ _ _ _ _ _ rfl (gk4), hge, k4.row hB hge _⟩ _
  · rintro a' W' ⟨bn, rfl, hbn, hbs, hkw⟩
    have e1 := (hkw.1 _ (by omega)).trans h1
    have e2 := (hkw.1 _ (by omega)).trans h2
    have e3 := (hkw.1 _ (by omega)).trans h3
    have hw2 := hkw.2.1
    have hw3 := hkw.2.2
    have hlt : bn < W'.heap.size := by
      rcases Nat.lt_or_ge bn W'.heap.size with h | h
      · exact h
      · rw [Array.getElem?_eq_none h] at hbn; cases hbn
    clear h1 h2 h3 h5 hkw hS hK
    have hK := Kept.refl hw3
    have hB : w.heap.size ≤ W'.heap.size := by omega
    go_upto_region 2 with fail
    go_wp2
    refine region_merge (fun a0 a' W'' => ∃ (bn : Nat), a' = ((((((((((((((a0.put (some 25) (.agg (train r s t F))).put (some 27) (.agg (row [] 8 z))).put (some 29) (.agg (row [] 8 fd))).put (some 31) (.int .i64 q)).put (some 26) (.agg (train r s t F))).put (some 28) (.agg (row [] 8 z))).put (some 30) (.agg (row [] 8 fd))).put (some 32) (.tuple #[.agg (row [] 8 G), .int .i64 C])).put (some 24) (.tuple #[.agg (row [] 8 G), .int .i64 C])).put (some 33) (.agg (row [] 8 G))).put (some 34) (.int .i64 C)).put (some 11) (.pointer (some ⟨bn, 0, none⟩))).put none (undef)).put (some 12) (.int .i64 C)) ∧ W''.heap[bn]? = some (.cells (row [] 8 G) 64 (0, 0)) ∧ W'.heap.size ≤ bn ∧ Kept w.heap.size w W' W'') ?_ ?_
    · refine wp_region_held_drew (S := fun w' => Kept w.heap.size w W' w') (by kernel_rfl) hK.drew (fun hk0 => ?_)
      refine held_load 0 rfl rfl (by kernel_rfl) (by kernel_rfl) (by kernel_rfl) (fun _ _ _ _ h => nomatch h.1) 26 (.tmp 4) rfl (w.heap.size) 0 15 (by kernel_rfl) _ _ _ _ (fun _ h => (h.1 _ (by omega)).trans e1) Try.underlying26 rfl (by kernel_rfl) (by simp [row_size]) _ (row_all [_, _, _] 12 _) hk0 ?_
      refine held_load 2 rfl rfl (by kernel_rfl) (by kernel_rfl) (by kernel_rfl) (fun _ _ _ _ h => nomatch h.1) 64 (.tmp 5) rfl (w.heap.size + 1) 0 8 (by kernel_rfl) _ _ _ _ (fun _ h => (h.1 _ (by omega)).trans e2) Try.underlying64 rfl (by kernel_rfl) (by simp [row_size]) _ (row_all [] 8 _) hk0 ?_
      refine held_load 4 rfl rfl (by kernel_rfl) (by kernel_rfl) (by kernel_rfl) (fun _ _ _ _ h => nomatch h.1) 64 (.tmp 6) rfl (w.heap.size + 1 + 1) 0 8 (by kernel_rfl) _ _ _ _ (fun _ h => (h.1 _ (by omega)).trans e3) Try.underlying64 rfl (by kernel_rfl) (by simp [row_size]) _ (row_all [] 8 _) hk0 ?_
      refine held_yield 6 rfl rfl (by kernel_rfl) (by kernel_rfl) (by kernel_rfl) (fun _ _ _ _ h => nomatch h.1) (.int .i64 q) (fun w' hw' => by kernel_rfl) hk0 ?_
      refine held_two 1 11 (by kernel_rfl) rfl rfl rfl rfl ?_ ?_
      · skip
        refine oper_call 14 #[.agg (train r s t F)] (by kernel_rfl) (R := fun v w' => v = .agg (train r s t F) ∧ Below (World.heap (W'.drew)).size (W'.drew) w') ((toTrain_any r s t F _).mono (fun e w' ⟨he, hb⟩ => ⟨_, he, rfl, hb⟩)) (fun v0 u1 hR => ?_)
        obtain ⟨rfl, hb1⟩ := hR
        have k1 := hk0.call hB hb1
        refine ⟨k1, ?_⟩
        refine held_two 3 11 (by kernel_rfl) rfl rfl rfl rfl ?_ ?_
        · skip
          refine oper_call 38 #[.agg (row [] 8 z)] (by kernel_rfl) (R := fun v w' => v = .agg (row [] 8 z) ∧ Below (World.heap (u1)).size (u1) w') ((toZones_any z _).mono (fun e w' ⟨he, hb⟩ => ⟨_, he, rfl, hb⟩)) (fun v0 u2 hR => ?_)
          obtain ⟨rfl, hb2⟩ := hR
          have k2 := k1.call hB hb2
          refine ⟨k2, ?_⟩
          refine held_two 5 11 (by kernel_rfl) rfl rfl rfl rfl ?_ ?_
          · skip
            refine oper_call 38 #[.agg (row [] 8 fd)] (by kernel_rfl) (R := fun v w' => v = .agg (row [] 8 fd) ∧ Below (World.heap (u2)).size (u2) w') ((toZones_any fd _).mono (fun e w' ⟨he, hb⟩ => ⟨_, he, rfl, hb⟩)) (fun v0 u3 hR => ?_)
            obtain ⟨rfl, hb3⟩ := hR
            have k3 := k2.call hB hb3
            refine ⟨k3, ?_⟩
            refine held_two 7 11 (by kernel_rfl) rfl rfl rfl rfl ?_ ?_
            · skip
              refine oper_call 39 #[.agg (train r s t F), .agg (row [] 8 z), .agg (row [] 8 fd), .int .i64 q] (by kernel_rfl) (R := fun v w' => v = .tuple #[.agg (row [] 8 G), .int .i64 C] ∧ Below (World.heap (u3)).size (u3) w') ((hI _).mono (fun e w' ⟨he, hb⟩ => ⟨_, he, rfl, hb⟩)) (fun v0 u4 hR => ?_)
              obtain ⟨rfl, hb4⟩ := hR
              have k4 := k3.call hB hb4
              refine ⟨k4, ?_⟩
              refine held_yield 8 rfl rfl (by kernel_rfl) (by kernel_rfl) (by kernel_rfl) (fun _ _ _ _ h => nomatch h.1) (.tuple #[.agg (row [] 8 G), .int .i64 C]) (fun w' hw' => by kernel_rfl) k4 ?_
              refine held_yield 9 rfl rfl (by kernel_rfl) (by kernel_rfl) (by kernel_rfl) (fun _ _ _ _ h => nomatch h.1) (.agg (row [] 8 G)) (fun w' hw' => by kernel_rfl) k4 ?_
              refine held_yield 10 rfl rfl (by kernel_rfl) (by kernel_rfl) (by kernel_rfl) (fun _ _ _ _ h => nomatch h.1) (.int .i64 C) (fun w' hw' => by kernel_rfl) k4 ?_
              refine held_one 11 (by kernel_rfl) rfl rfl ?_
              refine oper_value (.pointer (some ⟨World.heap (u4) |>.size, 0, none⟩)) (w1 := World.alloc (u4) (.cells (row [] 8 (fun _ => 0)) 64)) (by kernel_rfl) ?_
              have ka := k4.alloc hB (.cells (row [] 8 (fun _ => 0)) 64)
              have hgb := k4.2.1
              have gka : (World.alloc (u4) (.cells (row [] 8 (fun _ => 0)) 64)).heap[(World.heap (u4)).size]? = some (.cells (row [] 8 (fun _ => 0)) 64 (0, 0)) := blk_new _ _ _ rfl
              obtain ⟨alb, halb⟩ : ∃ x, x = (World.heap (u4)).size := ⟨_, rfl⟩
              have ska : alb < (World.alloc (u4) (.cells (row [] 8 (fun _ => 0)) 64)).heap.size := by rw [halb]; simp
              rw [← halb] at gka hgb ⊢
              refine ⟨ka, ?_⟩
              have hge : W'.heap.size ≤ alb := hgb
              refine held_store 12 (by kernel_rfl) rfl rfl 64 (.tmp 11) (.tmp 33) rfl (alb) 0 (row [] 8 G) (by kernel_rfl) (by kernel_rfl) 64 (row [] 8 (fun _ => 0)) (gka) (by rw [row_size]; kernel_rfl) (by simp [row_size]) (row_cells _ _ _ rfl) _ (row_over _ _ 8 _ _ (by simp)) (ka.row hB hge _) ?_
              refine held_yield 13 rfl rfl (by kernel_rfl) (by kernel_rfl) (by kernel_rfl) (fun _ _ _ _ h => nomatch h.1) (.int .i64 C) (fun w' hw' => by kernel_rfl) (ka.row hB hge _) ?_
              refine wpAnyH_done (by kernel_rfl) ⟨rfl, alb, by kernel_rfl, blk_set _ _ _ _ _ _ _ rfl (gka), hge, ka.row hB hge _⟩ _
            · skip
              refine oper_value (.pointer (some ⟨World.heap (u3) |>.size, 0, none⟩)) (w1 := World.alloc (u3) (.cells (row [] 8 (fun _ => 0)) 64)) (by kernel_rfl) ?_
              have ka := k3.alloc hB (.cells (row [] 8 (fun _ => 0)) 64)
              have hgb := k3.2.1
              have gka : (World.alloc (u3) (.cells (row [] 8 (fun _ => 0)) 64)).heap[(World.heap (u3)).size]? = some (.cells (row [] 8 (fun _ => 0)) 64 (0, 0)) := blk_new _ _ _ rfl
              obtain ⟨alb, halb⟩ : ∃ x, x = (World.heap (u3)).size := ⟨_, rfl⟩
              have ska : alb < (World.alloc (u3) (.cells (row [] 8 (fun _ => 0)) 64)).heap.size := by rw [halb]; simp
              rw [← halb] at gka hgb ⊢
              refine ⟨ka, ?_⟩
              refine held_one 7 (by kernel_rfl) rfl rfl ?_
              refine oper_call 39 #[.agg (train r s t F), .agg (row [] 8 z), .agg (row [] 8 fd), .int .i64 q] (by kernel_rfl) (R := fun v w' => v = .tuple #[.agg (row [] 8 G), .int .i64 C] ∧ Below (World.heap (World.alloc (u3) (.cells (row [] 8 (fun _ => 0)) 64))).size (World.alloc (u3) (.cells (row [] 8 (fun _ => 0)) 64)) w') ((hI _).mono (fun e w' ⟨he, hb⟩ => ⟨_, he, rfl, hb⟩)) (fun v0 u4 hR => ?_)
              obtain ⟨rfl, hb4⟩ := hR
              have k4 := ka.call hB hb4
              have gk4 := blk_below hb4 (by first | assumption | (simp; done)) gka
              have sk4 : alb < u4.heap.size := Nat.lt_of_lt_of_le (by first | assumption | (simp; done)) hb4.size
              refine ⟨k4, ?_⟩
              refine held_yield 8 rfl rfl (by kernel_rfl) (by kernel_rfl) (by kernel_rfl) (fun _ _ _ _ h => nomatch h.1) (.tuple #[.agg (row [] 8 G), .int .i64 C]) (fun w' hw' => by kernel_rfl) k4 ?_
              refine held_yield 9 rfl rfl (by kernel_rfl) (by kernel_rfl) (by kernel_rfl) (fun _ _ _ _ h => nomatch h.1) (.agg (row [] 8 G)) (fun w' hw' => by kernel_rfl) k4 ?_
              refine held_yield 10 rfl rfl (by kernel_rfl) (by kernel_rfl) (by kernel_rfl) (fun _ _ _ _ h => nomatch h.1) (.int .i64 C) (fun w' hw' => by kernel_rfl) k4 ?_
              have hge : W'.heap.size ≤ alb := hgb
              refine held_store 12 (by kernel_rfl) rfl rfl 64 (.tmp 11) (.tmp 33) rfl (alb) 0 (row [] 8 G) (by kernel_rfl) (by kernel_rfl) 64 (row [] 8 (fun _ => 0)) (gk4) (by rw [row_size]; kernel_rfl) (by simp [row_size]) (row_cells _ _ _ rfl) _ (row_over _ _ 8 _ _ (by simp)) (k4.row hB hge _) ?_
              refine held_yield 13 rfl rfl (by kernel_rfl) (by kernel_rfl) (by kernel_rfl) (fun _ _ _ _ h => nomatch h.1) (.int .i64 C) (fun w' hw' => by kernel_rfl) (k4.row hB hge _) ?_
              refine wpAnyH_done (by kernel_rfl) ⟨rfl, alb, by kernel_rfl, blk_set _ _ _ _ _ _ _ rfl (gk4), hge, k4.row hB hge _⟩ _
          · skip
            refine oper_value (.pointer (some ⟨World.heap (u2) |>.size, 0, none⟩)) (w1 := World.alloc (u2) (.cells (row [] 8 (fun _ => 0)) 64)) (by kernel_rfl) ?_
            have ka := k2.alloc hB (.cells (row [] 8 (fun _ => 0)) 64)
            have hgb := k2.2.1
            have gka : (World.alloc (u2) (.cells (row [] 8 (fun _ => 0)) 64)).heap[(World.heap (u2)).size]? = some (.cells (row [] 8 (fun _ => 0)) 64 (0, 0)) := blk_new _ _ _ rfl
            obtain ⟨alb, halb⟩ : ∃ x, x = (World.heap (u2)).size := ⟨_, rfl⟩
            have ska : alb < (World.alloc (u2) (.cells (row [] 8 (fun _ => 0)) 64)).heap.size := by rw [halb]; simp
            rw [← halb] at gka hgb ⊢
            refine ⟨ka, ?_⟩
            refine held_one 5 (by kernel_rfl) rfl rfl ?_
            refine oper_call 38 #[.agg (row [] 8 fd)] (by kernel_rfl) (R := fun v w' => v = .agg (row [] 8 fd) ∧ Below (World.heap (World.alloc (u2) (.cells (row [] 8 (fun _ => 0)) 64))).size (World.alloc (u2) (.cells (row [] 8 (fun _ => 0)) 64)) w') ((toZones_any fd _).mono (fun e w' ⟨he, hb⟩ => ⟨_, he, rfl, hb⟩)) (fun v0 u3 hR => ?_)
            obtain ⟨rfl, hb3⟩ := hR
            have k3 := ka.call hB hb3
            have gk3 := blk_below hb3 (by first | assumption | (simp; done)) gka
            have sk3 : alb < u3.heap.size := Nat.lt_of_lt_of_le (by first | assumption | (simp; done)) hb3.size
            refine ⟨k3, ?_⟩
            refine held_one 7 (by kernel_rfl) rfl rfl ?_
            refine oper_call 39 #[.agg (train r s t F), .agg (row [] 8 z), .agg (row [] 8 fd), .int .i64 q] (by kernel_rfl) (R := fun v w' => v = .tuple #[.agg (row [] 8 G), .int .i64 C] ∧ Below (World.heap (u3)).size (u3) w') ((hI _).mono (fun e w' ⟨he, hb⟩ => ⟨_, he, rfl, hb⟩)) (fun v0 u4 hR => ?_)
            obtain ⟨rfl, hb4⟩ := hR
            have k4 := k3.call hB hb4
            have gk4 := blk_below hb4 (by first | assumption | (simp; done)) gk3
            have sk4 : alb < u4.heap.size := Nat.lt_of_lt_of_le (by first | assumption | (simp; done)) hb4.size
            refine ⟨k4, ?_⟩
            refine held_yield 8 rfl rfl (by kernel_rfl) (by kernel_rfl) (by kernel_rfl) (fun _ _ _ _ h => nomatch h.1) (.tuple #[.agg (row [] 8 G), .int .i64 C]) (fun w' hw' => by kernel_rfl) k4 ?_
            refine held_yield 9 rfl rfl (by kernel_rfl) (by kernel_rfl) (by kernel_rfl) (fun _ _ _ _ h => nomatch h.1) (.agg (row [] 8 G)) (fun w' hw' => by kernel_rfl) k4 ?_
            refine held_yield 10 rfl rfl (by kernel_rfl) (by kernel_rfl) (by kernel_rfl) (fun _ _ _ _ h => nomatch h.1) (.int .i64 C) (fun w' hw' => by kernel_rfl) k4 ?_
            have hge : W'.heap.size ≤ alb := hgb
            refine held_store 12 (by kernel_rfl) rfl rfl 64 (.tmp 11) (.tmp 33) rfl (alb) 0 (row [] 8 G) (by kernel_rfl) (by kernel_rfl) 64 (row [] 8 (fun _ => 0)) (gk4) (by rw [row_size]; kernel_rfl) (by simp [row_size]) (row_cells _ _ _ rfl) _ (row_over _ _ 8 _ _ (by simp)) (k4.row hB hge _) ?_
            refine held_yield 13 rfl rfl (by kernel_rfl) (by kernel_rfl) (by kernel_rfl) (fun _ _ _ _ h => nomatch h.1) (.int .i64 C) (fun w' hw' => by kernel_rfl) (k4.row hB hge _) ?_
            refine wpAnyH_done (by kernel_rfl) ⟨rfl, alb, by kernel_rfl, blk_set _ _ _ _ _ _ _ rfl (gk4), hge, k4.row hB hge _⟩ _
        · skip
          refine oper_value (.pointer (some ⟨World.heap (u1) |>.size, 0, none⟩)) (w1 := World.alloc (u1) (.cells (row [] 8 (fun _ => 0)) 64)) (by kernel_rfl) ?_
          have ka := k1.alloc hB (.cells (row [] 8 (fun _ => 0)) 64)
          have hgb := k1.2.1
          have gka : (World.alloc (u1) (.cells (row [] 8 (fun _ => 0)) 64)).heap[(World.heap (u1)).size]? = some (.cells (row [] 8 (fun _ => 0)) 64 (0, 0)) := blk_new _ _ _ rfl
          obtain ⟨alb, halb⟩ : ∃ x, x = (World.heap (u1)).size := ⟨_, rfl⟩
          have ska : alb < (World.alloc (u1) (.cells (row [] 8 (fun _ => 0)) 64)).heap.size := by rw [halb]; simp
          rw [← halb] at gka hgb ⊢
          refine ⟨ka, ?_⟩
          refine held_one 3 (by kernel_rfl) rfl rfl ?_
          refine oper_call 38 #[.agg (row [] 8 z)] (by kernel_rfl) (R := fun v w' => v = .agg (row [] 8 z) ∧ Below (World.heap (World.alloc (u1) (.cells (row [] 8 (fun _ => 0)) 64))).size (World.alloc (u1) (.cells (row [] 8 (fun _ => 0)) 64)) w') ((toZones_any z _).mono (fun e w' ⟨he, hb⟩ => ⟨_, he, rfl, hb⟩)) (fun v0 u2 hR => ?_)
          obtain ⟨rfl, hb2⟩ := hR
          have k2 := ka.call hB hb2
          have gk2 := blk_below hb2 (by first | assumption | (simp; done)) gka
          have sk2 : alb < u2.heap.size := Nat.lt_of_lt_of_le (by first | assumption | (simp; done)) hb2.size
          refine ⟨k2, ?_⟩
          refine held_one 5 (by kernel_rfl) rfl rfl ?_
          refine oper_call 38 #[.agg (row [] 8 fd)] (by kernel_rfl) (R := fun v w' => v = .agg (row [] 8 fd) ∧ Below (World.heap (u2)).size (u2) w') ((toZones_any fd _).mono (fun e w' ⟨he, hb⟩ => ⟨_, he, rfl, hb⟩)) (fun v0 u3 hR => ?_)
          obtain ⟨rfl, hb3⟩ := hR
          have k3 := k2.call hB hb3
          have gk3 := blk_below hb3 (by first | assumption | (simp; done)) gk2
          have sk3 : alb < u3.heap.size := Nat.lt_of_lt_of_le (by first | assumption | (simp; done)) hb3.size
          refine ⟨k3, ?_⟩
          refine held_one 7 (by kernel_rfl) rfl rfl ?_
          refine oper_call 39 #[.agg (train r s t F), .agg (row [] 8 z), .agg (row [] 8 fd), .int .i64 q] (by kernel_rfl) (R := fun v w' => v = .tuple #[.agg (row [] 8 G), .int .i64 C] ∧ Below (World.heap (u3)).size (u3) w') ((hI _).mono (fun e w' ⟨he, hb⟩ => ⟨_, he, rfl, hb⟩)) (fun v0 u4 hR => ?_)
          obtain ⟨rfl, hb4⟩ := hR
          have k4 := k3.call hB hb4
          have gk4 := blk_below hb4 (by first | assumption | (simp; done)) gk3
          have sk4 : alb < u4.heap.size := Nat.lt_of_lt_of_le (by first | assumption | (simp; done)) hb4.size
          refine ⟨k4, ?_⟩
          refine held_yield 8 rfl rfl (by kernel_rfl) (by kernel_rfl) (by kernel_rfl) (fun _ _ _ _ h => nomatch h.1) (.tuple #[.agg (row [] 8 G), .int .i64 C]) (fun w' hw' => by kernel_rfl) k4 ?_
          refine held_yield 9 rfl rfl (by kernel_rfl) (by kernel_rfl) (by kernel_rfl) (fun _ _ _ _ h => nomatch h.1) (.agg (row [] 8 G)) (fun w' hw' => by kernel_rfl) k4 ?_
          refine held_yield 10 rfl rfl (by kernel_rfl) (by kernel_rfl) (by kernel_rfl) (fun _ _ _ _ h => nomatch h.1) (.int .i64 C) (fun w' hw' => by kernel_rfl) k4 ?_
          have hge : W'.heap.size ≤ alb := hgb
          refine held_store 12 (by kernel_rfl) rfl rfl 64 (.tmp 11) (.tmp 33) rfl (alb) 0 (row [] 8 G) (by kernel_rfl) (by kernel_rfl) 64 (row [] 8 (fun _ => 0)) (gk4) (by rw [row_size]; kernel_rfl) (by simp [row_size]) (row_cells _ _ _ rfl) _ (row_over _ _ 8 _ _ (by simp)) (k4.row hB hge _) ?_
          refine held_yield 13 rfl rfl (by kernel_rfl) (by kernel_rfl) (by kernel_rfl) (fun _ _ _ _ h => nomatch h.1) (.int .i64 C) (fun w' hw' => by kernel_rfl) (k4.row hB hge _) ?_
          refine wpAnyH_done (by kernel_rfl) ⟨rfl, alb, by kernel_rfl, blk_set _ _ _ _ _ _ _ rfl (gk4), hge, k4.row hB hge _⟩ _
      · skip
        refine oper_value (.pointer (some ⟨World.heap (W'.drew) |>.size, 0, none⟩)) (w1 := World.alloc (W'.drew) (.cells (row [] 8 (fun _ => 0)) 64)) (by kernel_rfl) ?_
        have ka := hk0.alloc hB (.cells (row [] 8 (fun _ => 0)) 64)
        have hgb := hk0.2.1
        have gka : (World.alloc (W'.drew) (.cells (row [] 8 (fun _ => 0)) 64)).heap[(World.heap (W'.drew)).size]? = some (.cells (row [] 8 (fun _ => 0)) 64 (0, 0)) := blk_new _ _ _ rfl
        obtain ⟨alb, halb⟩ : ∃ x, x = (World.heap (W'.drew)).size := ⟨_, rfl⟩
        have ska : alb < (World.alloc (W'.drew) (.cells (row [] 8 (fun _ => 0)) 64)).heap.size := by rw [halb]; simp
        rw [← halb] at gka hgb ⊢
        refine ⟨ka, ?_⟩
        refine held_one 1 (by kernel_rfl) rfl rfl ?_
        refine oper_call 14 #[.agg (train r s t F)] (by kernel_rfl) (R := fun v w' => v = .agg (train r s t F) ∧ Below (World.heap (World.alloc (W'.drew) (.cells (row [] 8 (fun _ => 0)) 64))).size (World.alloc (W'.drew) (.cells (row [] 8 (fun _ => 0)) 64)) w') ((toTrain_any r s t F _).mono (fun e w' ⟨he, hb⟩ => ⟨_, he, rfl, hb⟩)) (fun v0 u1 hR => ?_)
        obtain ⟨rfl, hb1⟩ := hR
        have k1 := ka.call hB hb1
        have gk1 := blk_below hb1 (by first | assumption | (simp; done)) gka
        have sk1 : alb < u1.heap.size := Nat.lt_of_lt_of_le (by first | assumption | (simp; done)) hb1.size
        refine ⟨k1, ?_⟩
        refine held_one 3 (by kernel_rfl) rfl rfl ?_
        refine oper_call 38 #[.agg (row [] 8 z)] (by kernel_rfl) (R := fun v w' => v = .agg (row [] 8 z) ∧ Below (World.heap (u1)).size (u1) w') ((toZones_any z _).mono (fun e w' ⟨he, hb⟩ => ⟨_, he, rfl, hb⟩)) (fun v0 u2 hR => ?_)
        obtain ⟨rfl, hb2⟩ := hR
        have k2 := k1.call hB hb2
        have gk2 := blk_below hb2 (by first | assumption | (simp; done)) gk1
        have sk2 : alb < u2.heap.size := Nat.lt_of_lt_of_le (by first | assumption | (simp; done)) hb2.size
        refine ⟨k2, ?_⟩
        refine held_one 5 (by kernel_rfl) rfl rfl ?_
        refine oper_call 38 #[.agg (row [] 8 fd)] (by kernel_rfl) (R := fun v w' => v = .agg (row [] 8 fd) ∧ Below (World.heap (u2)).size (u2) w') ((toZones_any fd _).mono (fun e w' ⟨he, hb⟩ => ⟨_, he, rfl, hb⟩)) (fun v0 u3 hR => ?_)
        obtain ⟨rfl, hb3⟩ := hR
        have k3 := k2.call hB hb3
        have gk3 := blk_below hb3 (by first | assumption | (simp; done)) gk2
        have sk3 : alb < u3.heap.size := Nat.lt_of_lt_of_le (by first | assumption | (simp; done)) hb3.size
        refine ⟨k3, ?_⟩
        refine held_one 7 (by kernel_rfl) rfl rfl ?_
        refine oper_call 39 #[.agg (train r s t F), .agg (row [] 8 z), .agg (row [] 8 fd), .int .i64 q] (by kernel_rfl) (R := fun v w' => v = .tuple #[.agg (row [] 8 G), .int .i64 C] ∧ Below (World.heap (u3)).size (u3) w') ((hI _).mono (fun e w' ⟨he, hb⟩ => ⟨_, he, rfl, hb⟩)) (fun v0 u4 hR => ?_)
        obtain ⟨rfl, hb4⟩ := hR
        have k4 := k3.call hB hb4
        have gk4 := blk_below hb4 (by first | assumption | (simp; done)) gk3
        have sk4 : alb < u4.heap.size := Nat.lt_of_lt_of_le (by first | assumption | (simp; done)) hb4.size
        refine ⟨k4, ?_⟩
        refine held_yield 8 rfl rfl (by kernel_rfl) (by kernel_rfl) (by kernel_rfl) (fun _ _ _ _ h => nomatch h.1) (.tuple #[.agg (row [] 8 G), .int .i64 C]) (fun w' hw' => by kernel_rfl) k4 ?_
        refine held_yield 9 rfl rfl (by kernel_rfl) (by kernel_rfl) (by kernel_rfl) (fun _ _ _ _ h => nomatch h.1) (.agg (row [] 8 G)) (fun w' hw' => by kernel_rfl) k4 ?_
        refine held_yield 10 rfl rfl (by kernel_rfl) (by kernel_rfl) (by kernel_rfl) (fun _ _ _ _ h => nomatch h.1) (.int .i64 C) (fun w' hw' => by kernel_rfl) k4 ?_
        have hge : W'.heap.size ≤ alb := hgb
        refine held_store 12 (by kernel_rfl) rfl rfl 64 (.tmp 11) (.tmp 33) rfl (alb) 0 (row [] 8 G) (by kernel_rfl) (by kernel_rfl) 64 (row [] 8 (fun _ => 0)) (gk4) (by rw [row_size]; kernel_rfl) (by simp [row_size]) (row_cells _ _ _ rfl) _ (row_over _ _ 8 _ _ (by simp)) (k4.row hB hge _) ?_
        refine held_yield 13 rfl rfl (by kernel_rfl) (by kernel_rfl) (by kernel_rfl) (fun _ _ _ _ h => nomatch h.1) (.int .i64 C) (fun w' hw' => by kernel_rfl) (k4.row hB hge _) ?_
        refine wpAnyH_done (by kernel_rfl) ⟨rfl, alb, by kernel_rfl, blk_set _ _ _ _ _ _ _ rfl (gk4), hge, k4.row hB hge _⟩ _
    · rintro a' W'' ⟨bm, rfl, hbm, hbs2, hkw2⟩
      have e8 := (hkw2.1 _ hlt).trans hbn
      have hbw := hkw2.2.2
      have hsw := hkw2.2.1
      clear e1 e2 e3 hw3 hkw2 hI hK hbn
      refine norm_act (a1 := ⟨#[.agg (train r s t F), .agg (row [] 8 z), .agg (row [] 8 fd), .int .i64 q, .pointer (some ⟨w.heap.size, 0, none⟩), .pointer (some ⟨w.heap.size + 1, 0, none⟩), .pointer (some ⟨w.heap.size + 1 + 1, 0, none⟩), undef, .bool false, .pointer (some ⟨bn, 0, none⟩), .int .i64 C, .pointer (some ⟨bm, 0, none⟩), .int .i64 C, .tuple #[.agg (row [] 8 G), .int .i64 C], .agg (train r s t F), .agg (train r s t F), .agg (row [] 8 z), .agg (row [] 8 z), .agg (row [] 8 fd), .agg (row [] 8 fd), .int .i64 q, .tuple #[.agg (row [] 8 G), .int .i64 C], .agg (row [] 8 G), .int .i64 C, .tuple #[.agg (row [] 8 G), .int .i64 C], .agg (train r s t F), .agg (train r s t F), .agg (row [] 8 z), .agg (row [] 8 z), .agg (row [] 8 fd), .agg (row [] 8 fd), .int .i64 q, .tuple #[.agg (row [] 8 G), .int .i64 C], .agg (row [] 8 G), .int .i64 C, undef, undef, undef, undef, undef, undef, undef, undef, undef], []⟩) (by kernel_rfl) ?_
      go_wp2_with (first | ((with_reducible refine at_load 64 ?_); refine wpList_load_part rfl 64 _ rfl _ 0 8 rfl _ _ _ _ (by repeat (first | (with_reducible assumption) | ((with_reducible refine blk_new _ _ _ ?_); focus (simp; done)) | ((with_reducible refine blk_old _ _ _ ?_ ?_); focus (simp; done)) | ((with_reducible refine blk_old _ _ _ ?_ ?_); focus (first | omega | (simp; omega))) | ((with_reducible apply blk_set); focus (simp; done)) | ((with_reducible refine blk_off _ _ _ _ ?_ ?_); focus (simp; done)) | ((with_reducible refine blk_offc _ _ _ _ ?_ ?_); focus (first | (simp; done) | omega | (simp; omega))) | ((with_reducible refine blk_off _ _ _ _ ?_ ?_); focus (first | omega | (simp; omega))) | (with_reducible refine blk_drew _ _ ?_) | ((with_reducible refine blk_below (by assumption) ?_ ?_); focus (simp; done)) | ((with_reducible refine blk_below (by assumption) ?_ ?_); focus (first | omega | (simp; omega))))) Try.underlying64 rfl (by kernel_rfl) (by simp [row_size]) _ (row_all [] 8 _) ?_) | (go_at_call 40; (with_reducible refine (eqA8_self G _ hN).mono ?_); rintro e w6 ⟨rfl, hb6⟩; have hz6 := hb6.size; (try simp at hz6); obtain ⟨hc6, hf6⟩ := bcell hb6) | go_in)
      go_ret
      exact ⟨by simp, (by repeat (first | (with_reducible assumption) | (with_reducible exact Below.refl _ _) | ((with_reducible refine bel_alloc _ ?_ ?_); focus (first | omega | (simp; done) | (simp; omega))) | ((with_reducible refine bel_row _ ?_ ?_); focus (first | omega | (simp; done) | (simp; omega))) | ((with_reducible refine bel_cell _ ?_ ?_); focus (first | omega | (simp; done) | (simp; omega))) | (with_reducible refine Below.drew ?_) | (with_reducible refine below_wideW _ ?_) | ((with_reducible refine bel_next (by assumption) ?_ ?_); focus (first | omega | (simp; done) | (simp; omega)))))⟩
end Go.Proofs.Ytlohgpbhebmefaa
