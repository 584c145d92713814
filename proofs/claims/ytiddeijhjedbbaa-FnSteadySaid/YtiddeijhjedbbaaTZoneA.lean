/- Lists of eight numbers: copied, compared; what ZoneTrains gives. -/
import Derived.Test.YtiddeijhjedbbaaTPrint
import Derived.Test.YtiddeijhjedbbaaHeld2
import Derived.Test.YtiddeijhjedbbaaTTimes
set_option linter.unusedVariables false
set_option linter.unusedSimpArgs false
namespace Go.Proofs.Ytiddeijhjedbbaa
open Go.RowKit Ieee
theorem put_mix8 {w : World} {g : Nat} {n : Nat} {F G : Nat → Nat} {t : TypeId} {k v : Nat} (hk : k < n) (hv : v = G k) (h : w.heap[g]? = some (.cells (row [] n (mix G F k)) t (0, 0))) :
    (w.setCell ⟨g, k, none⟩ (.float .f32 v)).heap[g]? = some (.cells (row [] n (mix G F (k + 1))) t (0, 0)) := by
  subst hv
  have := put_mix (pre := []) hk h
  simpa using this
/-- Are the first n parts and films of the zones fit? -/
def zoneB (z fd : Nat → Nat) : Nat → Bool
  | 0 => true
  | n + 1 => zoneB z fd n && (partB (z n) && filmB (fd n))
theorem zone_no {z fd : Nat → Nat} {k : Nat} (hk : k < 8) (h : (partB (z k) && filmB (fd k)) = false) : zoneB z fd 8 = false := by
  have key : ∀ d, zoneB z fd (k + 1 + d) = false := by
    intro d
    induction d with
    | zero => show (zoneB z fd k && _) = false; rw [h, Bool.and_false]
    | succ d ih => show (zoneB z fd (k + 1 + d) && _) = false; rw [ih, Bool.false_and]
  have := key (7 - k)
  rwa [show k + 1 + (7 - k) = 8 by omega] at this
theorem zone_at {z fd : Nat → Nat} : ∀ {n}, zoneB z fd n = true → ∀ k, k < n → partB (z k) = true ∧ filmB (fd k) = true
  | 0, _, k, hk => by omega
  | n + 1, h, k, hk => by
    simp only [zoneB, Bool.and_eq_true] at h
    by_cases e : k = n
    · subst e; exact h.2
    · exact zone_at h.1 k (by omega)
/-- What is printed last in zone i. -/
def lastP (r : Int) (s t : Nat) (F : Nat → Nat) (z fd : Nat → Nat) (q : Int) : Nat → Nat := fun i => if 0 < q then prF r s t (fd i) (z i) F (q.toNat - 1) else 0
/-- From zone i on: do all turns come to their end, and with what code? -/
def zRun (r : Int) (s t : Nat) (F : Nat → Nat) (z fd : Nat → Nat) (q : Int) : Nat → Nat → Bool × Int
  | 0, _ => (true, 0)
  | f + 1, i => if tsB r s t F (fd i) (z i) q then zRun r s t F z fd q f (i + 1) else (false, tsC r s t F (fd i) (z i) q)
def zAll (r : Int) (s t : Nat) (F : Nat → Nat) (z fd : Nat → Nat) (q : Int) : Bool × Int := if trainB r s t F then (if zoneB z fd 8 then zRun r s t F z fd q 8 0 else (false, 2)) else (false, 1)
theorem zRun_range {r : Int} {s t : Nat} {F z fd : Nat → Nat} {q : Int} (ho : trainB r s t F = true) (hz : zoneB z fd 8 = true) (hr : rangeT q = false) : zRun r s t F z fd q 8 0 = (false, 2) := by
  obtain ⟨h1, h2⟩ := zone_at hz 0 (by omega)
  have ha : askB r s t F (fd 0) (z 0) = true := by unfold askB; rw [ho, h1, h2]; rfl
  have h3 : tsB r s t F (fd 0) (z 0) q = false := by unfold tsB; rw [hr]; simp
  have h4 : tsC r s t F (fd 0) (z 0) q = 2 := by unfold tsC; rw [ha, hr]; rfl
  unfold zRun
  rw [h3, h4]
  simp
theorem zRun_all {r : Int} {s t : Nat} {F z fd : Nat → Nat} {q : Int} : ∀ f i, (zRun r s t F z fd q f i).1 = true → ∀ j, i ≤ j → j < i + f → tsB r s t F (fd j) (z j) q = true
  | 0, i, _, j, h1, h2 => by omega
  | f + 1, i, h, j, h1, h2 => by
    unfold zRun at h
    cases ht : tsB r s t F (fd i) (z i) q
    · rw [ht] at h; simp at h
    · rw [ht] at h
      simp only [if_true] at h
      by_cases e : j = i
      · subst e; exact ht
      · exact zRun_all f (i + 1) h j (by omega) (by omega)
theorem ts_range {r : Int} {s t : Nat} {F : Nat → Nat} {fed cover : Nat} {q : Int} (h : tsB r s t F fed cover q = true) : 0 ≤ q ∧ q ≤ 2000 := by
  unfold tsB rangeT at h
  simp only [Bool.and_eq_true, decide_eq_true_eq] at h
  exact h.1.2
theorem range_no {q : Int} (h : rangeT q = false) : q < 0 ∨ 2000 < q := by
  unfold rangeT at h
  simp only [Bool.and_eq_false_iff, decide_eq_false_iff_not] at h
  omega
theorem range_yes {q : Int} (h : rangeT q = true) : 0 ≤ q ∧ q ≤ 2000 := by
  unfold rangeT at h
  simp only [Bool.and_eq_true, decide_eq_true_eq] at h
  exact h
theorem last_num {r : Int} {s t : Nat} {F z fd : Nat → Nat} {q : Int} (h : ∀ j, j < 8 → tsB r s t F (fd j) (z j) q = true) : ∀ i, i < 8 → ¬ Flt.NaN single (lastP r s t F z fd q i) := by
  intro i hi
  unfold lastP
  split
  · have hb := h i hi
    obtain ⟨_, hN⟩ := ts_yes hb
    exact ts_num (r := r) (s := s) (t := t) (F := F) (fed := fd i) (cover := z i) (q := q) _ (by rw [hN]; omega)
  · exact (by decide : ¬ Flt.NaN single 0)
theorem mix_zero (G : Nat → Nat) (k : Nat) (h : G k = 0) : row [] 8 (mix G (fun _ => 0) (k + 1)) = row [] 8 (mix G (fun _ => 0) k) := row_congr _ _ _ (fun i _ => by
  unfold mix
  by_cases e : i = k
  · subst e; simp [h]
  · by_cases h1 : i < k
    · rw [if_pos (by omega), if_pos h1]
    · rw [if_neg (by omega), if_neg h1])
theorem mix_none (G : Nat → Nat) : row [] 8 (mix G (fun _ => 0) 0) = row [] 8 (fun _ => 0) := row_congr _ _ _ (fun i _ => by simp [mix])
end Go.Proofs.Ytiddeijhjedbbaa
