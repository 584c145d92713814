/- Contracts of SameTrain, the reference's and the program's, and the law on it. -/
import Derived.Test.YthgodmnalojnaaaTMap
set_option linter.unusedVariables false
set_option linter.unusedSimpArgs false
namespace Go.Proofs.Ythgodmnalojnaaa
open Go.RowKit Ieee

def sameTo (F G : Nat → Nat) : Nat → Bool
  | 0 => true
  | k + 1 => sameTo F G k && sameN (F k) (G k)
theorem sameTo_no {F G : Nat → Nat} {k n : Nat} (hk : k < n) (h : sameN (F k) (G k) = false) : sameTo F G n = false := by
  induction n with
  | zero => omega
  | succ n ih =>
    by_cases e : k = n
    · subst e; simp [sameTo, h]
    · simp [sameTo, ih (by omega)]

theorem implSame_q {a b : Nat} {v : Bool} (h : sameN a b = v) (ha : a < 2 ^ 32) (hb : b < 2 ^ 32) (w : World) (n : Nat) : Calls Try.prog 69 #[.float .f32 a, .float .f32 b] (w.drewN n) fun e w' => e = .returned (.bool v) ∧ ∃ m, w' = w.drewN m := by
  subst h
  exact quiet_same (implSame_any a b _ ha hb)
theorem specSame_q {a b : Nat} {v : Bool} (h : sameN a b = v) (w : World) (n : Nat) : Calls Try.prog 68 #[.float .f32 a, .float .f32 b] (w.drewN n) fun e w' => e = .returned (.bool v) ∧ ∃ m, w' = w.drewN m := by
  subst h
  exact quiet_same (specSame_any a b _)

set_option maxHeartbeats 800000 in
theorem sameNumbers_any (F G : Nat → Nat) (n b o b' o' c c' : Nat) (w : World) (hn : n ≤ 64) (hF : ∀ i, i < n → F i < 2 ^ 32) (hG : ∀ i, i < n → G i < 2 ^ 32)
    (hc : ∀ i, i < n → w.cell? ⟨b, o + i, none⟩ = some (.float .f32 (F i))) (hc' : ∀ i, i < n → w.cell? ⟨b', o' + i, none⟩ = some (.float .f32 (G i))) :
    Calls Try.prog 45 #[.slice (some ⟨b, o, none⟩) n c, .slice (some ⟨b', o', none⟩) n c'] w fun e w' => e = .returned (.bool (sameTo F G n)) ∧ ∃ m, w' = w.drewN m := by
  have HC := Lib.hid hc
  have HC' := Lib.hid hc'
  have HF := Lib.hid hF
  have HG := Lib.hid hG
  clear hc hc' hF hG
  go_enter Try.func45, Try.ntmps45
  go_wp2
  go_loopw [8] (fun i wr => ∃ k m : Nat, k ≤ n ∧ i = .int .i64 k ∧ sameTo F G k = true ∧ wr = w.drewN m) (fun i _ => n - (intOf i).toNat)
  case atStart => exact ⟨0, 0, by omega, rfl, rfl, rfl⟩
  case round =>
    obtain ⟨k, m, hk, rfl, hs, hwr⟩ := hrel
    have HW := Lib.hid hwr
    have HS := Lib.hid hs
    clear hs
    by_cases hlt : k < n
    · have ca : wr.cell? ⟨b, o + k, none⟩ = some (.float .f32 (F k)) := by rw [hwr]; exact HC.out k hlt
      have cb : wr.cell? ⟨b', o' + k, none⟩ = some (.float .f32 (G k)) := by rw [hwr]; exact HC'.out k hlt
      clear hwr
      cases hk2 : sameN (F k) (G k)
      · go_wp2
        go_quiet ((go_at_call 69; exact implSame_q hk2 (HF.out k hlt) (HG.out k hlt) _ _))
        go_wp2
        go_ret
        exact ⟨by rw [sameTo_no hlt hk2]; rfl, _, by rw [HW.out, World.drewN_drewN]⟩
      · go_wp2
        go_quiet ((go_at_call 69; exact implSame_q hk2 (HF.out k hlt) (HG.out k hlt) _ _))
        go_wp2
        go_roundw
        case rel => exact ⟨k + 1, _, by omega, by go_num, by simp [sameTo, HS.out, hk2], by rw [HW.out, World.drewN_drewN]⟩
        case measure => simp [intOf]; omega
    · obtain rfl : k = n := by omega
      clear hwr
      go_wp2
      go_ret
      exact ⟨by rw [HS.out]; rfl, m, HW.out⟩

def sameT (r : Int) (s t : Nat) (F : Nat → Nat) (r' : Int) (s' t' : Nat) (F' : Nat → Nat) : Bool := (r == r') && (sameN s s' && (sameN t t' && sameTo F F' 12))

end Go.Proofs.Ythgodmnalojnaaa
