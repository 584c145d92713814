/- The text of a train; plain. -/
import Derived.Test.YtckcngmbbnilnaaDoorTextD
import Derived.Test.YtckcngmbbnilnaaDoorTNum
set_option linter.unusedVariables false
set_option linter.unusedSimpArgs false
namespace Go.Proofs.YtckcngmbbnilnaaDoor
open Go.RowKit Go.Lib

/-- The text of a train that has one. -/
def trainTx (n s t : Nat) (F : Nat → Nat) : List UInt8 := Lib.decDigits n ++ (32 :: numText s) ++ (32 :: numText t) ++ tailT F n
/-- Are all numbers from n on +0? -/
def bareT (n : Nat) (F : Nat → Nat) : Bool := allZ (fun j => F (n + j)) (12 - n)
/-- The text of a train, empty if it has none. -/
def trainText (r : Int) (s t : Nat) (F : Nat → Nat) : List UInt8 := if trainB r s t F && bareT r.toNat F then trainTx r.toNat s t F else []

theorem zero_bits {x : Nat} (hx : x < 2 ^ 32) (h : zeroB x = true) : x = 0 ∨ x = 2147483648 := by
  have ho := zero_yes h
  have hn : ¬ Flt.NaN Ieee.single x := fun hn => by
    rw [order_nan .f32 (Or.inl hn)] at ho
    exact absurd ho (by simp)
  have hz : Flt.Z Ieee.single x = Flt.Z Ieee.single 0 := by
    rw [show FloatKind.f32.format.order x 0 = Ieee.single.order x 0 from rfl, Flt.order_num Ieee.single (by decide) hn (by decide +kernel)] at ho
    simpa [Int.compare_eq_eq] using ho
  have hs : 2 * Ieee.single.signWeight = 2 ^ 32 := by decide
  by_cases hg : Flt.neg Ieee.single x = false
  · left
    exact Flt.word_inj Ieee.single (by omega) (by rw [hs]; decide) (hg.trans (by decide +kernel)) hz
  · right
    refine Flt.word_inj Ieee.single (by omega) (by rw [hs]; decide) ?_ (hz.trans (by decide +kernel))
    rw [show Flt.neg Ieee.single 2147483648 = true by decide +kernel]
    simpa using hg
theorem canon_zero {x : Nat} (h : x = 0 ∨ x = 2147483648) : canonB x = x := by
  rcases h with rfl | rfl <;> decide +kernel
theorem allZ_le {G : Nat → Nat} {n : Nat} (h : allZ G n = true) : ∀ k, k < n → G k = 0 := by
  induction n with
  | zero => intro k hk; omega
  | succ m ih =>
    unfold allZ at h
    simp only [Bool.and_eq_true, beq_iff_eq] at h
    intro k hk
    by_cases e : k = m
    · subst e; exact h.2
    · exact ih h.1 k (by omega)
theorem trainTx_length {n s t : Nat} {F : Nat → Nat} (h : n < 100) : (trainTx n s t F).length ≤ 20 + 9 * n := by
  have h1 : (Lib.decDigits n).length ≤ 2 := by
    by_cases h10 : n < 10
    · rw [dec_small h10]; simp
    · rw [dec_two (by omega) h]; simp
  unfold trainTx
  simp only [List.length_append, List.length_cons, numText_length, tailT_length]
  omega
theorem decAny (n : Nat) (h : n < 100) (w : World) :
    Calls Tryd.prog 66 #[.int .i64 n] w fun e w' => e = .returned (.string ⟨(Lib.decDigits n).toArray⟩) ∧ Below w.heap.size w w' := by
  by_cases h10 : n < 10
  · exact decSmall n h10 w
  · exact decTwo n (by omega) h w
theorem dec_len (n : Nat) (h : n < 100) : (Lib.decDigits n).length ≤ 2 ∧ 1 ≤ (Lib.decDigits n).length := by
  by_cases h10 : n < 10
  · rw [dec_small h10]; simp
  · rw [dec_two (by omega) h]; simp
end Go.Proofs.YtckcngmbbnilnaaDoor
