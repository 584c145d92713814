/- Texts of lists of numbers; plain, no program in sight. -/
import Derived.Test.YtckcngmbbnilnaaDoorHexN
import Derived.Test.YtckcngmbbnilnaaDoorShelf2
import Derived.Lib.Join
set_option linter.unusedVariables false
set_option linter.unusedSimpArgs false
namespace Go.Proofs.YtckcngmbbnilnaaDoor
open Go.RowKit Go.Lib

/-- The texts of n numbers, a blank ahead of each. -/
def tailT (G : Nat → Nat) : Nat → List UInt8
  | 0 => []
  | k + 1 => tailT G k ++ 32 :: numText (G k)
/-- The texts of n numbers, a blank between them. -/
def joinT (G : Nat → Nat) (n : Nat) : List UInt8 := Lib.join ((List.range n).map fun k => numText (G k)) [32]
theorem tail_flat (G : Nat → Nat) : ∀ n, Lib.joinTail [32] ((List.range n).map fun k => numText (G k)) = tailT G n
  | 0 => rfl
  | n + 1 => by
    have ih := tail_flat G n
    unfold Lib.joinTail at ih ⊢
    rw [List.range_succ, List.map_append, List.map_append, List.flatten_append, ih]
    simp [tailT]
theorem tail_join (G : Nat → Nat) (n : Nat) (h : 0 < n) : 32 :: joinT G n = tailT G n := by
  rw [← tail_flat]
  unfold joinT
  obtain ⟨m, rfl⟩ : ∃ m, n = m + 1 := ⟨n - 1, by omega⟩
  rw [List.range_succ_eq_map, List.map_cons, Lib.join_cons]
  simp [Lib.joinTail]
theorem tailT_length (G : Nat → Nat) : ∀ n, (tailT G n).length = 9 * n
  | 0 => rfl
  | n + 1 => by
    show (tailT G n ++ 32 :: numText (G n)).length = _
    rw [List.length_append, tailT_length G n, List.length_cons, numText_length]
    omega
theorem joinT_length (G : Nat → Nat) (n : Nat) (h : 0 < n) : (joinT G n).length + 1 = 9 * n := by
  rw [← tailT_length G n, ← tail_join G n h, List.length_cons]
theorem tailT_congr {G H : Nat → Nat} : ∀ {n : Nat}, (∀ k, k < n → G k = H k) → tailT G n = tailT H n
  | 0, _ => rfl
  | n + 1, h => by
    show tailT G n ++ 32 :: numText (G n) = tailT H n ++ 32 :: numText (H n)
    rw [tailT_congr (fun k hk => h k (by omega)), h n (by omega)]
theorem joinT_congr {G H : Nat → Nat} {n : Nat} (h : ∀ k, k < n → G k = H k) : joinT G n = joinT H n := by
  cases n with
  | zero => rfl
  | succ m =>
    have e := (tail_join G (m + 1) (by omega)).trans ((tailT_congr h).trans (tail_join H (m + 1) (by omega)).symm)
    exact (List.cons.inj e).2
theorem dec_small {n : Nat} (h : n < 10) : Lib.decDigits n = [UInt8.ofNat (48 + n)] := by
  rw [Lib.decDigits, dif_pos h]
theorem dec_step {n : Nat} (h : ¬ n < 10) : Lib.decDigits n = Lib.decDigits (n / 10) ++ [UInt8.ofNat (48 + n % 10)] := by
  rw [Lib.decDigits, dif_neg h]
theorem dec_two {n : Nat} (h1 : 10 ≤ n) (h2 : n < 100) : Lib.decDigits n = [UInt8.ofNat (48 + n / 10), UInt8.ofNat (48 + n % 10)] := by
  rw [dec_step (by omega), dec_small (by omega)]
  rfl
/-- The cells of the strings of n numbers. -/
def textsV (G : Nat → Nat) (n : Nat) : List Value := (List.range n).map fun k => Value.string ⟨(numText (G k)).toArray⟩
theorem textsV_snoc (G : Nat → Nat) (n : Nat) : textsV G n ++ [.string ⟨(numText (G n)).toArray⟩] = textsV G (n + 1) := by simp [textsV, List.range_succ]
theorem textsV_at {G : Nat → Nat} {n k : Nat} (h : k < n) : (textsV G n)[k]? = some (.string ⟨(numText (G k)).toArray⟩) := by simp [textsV, h]
end Go.Proofs.YtckcngmbbnilnaaDoor
