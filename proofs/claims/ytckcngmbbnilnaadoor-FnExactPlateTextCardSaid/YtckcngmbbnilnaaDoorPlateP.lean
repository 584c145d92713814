/- The text of a plate; plain. -/
import Derived.Test.YtckcngmbbnilnaaDoorTextI
import Derived.Test.YtckcngmbbnilnaaDoorPOk
set_option linter.unusedVariables false
set_option linter.unusedSimpArgs false
namespace Go.Proofs.YtckcngmbbnilnaaDoor
open Go.RowKit Go.Lib

/-- A row's numbers. -/
def rowG (F : Nat → Nat) (y : Nat) : Nat → Nat := fun x => F (x + 8 * y)
/-- The texts of the first rows. -/
def rowsT (a : Nat) (F : Nat → Nat) : Nat → List UInt8
  | 0 => []
  | y + 1 => rowsT a F y ++ joinT (rowG F y) a ++ [10]
/-- The text of a plate that has one. -/
def plateTx (a b : Nat) (F : Nat → Nat) : List UInt8 := Lib.decDigits a ++ (32 :: Lib.decDigits b) ++ [10] ++ rowsT a F b
/-- Are all of the first numbers that are no cells' +0? -/
def bareTo (a b : Nat) (F : Nat → Nat) : Nat → Bool
  | 0 => true
  | i + 1 => bareTo a b F i && (isC a b i || F i == 0)
def plateText (x y : Int) (F : Nat → Nat) : List UInt8 := if plateB x y F && bareTo x.toNat y.toNat F 64 then plateTx x.toNat y.toNat F else []

theorem bareTo_no {a b : Nat} {F : Nat → Nat} {k n : Nat} (hk : k < n) (hc : isC a b k = false) (h : F k ≠ 0) : bareTo a b F n = false := by
  induction n with
  | zero => omega
  | succ m ih =>
    unfold bareTo
    by_cases e : k = m
    · subst e; simp [hc, h]
    · rw [ih (by omega)]; rfl
theorem bareTo_step {a b : Nat} {F : Nat → Nat} {k : Nat} (h : bareTo a b F k = true) (hs : isC a b k = true ∨ F k = 0) : bareTo a b F (k + 1) = true := by
  unfold bareTo
  rw [h]
  rcases hs with hs | hs <;> simp [hs]
theorem bareTo_all {a b : Nat} {F : Nat → Nat} {n : Nat} (h : ∀ k, k < n → isC a b k = true ∨ F k = 0) : bareTo a b F n = true := by
  induction n with
  | zero => rfl
  | succ m ih => exact bareTo_step (ih fun k hk => h k (by omega)) (h m (by omega))
theorem joinT_zero (G : Nat → Nat) : joinT G 0 = [] := rfl
theorem joinT_one (G : Nat → Nat) : joinT G 1 = numText (G 0) := by
  have h := tail_join G 1 (by omega)
  have e : tailT G 1 = 32 :: numText (G 0) := by simp [tailT]
  rw [e] at h
  exact (List.cons.inj h).2
theorem joinT_succ (G : Nat → Nat) (n : Nat) (h : 0 < n) : joinT G (n + 1) = joinT G n ++ 32 :: numText (G n) := by
  have h1 := tail_join G (n + 1) (by omega)
  have h2 := tail_join G n h
  have e : tailT G (n + 1) = tailT G n ++ 32 :: numText (G n) := rfl
  rw [e, ← h2] at h1
  exact (List.cons.inj h1).2
theorem joinT_le (G : Nat → Nat) (n : Nat) : (joinT G n).length ≤ 9 * n := by
  cases n with
  | zero => simp [joinT_zero]
  | succ m => have := joinT_length G (m + 1) (by omega); omega
theorem rowsT_le (a : Nat) (F : Nat → Nat) : ∀ n, (rowsT a F n).length ≤ (9 * a + 1) * n
  | 0 => by simp [rowsT]
  | n + 1 => by
    have h1 := rowsT_le a F n
    have h2 := joinT_le (rowG F n) a
    unfold rowsT
    simp only [List.length_append, List.length_cons, List.length_nil]
    rw [Nat.mul_add]
    omega
theorem rowsT_small {a : Nat} {F : Nat → Nat} {n : Nat} (ha : a < 9) (hn : n < 9) : (rowsT a F n).length ≤ 600 := by
  have h := rowsT_le a F n
  have : (9 * a + 1) * n ≤ 73 * 8 := Nat.mul_le_mul (by omega) (by omega)
  omega
/-- A row's slice from some cell on, and up to some cell. -/
theorem row_from (B o cap a : Nat) (ha : a ≤ 8) (hc : 8 ≤ cap) : ∃ A : Option Addr, (0 < 8 - a → A = some ⟨B, o + a, none⟩) ∧ ∀ w', (Instr.slice 64 (.slice (some ⟨B, o, none⟩) 8 cap) (some (.int .i8 a)) none none).run Tryd.prog w' = .ok (.slice A (8 - a) (cap - a)) w' := by
  have h1 : ∀ w', (sizeOf (Tryd.prog.elem 64)).run Tryd.prog w' = .ok 1 w' := fun w' => by kernel_rfl
  have hu : Tryd.prog.underlying 64 = some (.slice (Tryd.prog.elem 64)) := by kernel_rfl
  refine ⟨if cap - a = 0 then some ⟨B, o, none⟩ else some ⟨B, o + a, none⟩, fun h => if_neg (by omega), fun w' => ?_⟩
  rw [run_slice_l w' 64 (some ⟨B, o, none⟩) 8 cap hu .i8 (a : Int) (by omega) (by omega), h1]
  simp only [Result.andThen, sliced, Int.toNat_natCast, Nat.mul_one]
  by_cases h0 : cap - a = 0
  · simp [h0]
    intro h
    omega
  · rw [if_neg h0]
    have h2 : ¬ cap = a := by omega
    by_cases h3 : a = 0
    · subst h3; simp [Addr.add]
    · simp [h0, h2, h3, Addr.add]
theorem row_upto (B o cap a : Nat) (ha : a ≤ 8) (hc : 8 ≤ cap) (w' : World) : (Instr.slice 64 (.slice (some ⟨B, o, none⟩) 8 cap) none (some (.int .i8 a)) none).run Tryd.prog w' = .ok (.slice (some ⟨B, o, none⟩) a cap) w' := by
  have h1 : (sizeOf (Tryd.prog.elem 64)).run Tryd.prog w' = .ok 1 w' := by kernel_rfl
  have hu : Tryd.prog.underlying 64 = some (.slice (Tryd.prog.elem 64)) := by kernel_rfl
  rw [run_slice_h w' 64 (some ⟨B, o, none⟩) 8 cap hu .i8 (a : Int) (by omega) (by omega), h1]
  simp [Result.andThen, sliced, Addr.add]
  try omega
end Go.Proofs.YtckcngmbbnilnaaDoor
