/- The train of a text; plain. -/
import Derived.Test.YtckcngmbbnilnaaDoorReadF
import Derived.Test.YtckcngmbbnilnaaDoorTNum
import Derived.Test.YtckcngmbbnilnaaDoorKept
set_option linter.unusedVariables false
set_option linter.unusedSimpArgs false
namespace Go.Proofs.YtckcngmbbnilnaaDoor
open Go.RowKit Go.Lib

/-- The films of a list of numbers. -/
def trF (G : List Nat) : Nat → Nat := fun i => G.getD (i + 2) 0
abbrev trainG (n : Nat) (G : List Nat) : Array Value := train n (G.getD 0 0) (G.getD 1 0) (trF G)
def trainGB (n : Nat) (G : List Nat) : Bool := trainB n (G.getD 0 0) (G.getD 1 0) (trF G)
/-- The number of rollers and the numbers of the train with a text. -/
def readTR (l : List UInt8) : Option (Nat × List Nat) :=
  match splitL 32 l with
  | [] => none
  | w0 :: ws => (numOf w0).bind fun n => if n < 13 ∧ ws.length = n + 2 then (readAll ws).bind fun G => if trainGB n G then some (n, G) else none else none
/-- What ReadTrain hands back. -/
def rtRow (o : Option (Nat × List Nat)) : Array Value := match o with | some (n, G) => trainG n G | none => train 0 0 0 (fun _ => 0)
def rtCode (o : Option (Nat × List Nat)) : Int := if o.isSome then 0 else 5

theorem trainGB_range {n : Nat} {G : List Nat} (h : trainGB n G = true) : 2 ≤ n ∧ n ≤ 12 := by
  obtain ⟨h1, h2, _⟩ := trainB_facts h
  omega
theorem trF_snoc (G : List Nat) (a : Nat) (h : 2 ≤ G.length) : trF (G ++ [a]) = upd (trF G) (G.length - 2) a := by
  funext i
  unfold trF upd
  by_cases e : i = G.length - 2
  · rw [if_pos e]
    simp [List.getD, e, show G.length - 2 + 2 = G.length by omega]
  · rw [if_neg e]
    by_cases e2 : i + 2 < G.length
    · simp [List.getD, List.getElem?_append_left e2]
    · simp [List.getD]
      rw [List.getElem?_eq_none (by simp; omega), List.getElem?_eq_none (by omega)]
theorem getD_snoc (G : List Nat) (a j : Nat) : (G ++ [a]).getD j 0 = if j = G.length then a else G.getD j 0 := by
  by_cases e : j = G.length
  · simp [List.getD, e]
  · rw [if_neg e]
    by_cases e2 : j < G.length
    · simp [List.getD, List.getElem?_append_left e2]
    · simp [List.getD]
      rw [List.getElem?_eq_none (by simp; omega), List.getElem?_eq_none (by omega)]
/-- A number more. -/
theorem trainG_snoc (n : Nat) (G : List Nat) (a : Nat) : trainG n (G ++ [a]) =
    match G.length with
    | 0 => train n a (G.getD 1 0) (trF G)
    | 1 => train n (G.getD 0 0) a (trF G)
    | k + 2 => train n (G.getD 0 0) (G.getD 1 0) (upd (trF G) k a) := by
  match hl : G.length with
  | 0 =>
    obtain rfl := List.eq_nil_of_length_eq_zero hl
    show train n _ _ (trF [a]) = train n _ _ (trF [])
    congr 1
  | 1 =>
    obtain ⟨b, rfl⟩ := List.length_eq_one_iff.1 hl
    show train n _ _ (trF [b, a]) = train n _ _ (trF [b])
    congr 1
  | k + 2 =>
    show train n ((G ++ [a]).getD 0 0) ((G ++ [a]).getD 1 0) (trF (G ++ [a])) = _
    rw [trF_snoc G a (by omega), getD_snoc, getD_snoc, if_neg (by omega), if_neg (by omega), hl]
    rfl
theorem readTR_cons {l w0 : List UInt8} {ws : List (List UInt8)} (h : splitL 32 l = w0 :: ws) : readTR l = (numOf w0).bind fun n => if n < 13 ∧ ws.length = n + 2 then (readAll ws).bind fun G => if trainGB n G then some (n, G) else none else none := by
  unfold readTR
  rw [h]
theorem splitL_cons (c : UInt8) (l : List UInt8) : ∃ w0 ws, splitL c l = w0 :: ws := by
  cases h : splitL c l with
  | nil => exact absurd h (splitL_ne c l)
  | cons x y => exact ⟨x, y, rfl⟩
theorem readOf_lt {l : List UInt8} {a : Nat} (h : readOf l = some a) : a < 2 ^ 32 := (readOf_some h).2.1
theorem readAll_lt : ∀ {l : List (List UInt8)} {G : List Nat}, readAll l = some G → ∀ x ∈ G, x < 2 ^ 32
  | [], G, h, x, hx => by simp [readAll] at h; subst h; simp at hx
  | y :: l, G, h, x, hx => by
    unfold readAll at h
    cases h1 : readOf y with
    | none => rw [h1] at h; simp at h
    | some a =>
      rw [h1] at h
      cases h2 : readAll l with
      | none => rw [h2] at h; simp at h
      | some R =>
        rw [h2] at h
        simp at h
        subst h
        rcases List.mem_cons.1 hx with rfl | hx
        · exact readOf_lt h1
        · exact readAll_lt h2 x hx
end Go.Proofs.YtckcngmbbnilnaaDoor
