/-
  Contracts of functions of the program: what each returns for all arguments that its precondition lets in.
-/
import Derived.Test.YtkbnbjdkdlooiaaDoorVK4
set_option linter.unusedSimpArgs false
set_option linter.unusedVariables false
set_option maxRecDepth 100000
set_option maxHeartbeats 4000000
set_option synthInstance.maxHeartbeats 4000000
set_option synthInstance.maxSize 20000
namespace Go.Vee
open Go
theorem ordB_nil (a : List Int) : ordB [] a = (if a.length = 0 then 0 else -1) := by cases a <;> simp [ordB]
theorem ordB_nil2 (a : List Int) : ordB a [] = (if a.length = 0 then 0 else 1) := by cases a <;> simp [ordB]
theorem ordB_cons (x y : Int) (a b : List Int) : ordB (x :: a) (y :: b) = if x < y then -1 else if y < x then 1 else ordB a b := rfl
def findI (p : Int → Bool) : List Int → Int → Int
  | [], _ => -1
  | x :: l, i => if p x then i else findI p l (i + 1)
theorem findI_any (p : Int → Bool) : ∀ (l : List Int) (i : Int), 0 ≤ i → decide (0 ≤ findI p l i) = l.any p
  | [], i, h => rfl
  | x :: l, i, h => by
    have := findI_any p l (i + 1) (by omega)
    simp only [findI, List.any_cons]
    split <;> simp_all
def badKey (k : List Int) : Bool := decide (k.length < 1 ∨ k.length > 16)
def incr : List (List Int) → Bool
  | x :: y :: l => decide (ordB x y < 0) && incr (y :: l)
  | _ => true
def nodeFault (p : Bool × List (List Int) × List Int × List Int × Unit) : Int :=
  if p.2.1.length > 4 then 2 else if p.2.1.any badKey then 2 else if incr p.2.1 = false then 1 else if p.1 then (if p.2.2.1.length ≠ p.2.1.length ∨ p.2.2.2.1.length > 0 then 1 else if p.2.2.1.any (fun v => !decide (0 ≤ v ∧ v ≤ 65535)) then 3 else 0)
  else if p.2.1.length < 1 ∨ p.2.2.1.length > 0 ∨ p.2.2.2.1.length ≠ p.2.1.length + 1 then 1 else if p.2.2.2.1.any (fun k => !decide (2 ≤ k ∧ k ≤ 63)) then 3 else 0
theorem incr_cons (x y : List Int) (l : List (List Int)) : incr (x :: y :: l) = (decide (ordB x y < 0) && incr (y :: l)) := rfl
theorem incr_short (l : List (List Int)) (h : l.length ≤ 1) : incr l = true := by
  match l with
  | [] => rfl
  | [_] => rfl
  | _ :: _ :: _ => simp at h
theorem incr_step (a : List (List Int)) (i : Nat) (h1 : 1 ≤ i) (h : i < a.length) : incr (a.drop (i - 1)) = (decide (ordB (a.getD (i - 1) []) (a.getD i []) < 0) && incr (a.drop i)) := by
  have e1 := drop_cons a [] (i - 1) (by omega)
  have e2 := drop_cons a [] i h
  rw [show i - 1 + 1 = i by omega] at e1
  rw [e1, e2, incr_cons]
theorem incr_end (a : List (List Int)) (i : Nat) (h : a.length ≤ i) : incr (a.drop (i - 1)) = true := incr_short _ (by simp; omega)
end Go.Vee
