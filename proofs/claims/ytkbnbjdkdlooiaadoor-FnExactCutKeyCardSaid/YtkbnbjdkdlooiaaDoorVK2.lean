/-
  Contracts of functions of the program: what each returns for all arguments that its precondition lets in.
-/
import Derived.Test.YtkbnbjdkdlooiaaDoorVK1
set_option linter.unusedSimpArgs false
set_option linter.unusedVariables false
set_option maxRecDepth 100000
set_option maxHeartbeats 4000000
set_option synthInstance.maxHeartbeats 4000000
set_option synthInstance.maxSize 20000000
namespace Go.Vee
open Go
def findG {α : Type} (p : α → Bool) : List α → Int → Int
  | [], _ => -1
  | x :: l, i => if p x = true then i else findG p l (i + 1)
theorem findG_cons {α : Type} (p : α → Bool) (x : α) (l : List α) (i : Int) : findG p (x :: l) i = if p x = true then i else findG p l (i + 1) := rfl
theorem findG_nil {α : Type} (p : α → Bool) (i : Int) : findG p [] i = -1 := rfl
theorem findG_any {α : Type} (p : α → Bool) : ∀ (l : List α) (i : Int), 0 ≤ i → decide (0 ≤ findG p l i) = l.any p
  | [], i, h => rfl
  | x :: l, i, h => by
    have := findG_any p l (i + 1) (by omega)
    simp only [findG, List.any_cons]
    split <;> simp_all
abbrev PutT := Int × List Int × Unit
abbrev putD : PutT := (0, [], ())
theorem getD_mem {α : Type} (l : List α) (d : α) (i : Nat) (h : i < l.length) : l.getD i d ∈ l := by
  rw [List.getD_eq_getElem?_getD, List.getElem?_eq_getElem h]; simp
end Go.Vee
