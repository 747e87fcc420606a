/-
  Contracts of functions of the program: what each returns for all arguments that its precondition lets in.
-/
import Derived.Test.YtjlojjkfdidkiaaVK5
set_option linter.unusedSimpArgs false
set_option linter.unusedVariables false
set_option maxRecDepth 100000
set_option maxHeartbeats 4000000
set_option synthInstance.maxHeartbeats 4000000
set_option synthInstance.maxSize 20000000
namespace Go.Vee
open Go
theorem any_false_getD {α : Type} (P : α → Bool) (l : List α) (d : α) (h : l.any P = false) (i : Nat) (hi : i < l.length) : P (l.getD i d) = false := by
  have := List.any_eq_false.1 h (l.getD i d) (by rw [List.getD_eq_getElem?_getD, List.getElem?_eq_getElem hi]; simp)
  simpa using this
end Go.Vee
