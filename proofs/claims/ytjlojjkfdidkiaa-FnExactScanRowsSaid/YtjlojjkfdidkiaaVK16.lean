/-
  Contracts of functions of the program: what each returns for all arguments that its precondition lets in.
-/
import Derived.Test.YtjlojjkfdidkiaaVK15
set_option linter.unusedSimpArgs false
set_option linter.unusedVariables false
set_option maxRecDepth 100000
set_option maxHeartbeats 4000000
set_option synthInstance.maxHeartbeats 4000000
set_option synthInstance.maxSize 20000000
namespace Go.Vee
open Go
theorem drop_at {α : Type} {zs l : List α} {i : Nat} (d : α) (h : zs.drop i = l.drop i) : zs.getD i d = l.getD i d := by
  have h1 : (zs.drop i)[0]? = (l.drop i)[0]? := by rw [h]
  simpa [List.getD_eq_getElem?_getD] using congrArg (fun o => o.getD d) h1
theorem drop_next {α : Type} {zs l : List α} {i : Nat} (v : α) (h : zs.drop i = l.drop i) : (zs.set i v).drop (i + 1) = l.drop (i + 1) := by
  have h1 : (zs.drop i).drop 1 = (l.drop i).drop 1 := by rw [h]
  rw [List.drop_set_of_lt (by omega)]
  simpa [List.drop_drop] using h1
theorem drop_next' {α : Type} {zs l : List α} {i : Nat} (h : zs.drop i = l.drop i) : zs.drop (i + 1) = l.drop (i + 1) := by
  have h1 : (zs.drop i).drop 1 = (l.drop i).drop 1 := by rw [h]
  simpa [List.drop_drop] using h1
end Go.Vee
