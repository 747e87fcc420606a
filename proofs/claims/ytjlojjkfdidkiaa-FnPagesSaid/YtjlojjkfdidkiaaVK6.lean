/-
  Contracts of functions of the program: what each returns for all arguments that its precondition lets in.
-/
import Derived.Test.YtjlojjkfdidkiaaVK5
set_option linter.unusedSimpArgs false
set_option linter.unusedVariables false
set_option maxRecDepth 100000
set_option maxHeartbeats 4000000
set_option synthInstance.maxHeartbeats 4000000
set_option synthInstance.maxSize 20000000
namespace Go.Vee
open Go
def Each96 (l : List (List Int)) : Prop := ∀ i, i < l.length → (l.getD i []).length = 96
theorem Each96.at {l : List (List Int)} (h : Each96 l) (i : Nat) (hi : i < l.length) : (l.getD i []).length = 96 := h i hi
theorem Each96.set {l : List (List Int)} (h : Each96 l) (k : Nat) (v : List Int) (hv : k < l.length → v.length = 96) : Each96 (l.set k v) := fun i hi => by
  rw [List.length_set] at hi
  rw [getD_set_list _ _ _ _ _ hi]
  split
  · rename_i e; subst e; exact hv hi
  · exact h i hi
end Go.Vee
