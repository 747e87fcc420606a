/-
  Contracts of functions of the program: what each returns for all arguments that its precondition lets in.
-/
import Derived.Test.YtjlojjkfdidkiaaVK16
set_option linter.unusedSimpArgs false
set_option linter.unusedVariables false
set_option maxRecDepth 100000
set_option maxHeartbeats 4000000
set_option synthInstance.maxHeartbeats 4000000
set_option synthInstance.maxSize 20000000
namespace Go.Vee
open Go
theorem rise_lt : ∀ (l : List Int) (x : Int), rise (x :: l) = true → ∀ y ∈ l, x < y
  | [], _, _, y, hy => by simp at hy
  | z :: l, x, h, y, hy => by
    simp only [rise, Bool.and_eq_true, decide_eq_true_eq] at h
    rcases List.mem_cons.1 hy with rfl | hy
    · exact h.1
    · have := rise_lt l z h.2 y hy
      omega
theorem rise_tail (x : Int) (l : List Int) (h : rise (x :: l) = true) : rise l = true := by
  cases l with
  | nil => rfl
  | cons y l => simp only [rise, Bool.and_eq_true] at h; exact h.2
end Go.Vee
