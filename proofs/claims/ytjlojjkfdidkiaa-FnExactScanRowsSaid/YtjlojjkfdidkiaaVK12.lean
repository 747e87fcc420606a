/-
  Contracts of functions of the program: what each returns for all arguments that its precondition lets in.
-/
import Derived.Test.YtjlojjkfdidkiaaVK11
set_option linter.unusedSimpArgs false
set_option linter.unusedVariables false
set_option maxRecDepth 100000
set_option maxHeartbeats 4000000
set_option synthInstance.maxHeartbeats 4000000
set_option synthInstance.maxSize 20000000
namespace Go.Vee
open Go
/-- A disk's parts fit; 'k': no more puts than that. -/
def GoodW (d : DiskT) (k : Nat) : Prop := (8 ≤ d.1.length ∧ d.1.length ≤ 64) ∧ (∀ i, i < d.1.length → (d.1.getD i []).length = 96) ∧ d.2.1.length ≤ k ∧ ∀ i, i < d.2.1.length → 0 ≤ (d.2.1.getD i putD).1 ∧ (d.2.1.getD i putD).1 ≤ (d.1.length : Int) - 1 ∧ (d.2.1.getD i putD).2.1.length = 96
theorem GoodD.w {d : DiskT} (h : GoodD d) : GoodW d 64 := ⟨h.1, h.2.1, by have := h.1; have := h.2.2.1; omega, h.2.2.2⟩
theorem getD_set_list {α : Type} (l : List α) (i j : Nat) (v d : α) (hj : j < l.length) : (l.set i v).getD j d = if i = j then v else l.getD j d := by
  simp only [List.getD_eq_getElem?_getD, List.getElem?_set]
  by_cases h : i = j
  · subst h; simp [hj]
  · simp [h]
end Go.Vee
