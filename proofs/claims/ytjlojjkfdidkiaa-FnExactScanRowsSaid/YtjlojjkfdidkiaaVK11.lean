/-
  Contracts of functions of the program: what each returns for all arguments that its precondition lets in.
-/
import Derived.Test.YtjlojjkfdidkiaaVK10
set_option linter.unusedSimpArgs false
set_option linter.unusedVariables false
set_option maxRecDepth 100000
set_option maxHeartbeats 4000000
set_option synthInstance.maxHeartbeats 4000000
set_option synthInstance.maxSize 20000000
namespace Go.Vee
open Go
abbrev DiskT := List (List Int) × List PutT × Unit
theorem findG_range {α : Type} (p : α → Bool) : ∀ (l : List α) (k : Int), 0 ≤ k → findG p l k = -1 ∨ (k ≤ findG p l k ∧ findG p l k < k + l.length)
  | [], k, h => .inl rfl
  | x :: l, k, h => by
    by_cases hx : p x = true
    · right; simp [findG, hx]; omega
    · rcases findG_range p l (k + 1) (by omega) with h1 | h1
      · left; simp [findG, hx, h1]
      · right; simp [findG, hx]; omega
/-- A disk without fault. -/
def GoodD (d : DiskT) : Prop := (8 ≤ d.1.length ∧ d.1.length ≤ 64) ∧ (∀ i, i < d.1.length → (d.1.getD i []).length = 96) ∧ d.2.1.length ≤ d.1.length ∧ ∀ i, i < d.2.1.length → 0 ≤ (d.2.1.getD i putD).1 ∧ (d.2.1.getD i putD).1 ≤ (d.1.length : Int) - 1 ∧ (d.2.1.getD i putD).2.1.length = 96
theorem putsBad_ok (n : Int) : ∀ (l : List PutT), putsBad n l = 0 → ∀ i, i < l.length → 0 ≤ (l.getD i putD).1 ∧ (l.getD i putD).1 ≤ n - 1 ∧ (l.getD i putD).2.1.length = 96
  | [], _, i, hi => by simp at hi
  | p :: l, h, i, hi => by
    unfold putsBad at h
    split at h
    · cases h
    split at h
    · cases h
    rename_i h1 h2
    cases i with
    | zero => simp only [List.getD_cons_zero]; omega
    | succ i => simpa using putsBad_ok n l h i (by simpa using hi)
theorem diskFault_good (d : DiskT) (h : diskFault d = 0) : GoodD d := by
  unfold diskFault at h
  split at h
  · cases h
  rename_i h1
  split at h
  · cases h
  rename_i h2
  split at h
  · cases h
  rename_i h3
  split at h
  · rename_i h4; exact absurd h h4
  rename_i h4
  refine ⟨by omega, fun i hi => ?_, by omega, putsBad_ok _ _ (by simpa using h4)⟩
  have := any_false_getD (fun b : List Int => !decide (b.length = 96)) d.1 [] (by simpa using h2) i hi
  simpa using this

end Go.Vee
