/-
  Contracts of functions of the program: what each returns for all arguments that its precondition lets in.
-/
import Derived.Test.YtkbnbjdkdlooiaaGreatDoorVK5
set_option linter.unusedSimpArgs false
set_option linter.unusedVariables false
set_option maxRecDepth 100000
set_option maxHeartbeats 4000000
set_option synthInstance.maxHeartbeats 4000000
set_option synthInstance.maxSize 20000000
namespace Go.Vee
open Go
abbrev DiskT := List (List Int) × List PutT × Unit
def firstNZ : List Int → Int
  | [] => 0
  | c :: l => if c ≠ 0 then c else firstNZ l
/-- A disk without fault. -/
def GoodD (d : DiskT) : Prop := (8 ≤ d.1.length ∧ d.1.length ≤ 64) ∧ (∀ i, i < d.1.length → (d.1.getD i []).length = 96) ∧ d.2.1.length ≤ d.1.length ∧ ∀ i, i < d.2.1.length → 0 ≤ (d.2.1.getD i putD).1 ∧ (d.2.1.getD i putD).1 ≤ (d.1.length : Int) - 1 ∧ (d.2.1.getD i putD).2.1.length = 96
end Go.Vee
