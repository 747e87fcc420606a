/-
  Contracts of functions of the program: what each returns for all arguments that its precondition lets in.
-/
import Derived.Test.YtkbnbjdkdlooiaaDoorVK3
set_option linter.unusedSimpArgs false
set_option linter.unusedVariables false
set_option maxRecDepth 100000
set_option maxHeartbeats 4000000
set_option synthInstance.maxHeartbeats 4000000
set_option synthInstance.maxSize 20000
namespace Go.Vee
open Go
abbrev zPage : Int × Int × List Int × Unit := (0, 0, [], ())
def rdPage (data : List Int) (id : Int) : Int × Int × List Int × Unit := (data.getD 0 0, id, (data.drop 3).take (data.getD 2 0).toNat, ())
def l15Read (data : List Int) (id : Int) : Int × (Int × Int × List Int × Unit) :=
  if pairOf (sumOf 29 (data.take 94)) ≠ data.drop 94 then (11, zPage) else if data.getD 1 0 ≠ id then (8, zPage) else if data.getD 2 0 > 91 then (5, zPage) else if pageFault (rdPage data id) ≠ 0 ∨ packPage (rdPage data id) ≠ data then (5, zPage) else (0, rdPage data id)
def readPage (data : List Int) (id : Int) : Int × (Int × Int × List Int × Unit) × Unit :=
  if data.length ≠ 96 then (1, zPage, ()) else if ¬ (2 ≤ id ∧ id ≤ 63) then (3, zPage, ()) else ((l15Read data id).1, (l15Read data id).2, ())
theorem readPage_len (data : List Int) (id : Int) (h : ∀ j, j < data.length → 0 ≤ data.getD j 0 ∧ data.getD j 0 ≤ 255) : (readPage data id).2.1.2.2.1.length ≤ 91 := by
  have h2 := h 2
  unfold readPage l15Read rdPage
  repeat' split
  all_goals (try have h2 := h2 (by omega))
  all_goals (simp only [zPage, List.length_nil, List.length_take, List.length_drop]; omega)
end Go.Vee
