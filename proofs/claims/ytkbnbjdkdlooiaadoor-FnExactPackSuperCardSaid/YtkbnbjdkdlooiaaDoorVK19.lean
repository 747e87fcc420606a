/-
  Contracts of functions of the program: what each returns for all arguments that its precondition lets in.
-/
import Derived.Test.YtkbnbjdkdlooiaaDoorVK18
set_option linter.unusedSimpArgs false
set_option linter.unusedVariables false
set_option maxRecDepth 100000
set_option maxHeartbeats 4000000
set_option synthInstance.maxHeartbeats 4000000
set_option synthInstance.maxSize 20000
namespace Go.Vee
open Go
abbrev ChainT := Int × List Int × List Int × Unit
def chainS (d : DiskT) (id : Int) (data pages : List Int) : ChainT :=
  if ¬ (2 ≤ id ∧ id ≤ (d.1.length : Int) - 1) then (3, [], [], ())
  else if pages.contains id = true then (8, [], [], ())
  else if (pageAt d id).1 ≠ 0 then ((pageAt d id).1, [], [], ())
  else if hb : (pageAt d id).2.1 ≠ 3 ∨ (pageAt d id).2.2.2.1.length < 2 then (1, [], [], ())
  else if hl : (data ++ (pageAt d id).2.2.2.1.drop 1).length > 400 then (2, [], [], ())
  else if (pageAt d id).2.2.2.1.getD 0 0 = 0 then (0, data ++ (pageAt d id).2.2.2.1.drop 1, pages ++ [id], ())
  else chainS d ((pageAt d id).2.2.2.1.getD 0 0) (data ++ (pageAt d id).2.2.2.1.drop 1) (pages ++ [id])
termination_by 401 - data.length
decreasing_by
  simp only [List.length_append, List.length_drop] at hl ⊢
  omega
def chainAt (d : DiskT) (head : Int) : ChainT := if diskFault d ≠ 0 then (diskFault d, [], [], ()) else chainS d head [] []
theorem chainS_step (d : DiskT) (id : Int) (data pages : List Int) : chainS d id data pages =
  if ¬ (2 ≤ id ∧ id ≤ (d.1.length : Int) - 1) then (3, [], [], ())
  else if pages.contains id = true then (8, [], [], ())
  else if (pageAt d id).1 ≠ 0 then ((pageAt d id).1, [], [], ())
  else if (pageAt d id).2.1 ≠ 3 ∨ (pageAt d id).2.2.2.1.length < 2 then (1, [], [], ())
  else if (data ++ (pageAt d id).2.2.2.1.drop 1).length > 400 then (2, [], [], ())
  else if (pageAt d id).2.2.2.1.getD 0 0 = 0 then (0, data ++ (pageAt d id).2.2.2.1.drop 1, pages ++ [id], ())
  else chainS d ((pageAt d id).2.2.2.1.getD 0 0) (data ++ (pageAt d id).2.2.2.1.drop 1) (pages ++ [id]) := by
  conv => lhs; rw [chainS]
  simp only [dite_eq_ite]
theorem chainS_len (d : DiskT) : ∀ (n : Nat) (id : Int) (data pages : List Int), 401 - data.length ≤ n → data.length ≤ 400 → pages.length ≤ data.length → (chainS d id data pages).2.1.length ≤ 400 ∧ (chainS d id data pages).2.2.1.length ≤ 400
  | 0, id, data, pages, h1, h2, h3 => by omega
  | n + 1, id, data, pages, h1, h2, h3 => by
    rw [chainS_step]
    split
    · simp
    split
    · simp
    split
    · simp
    split
    · simp
    split
    · simp
    rename_i g1 g2 g3 g4 g5
    simp only [List.length_append, List.length_drop] at g5
    split
    · simp only [List.length_append, List.length_drop, List.length_singleton]; omega
    · exact chainS_len d n _ _ _ (by simp only [List.length_append, List.length_drop]; omega) (by simp only [List.length_append, List.length_drop]; omega) (by simp only [List.length_append, List.length_drop, List.length_singleton]; omega)
theorem chainAt_len (d : DiskT) (head : Int) : (chainAt d head).2.1.length ≤ 400 ∧ (chainAt d head).2.2.1.length ≤ 400 := by
  unfold chainAt
  split
  · simp
  · exact chainS_len d 401 head [] [] (by simp) (by simp) (by simp)
theorem pageAt_in (d : DiskT) (id : Int) (h : 2 ≤ id ∧ id ≤ (d.1.length : Int) - 1) : l15Read (readD d id) id = pageAt d id := by
  unfold pageAt; rw [if_neg (Classical.not_not.2 h)]
end Go.Vee
