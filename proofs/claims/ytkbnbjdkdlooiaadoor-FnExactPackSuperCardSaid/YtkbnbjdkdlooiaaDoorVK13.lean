/-
  Contracts of functions of the program: what each returns for all arguments that its precondition lets in.
-/
import Derived.Test.YtkbnbjdkdlooiaaDoorVK12
set_option linter.unusedSimpArgs false
set_option linter.unusedVariables false
set_option maxRecDepth 100000
set_option maxHeartbeats 4000000
set_option synthInstance.maxHeartbeats 4000000
set_option synthInstance.maxSize 20000
namespace Go.Vee
open Go
theorem take_add {α : Type} (l : List α) (d : α) (i : Nat) (h : i < l.length) : l.take (i + 1) = l.take i ++ [l.getD i d] := by
  rw [List.take_add_one, List.getElem?_eq_getElem h]; simp [List.getD_eq_getElem?_getD, h]
theorem firstNZ_drop (l : List Int) (i : Nat) (h : i < l.length) : firstNZ (l.drop i) = if l.getD i 0 ≠ 0 then l.getD i 0 else firstNZ (l.drop (i + 1)) := by
  rw [drop_cons l 0 i h]; rfl
theorem firstNZ_end (l : List Int) (i : Nat) (h : l.length ≤ i) : firstNZ (l.drop i) = 0 := by rw [drop_nil l i h]; rfl
theorem put_eta (p : PutT) : (p.1, p.2.1, ()) = p := rfl
theorem tot_puts_at (a : List PutT) (i : Nat) (h : i < a.length) : (a.getD i putD).2.1.length < tot (.sl tPut) a := by
  have := tot_at tPut a putD i h
  rw [tot_putv] at this; exact this
theorem tot_secs_at (a : List (List Int)) (i : Nat) (h : i < a.length) : (a.getD i []).length < tot (.sl (.sl (.int .u8))) a := by
  have := tot_at (.sl (.int .u8)) a [] i h
  rw [tot_int] at this; exact this
end Go.Vee
