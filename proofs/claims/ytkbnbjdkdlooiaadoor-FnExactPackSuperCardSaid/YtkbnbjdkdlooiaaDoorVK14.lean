/-
  Contracts of functions of the program: what each returns for all arguments that its precondition lets in.
-/
import Derived.Test.YtkbnbjdkdlooiaaDoorVK13
set_option linter.unusedSimpArgs false
set_option linter.unusedVariables false
set_option maxRecDepth 100000
set_option maxHeartbeats 4000000
set_option synthInstance.maxHeartbeats 4000000
set_option synthInstance.maxSize 20000
namespace Go.Vee
open Go
def Each96 (l : List (List Int)) : Prop := ∀ i, i < l.length → (l.getD i []).length = 96
theorem Each96.at {l : List (List Int)} (h : Each96 l) (i : Nat) (hi : i < l.length) : (l.getD i []).length = 96 := h i hi
theorem Each96.set {l : List (List Int)} (h : Each96 l) (k : Nat) (v : List Int) (hv : k < l.length → v.length = 96) : Each96 (l.set k v) := fun i hi => by
  rw [List.length_set] at hi
  rw [getD_set_list _ _ _ _ _ hi]
  split
  · rename_i e; subst e; exact hv hi
  · exact h i hi
theorem setl_zero (xs : List (List Int)) (p : Nat) (b : List Int) (hp : p < xs.length) : xs.set p (b.take 0 ++ (xs.getD p []).drop 0) = xs := by
  have : xs.getD p [] = xs[p] := by simp [List.getD_eq_getElem?_getD, hp]
  rw [this, List.take_zero, List.drop_zero, List.nil_append, List.set_getElem_self]
theorem setl_step (xs : List (List Int)) (p : Nat) (b : List Int) (j : Nat) (hp : p < xs.length) (hb : j < b.length) (ho : j < (xs.getD p []).length) :
    (xs.set p (b.take j ++ (xs.getD p []).drop j)).set p (((xs.set p (b.take j ++ (xs.getD p []).drop j)).getD p []).set j (b.getD j 0)) = xs.set p (b.take (j + 1) ++ (xs.getD p []).drop (j + 1)) := by
  rw [getD_set_list _ _ _ _ _ hp, if_pos rfl, List.set_set]
  congr 1
  rw [take_add b 0 j hb, List.set_append]
  have hl : (b.take j).length = j := by rw [List.length_take]; omega
  rw [hl, if_neg (Nat.lt_irrefl _), Nat.sub_self, drop_cons (xs.getD p []) 0 j ho]
  simp
end Go.Vee
