/-
  Contracts of functions of the program: what each returns for all arguments that its precondition lets in.
-/
import Derived.Test.YtjlojjkfdidkiaaVK7
set_option linter.unusedSimpArgs false
set_option linter.unusedVariables false
set_option maxRecDepth 100000
set_option maxHeartbeats 4000000
set_option synthInstance.maxHeartbeats 4000000
set_option synthInstance.maxSize 20000000
namespace Go.Vee
open Go
abbrev SrcT := List Int × Int × Unit
/-- A draw: the number that the bytes 'c' give at the place 'a', out of 0..n-1. -/
def nextV (c : List Int) (a n : Int) : Int :=
  if n < 1 then 0 else if c.length = 0 then (a * 7) % n
  else if n > 200 then ((c.getD (a % c.length).toNat 0 + a / c.length * 37) * 251 + c.getD ((a + 1) % c.length).toNat 0 * 13 + a) % n
  else (c.getD (a % c.length).toNat 0 + a / c.length * 37) % n
theorem nextV_range (c : List Int) (a n : Int) : 0 ≤ nextV c a n ∧ (1 ≤ n → nextV c a n < n) ∧ (n < 1 → nextV c a n = 0) := by
  unfold nextV
  refine ⟨?_, fun h => ?_, fun h => by rw [if_pos h]⟩
  · repeat' split
    all_goals first | exact Int.le_refl 0 | (apply Int.emod_nonneg; omega)
  · rw [if_neg (by omega)]
    repeat' split
    all_goals (apply Int.emod_lt_of_pos; omega)
def pickV (c : List Int) (a : Int) (l : List Int) : Int := l.getD (nextV c a l.length).toNat 0
theorem pickV_mem (c : List Int) (a : Int) (l : List Int) (h : 0 < l.length) : pickV c a l ∈ l := by
  have := nextV_range c a l.length
  unfold pickV
  rw [List.getD_eq_getElem?_getD, List.getElem?_eq_getElem (by omega)]
  exact List.getElem_mem _
def someV (c : List Int) (a n : Int) : List Int := (List.range n.toNat).map fun i : Nat => nextV c (a + (i : Int)) 256
theorem someV_len (c : List Int) (a n : Int) : (someV c a n).length = n.toNat := by simp [someV]
theorem someV_byte (c : List Int) (a n : Int) : ∀ x ∈ someV c a n, 0 ≤ x ∧ x ≤ 255 := by
  intro x hx
  simp only [someV, List.mem_map] at hx
  obtain ⟨i, _, rfl⟩ := hx
  have := nextV_range c (a + (i : Int)) 256
  omega
theorem someV_snoc (c : List Int) (a : Int) (k : Nat) : someV c a (k + 1 : Nat) = someV c a (k : Nat) ++ [nextV c (a + k) 256] := by
  simp only [someV, Int.toNat_natCast, List.range_succ, List.map_append, List.map_cons, List.map_nil]
def okSrc (m : Int) (s : SrcT) : Prop := s.1.length ≤ 1048640 ∧ 0 ≤ s.2.1 ∧ s.2.1 ≤ m

end Go.Vee
