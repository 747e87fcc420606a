/-
  Contracts of functions of the program: what each returns for all arguments that its precondition lets in.
-/
import Derived.Test.YtkbnbjdkdlooiaaDoorVK6
set_option linter.unusedSimpArgs false
set_option linter.unusedVariables false
set_option maxRecDepth 100000
set_option maxHeartbeats 4000000
set_option synthInstance.maxHeartbeats 4000000
set_option synthInstance.maxSize 20000
namespace Go.Vee
open Go
def packKeys (leaf : Bool) : List (List Int) → List Int → List Int
  | [], _ => []
  | k :: ks, vs => ((k.length : Int) % 256 :: k) ++ (if leaf = true then pairOf (vs.getD 0 0) else []) ++ packKeys leaf ks (vs.drop 1)
def packKids (l : List Int) : List Int := l.map (· % 256)
def packNode (p : Bool × List (List Int) × List Int × List Int × Unit) : List Int := (p.2.1.length : Int) % 256 :: (packKeys p.1 p.2.1 p.2.2.1 ++ packKids p.2.2.2.1)
theorem pk_step (leaf : Bool) (keys : List (List Int)) (vals : List Int) (i : Nat) (h : i < keys.length) : packKeys leaf (keys.drop i) (vals.drop i) =
    ((keys.getD i []).length : Int) % 256 :: (keys.getD i [] ++ ((if leaf = true then pairOf (vals.getD i 0) else []) ++ packKeys leaf (keys.drop (i + 1)) (vals.drop (i + 1)))) := by
  rw [drop_cons keys [] i h]
  simp only [packKeys, List.drop_drop, List.cons_append, List.append_assoc]
  congr 2
  simp [List.getD_eq_getElem?_getD]
theorem pk_end (leaf : Bool) (keys : List (List Int)) (vals : List Int) (i : Nat) (h : keys.length ≤ i) : packKeys leaf (keys.drop i) (vals.drop i) = [] := by
  rw [drop_nil keys i h]; rfl
theorem kd_step (kids : List Int) (i : Nat) (h : i < kids.length) : packKids (kids.drop i) = kids.getD i 0 % 256 :: packKids (kids.drop (i + 1)) := by
  rw [drop_cons kids 0 i h]; rfl
theorem kd_end (kids : List Int) (i : Nat) (h : kids.length ≤ i) : packKids (kids.drop i) = [] := by
  rw [drop_nil kids i h]; rfl
theorem any_false_getD {α : Type} (P : α → Bool) (l : List α) (d : α) (h : l.any P = false) (i : Nat) (hi : i < l.length) : P (l.getD i d) = false := by
  have := List.any_eq_false.1 h (l.getD i d) (by rw [List.getD_eq_getElem?_getD, List.getElem?_eq_getElem hi]; simp)
  simpa using this
theorem nodeFault_ok (p : Bool × List (List Int) × List Int × List Int × Unit) (h : nodeFault p = 0) : p.2.1.length ≤ 4 ∧ (∀ i, i < p.2.1.length → (p.2.1.getD i []).length ≤ 16) ∧
    (p.1 = true → p.2.2.1.length = p.2.1.length) ∧ (p.1 = true → ∀ i, i < p.2.2.1.length → 0 ≤ p.2.2.1.getD i 0) ∧ p.2.2.2.1.length ≤ 5 := by
  unfold nodeFault at h
  split at h
  · cases h
  split at h
  · cases h
  rename_i h2
  split at h
  · cases h
  refine ⟨by omega, fun i hi => ?_, ?_⟩
  · have := any_false_getD badKey p.2.1 [] (Bool.eq_false_iff.2 h2) i hi
    simp only [badKey, decide_eq_false_iff_not] at this
    omega
  split at h
  · split at h
    · cases h
    split at h
    · cases h
    rename_i h5
    refine ⟨fun _ => by omega, fun _ i hi => ?_, by omega⟩
    have := any_false_getD _ p.2.2.1 0 (Bool.eq_false_iff.2 h5) i hi
    simp only [Bool.not_eq_false', decide_eq_true_eq] at this
    omega
  · split at h
    · cases h
    rename_i h4 _
    exact ⟨fun e => absurd e h4, fun e => absurd e h4, by omega⟩
theorem packKeys_length (leaf : Bool) : ∀ (ks : List (List Int)) (vs : List Int), (∀ i, i < ks.length → (ks.getD i []).length ≤ 16) → (packKeys leaf ks vs).length ≤ 19 * ks.length
  | [], vs, _ => by simp [packKeys]
  | k :: ks, vs, h => by
    have h0 : k.length ≤ 16 := h 0 (by simp)
    have ih := packKeys_length leaf ks (vs.drop 1) (fun i hi => h (i + 1) (by simpa using hi))
    have hp : (if leaf = true then pairOf (vs.getD 0 0) else []).length ≤ 2 := by split <;> simp [pairOf]
    simp only [packKeys, List.length_append, List.length_cons]
    omega
theorem packNode_length (p : Bool × List (List Int) × List Int × List Int × Unit) (h : nodeFault p = 0) : (packNode p).length ≤ 96 := by
  obtain ⟨k1, k2, k3, k4, k5⟩ := nodeFault_ok p h
  have := packKeys_length p.1 p.2.1 p.2.2.1 k2
  simp only [packNode, packKids, List.length_cons, List.length_append, List.length_map]
  omega
end Go.Vee
