/-
  Contracts of functions of the program: what each returns for all arguments that its precondition lets in.
-/
import Derived.Test.YtkbnbjdkdlooiaaDoorVK22
set_option linter.unusedSimpArgs false
set_option linter.unusedVariables false
set_option maxRecDepth 100000
set_option maxHeartbeats 4000000
set_option synthInstance.maxHeartbeats 4000000
set_option synthInstance.maxSize 20000
namespace Go.Vee
open Go
def putG (n : Int) : Bool → List Int → List Int
  | true, l => l
  | false, [] => [n]
  | false, x :: l => if n ≤ x then (if x = n then x :: l else n :: x :: l) else x :: putG n false l
def putI (l : List Int) (n : Int) : List Int := putG n false l
theorem putG_step (n : Int) (l : List Int) (i : Nat) (h : i < l.length) : putG n false (l.drop i) = if n ≤ l.getD i 0 then (if l.getD i 0 = n then l.drop i else n :: l.drop i) else l.getD i 0 :: putG n false (l.drop (i + 1)) := by
  rw [drop_cons l 0 i h]; rfl
theorem putG_end (n : Int) (l : List Int) (i : Nat) (h : l.length ≤ i) : putG n false (l.drop i) = [n] := by rw [drop_nil l i h]; rfl
theorem putG_done (n : Int) (l : List Int) : putG n true l = l := by cases l <;> rfl
theorem putG_len (n : Int) : ∀ l : List Int, (putG n false l).length ≤ l.length + 1
  | [] => by simp [putG]
  | x :: l => by
    have := putG_len n l
    unfold putG
    split
    · split <;> simp
    · simp; omega
theorem sorted_eq : ∀ (a b : List Int), a.Pairwise (· ≤ ·) → b.Pairwise (· ≤ ·) → a.Perm b → a = b
  | [], b, _, _, h => by simpa using h.symm
  | x :: a, [], _, _, h => by have := h.length_eq; simp at this
  | x :: a, y :: b, ha, hb, h => by
    rw [List.pairwise_cons] at ha hb
    have hx : x ∈ y :: b := h.mem_iff.1 (by simp)
    have hy : y ∈ x :: a := h.mem_iff.2 (by simp)
    have hxy : x = y := by
      rcases List.mem_cons.1 hx with e | hx
      · exact e
      · rcases List.mem_cons.1 hy with e | hy
        · exact e.symm
        · have h1 := hb.1 x hx
          have h2 := ha.1 y hy
          omega
    subst hxy
    rw [sorted_eq a b ha.2 hb.2 ((List.perm_cons x).1 h)]
theorem rise_pair : ∀ l : List Int, rise l = true → l.Pairwise (· < ·)
  | [], _ => List.Pairwise.nil
  | x :: l, h => List.Pairwise.cons (rise_lt l x h) (rise_pair l (rise_tail x l h))
theorem pair_rise : ∀ l : List Int, l.Pairwise (· < ·) → rise l = true
  | [], _ => rfl
  | [_], _ => rfl
  | x :: y :: l, h => by
    rw [List.pairwise_cons] at h
    simp only [rise, Bool.and_eq_true, decide_eq_true_eq]
    exact ⟨h.1 y (by simp), pair_rise (y :: l) h.2⟩
theorem putI_perm (n : Int) : ∀ l : List Int, n ∉ l → (putG n false l).Perm (l ++ [n])
  | [], _ => List.Perm.refl _
  | x :: l, h => by
    have hx : ¬ x = n := fun e => h (by simp [e])
    unfold putG
    split
    · first | rw [if_neg hx] | skip
      exact (List.perm_append_comm (l₁ := [n]) (l₂ := x :: l))
    · exact (putI_perm n l (fun hh => h (by simp [hh]))).cons x
theorem putI_mem (n : Int) : ∀ (l : List Int) (y : Int), y ∈ putG n false l → y = n ∨ y ∈ l
  | [], y, h => by simp [putG] at h; exact .inl h
  | x :: l, y, h => by
    unfold putG at h
    split at h
    · split at h
      · exact .inr h
      · rcases List.mem_cons.1 h with e | h
        · exact .inl e
        · exact .inr h
    · rcases List.mem_cons.1 h with e | h
      · exact .inr (by simp [e])
      · rcases putI_mem n l y h with e | h
        · exact .inl e
        · exact .inr (by simp [h])
theorem putI_pair (n : Int) : ∀ l : List Int, l.Pairwise (· < ·) → (putG n false l).Pairwise (· < ·)
  | [], _ => by simp [putG]
  | x :: l, h => by
    have h' := h
    rw [List.pairwise_cons] at h
    unfold putG
    split
    · rename_i hle
      split
      · exact h'
      · rename_i hne
        rw [List.pairwise_cons]
        refine ⟨fun y hy => ?_, h'⟩
        rcases List.mem_cons.1 hy with rfl | hy
        · omega
        · have := h.1 y hy; omega
    · rename_i hlt
      rw [List.pairwise_cons]
      refine ⟨fun y hy => ?_, putI_pair n l h.2⟩
      rcases putI_mem n l y hy with rfl | hy
      · omega
      · exact h.1 y hy
theorem sort_put (l : List Int) (n : Int) (h : rise l = true) (hn : l.contains n = false) : sortI (l ++ [n]) = putI l n := by
  have hn' : n ∉ l := by simpa using hn
  have hp := rise_pair l h
  refine sorted_eq _ _ ?_ ((putI_pair n l hp).imp (fun h => by omega)) ?_
  · have := List.pairwise_mergeSort (le := fun x y : Int => decide (x ≤ y)) (by intro a b c h1 h2; simp at *; omega) (by intro a b; simp; omega) (l ++ [n])
    exact this.imp (fun h => by simpa using h)
  · exact (List.mergeSort_perm _ _).trans (putI_perm n l hn').symm
theorem freeL_mem (k t : List Int) : ∀ (m : Nat) (n x : Int), x ∈ freeL k t m n → k.contains x = false ∧ t.contains x = false ∧ n ≤ x ∧ x < n + m
  | 0, n, x, h => by simp [freeL] at h
  | m + 1, n, x, h => by
    unfold freeL at h
    split at h
    · rename_i hc
      rcases List.mem_cons.1 h with rfl | h
      · exact ⟨hc.1, hc.2, by omega, by omega⟩
      · obtain ⟨a, b, c, d⟩ := freeL_mem k t m (n + 1) x h
        exact ⟨a, b, by omega, by omega⟩
    · obtain ⟨a, b, c, d⟩ := freeL_mem k t m (n + 1) x h
      exact ⟨a, b, by omega, by omega⟩
def takeN (d : DraftT) : Int := (freeOf d).getD 0 0
def takeD (d : DraftT) : DraftT := if (freeOf d).length = 0 then d else (d.1, d.2.1, putI d.2.2.1 (takeN d), ())
theorem takeN_free (d : DraftT) (h : ¬ (freeOf d).length = 0) : d.2.1.contains (takeN d) = false ∧ d.2.2.1.contains (takeN d) = false ∧ 2 ≤ takeN d ∧ takeN d < 2 + ((d.1.1.length - 2 : Nat) : Int) := by
  have hm : takeN d ∈ freeOf d := getD_mem _ _ _ (by omega)
  exact freeL_mem _ _ _ _ _ hm
theorem takeN_none (d : DraftT) (h : (freeOf d).length = 0) : takeN d = 0 := by
  unfold takeN
  rw [List.getD_eq_getElem?_getD, List.getElem?_eq_none (by omega)]; rfl
def takePg (d : DraftT) : Int × DraftT × Int × Unit := if draftFault d ≠ 0 then (draftFault d, zDraft, 0, ()) else if (freeOf d).length = 0 then (7, zDraft, 0, ()) else (0, takeD d, takeN d, ())
theorem takePg_tot (d : DraftT) : tot (.pair (.pair (.sl (.sl (.int .u8))) (.pair (.sl (.pair (.int .i64) (.pair (.sl (.int .u8)) .unit))) .unit)) (.pair (.sl (.int .i64)) (.pair (.sl (.int .i64)) .unit))) (takePg d).2.1 ≤ tot (.pair (.pair (.sl (.sl (.int .u8))) (.pair (.sl (.pair (.int .i64) (.pair (.sl (.int .u8)) .unit))) .unit)) (.pair (.sl (.int .i64)) (.pair (.sl (.int .i64)) .unit))) d + 1 := by
  unfold takePg
  split
  · simp [tot, totL]
  split
  · simp [tot, totL]
  · rename_i h1 h2
    have e := putG_len (takeN d) d.2.2.1
    simp only [takeD, if_neg h2, putI, tDisk, tPut, tot_p, tot_u, tot_int] at e ⊢
    omega
end Go.Vee
