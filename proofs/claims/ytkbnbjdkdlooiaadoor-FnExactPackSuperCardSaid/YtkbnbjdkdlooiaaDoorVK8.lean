/-
  Contracts of functions of the program: what each returns for all arguments that its precondition lets in.
-/
import Derived.Test.YtkbnbjdkdlooiaaDoorVK7
set_option linter.unusedSimpArgs false
set_option linter.unusedVariables false
set_option maxRecDepth 100000
set_option maxHeartbeats 4000000
set_option synthInstance.maxHeartbeats 4000000
set_option synthInstance.maxSize 20000
namespace Go.Vee
open Go
def findG {α : Type} (p : α → Bool) : List α → Int → Int
  | [], _ => -1
  | x :: l, i => if p x = true then i else findG p l (i + 1)
theorem findG_cons {α : Type} (p : α → Bool) (x : α) (l : List α) (i : Int) : findG p (x :: l) i = if p x = true then i else findG p l (i + 1) := rfl
theorem findG_nil {α : Type} (p : α → Bool) (i : Int) : findG p [] i = -1 := rfl
theorem findG_any {α : Type} (p : α → Bool) : ∀ (l : List α) (i : Int), 0 ≤ i → decide (0 ≤ findG p l i) = l.any p
  | [], i, h => rfl
  | x :: l, i, h => by
    have := findG_any p l (i + 1) (by omega)
    simp only [findG, List.any_cons]
    split <;> simp_all
def rise : List Int → Bool
  | x :: y :: l => decide (x < y) && rise (y :: l)
  | _ => true
theorem rise_cons (x y : Int) (l : List Int) : rise (x :: y :: l) = (decide (x < y) && rise (y :: l)) := rfl
theorem rise_short (l : List Int) (h : l.length ≤ 1) : rise l = true := by
  match l with
  | [] => rfl
  | [_] => rfl
  | _ :: _ :: _ => simp at h
theorem rise_step (a : List Int) (i : Nat) (h1 : 1 ≤ i) (h : i < a.length) : rise (a.drop (i - 1)) = (decide (a.getD (i - 1) 0 < a.getD i 0) && rise (a.drop i)) := by
  have e1 := drop_cons a 0 (i - 1) (by omega)
  have e2 := drop_cons a 0 i h
  rw [show i - 1 + 1 = i by omega] at e1
  rw [e1, e2, rise_cons]
theorem rise_end (a : List Int) (i : Nat) (h : a.length ≤ i) : rise (a.drop (i - 1)) = true := rise_short _ (by simp; omega)
theorem any_contains (a : List Int) (n : Int) : a.any (fun x => decide (n = x)) = a.contains n := by
  induction a with
  | nil => rfl
  | cons x l ih => simp [List.any_cons, ih, List.contains_cons, BEq.beq]
abbrev PutT := Int × List Int × Unit
abbrev putD : PutT := (0, [], ())
def putsBad (n : Int) : List PutT → Int
  | [] => 0
  | p :: l => if ¬ (0 ≤ p.1 ∧ p.1 ≤ n - 1) then 3 else if p.2.1.length ≠ 96 then 1 else putsBad n l
theorem putsBad_step (n : Int) (l : List PutT) (i : Nat) (h : i < l.length) : putsBad n (l.drop i) = if ¬ (0 ≤ (l.getD i putD).1 ∧ (l.getD i putD).1 ≤ n - 1) then 3 else if (l.getD i putD).2.1.length ≠ 96 then 1 else putsBad n (l.drop (i + 1)) := by
  rw [drop_cons l putD i h]; rfl
theorem putsBad_end (n : Int) (l : List PutT) (i : Nat) (h : l.length ≤ i) : putsBad n (l.drop i) = 0 := by rw [drop_nil l i h]; rfl
def seenP (l : List PutT) (i j : Nat) : Bool := (l.take j).any (fun x => decide ((l.getD i putD).1 = x.1))
def dupTo (l : List PutT) : Nat → Bool
  | 0 => false
  | i + 1 => dupTo l i || seenP l i i
theorem seen_zero (l : List PutT) (i : Nat) : seenP l i 0 = false := rfl
theorem seen_succ (l : List PutT) (i j : Nat) (h : j < l.length) : seenP l i (j + 1) = (seenP l i j || decide ((l.getD i putD).1 = (l.getD j putD).1)) := by
  unfold seenP
  have e : l.getD j putD = l[j] := by simp [List.getD_eq_getElem?_getD, h]
  rw [List.take_add_one, List.getElem?_eq_getElem h, e]
  simp only [Option.toList_some, List.any_append, List.any_cons, List.any_nil, Bool.or_false]
theorem dup_mono (l : List PutT) (i j : Nat) (h : i ≤ j) (hd : dupTo l i = true) : dupTo l j = true := by
  induction j with
  | zero => rwa [show i = 0 by omega] at hd
  | succ j ih =>
    by_cases e : i = j + 1
    · rwa [e] at hd
    · simp [dupTo, ih (by omega)]
theorem seen_mono (l : List PutT) (i j k : Nat) (h : j ≤ k) (hd : seenP l i j = true) : seenP l i k = true := by
  unfold seenP at *
  rw [List.any_eq_true] at *
  obtain ⟨x, hx, hp⟩ := hd
  exact ⟨x, (List.take_subset_take_left l h) hx, hp⟩
theorem dup_hit (l : List PutT) (i j : Nat) (hi : i < l.length) (hj : j < i) (h : (l.getD i putD).1 = (l.getD j putD).1) : dupTo l l.length = true := by
  refine dup_mono l (i + 1) _ (by omega) ?_
  have h1 := seen_succ l i j (by omega)
  have h2 := seen_mono l i (j + 1) i (by omega) (by rw [h1]; simp only [h, decide_true, Bool.or_true])
  simp [dupTo, h2]
theorem findP_spec (l : List PutT) (s : Int) : ∀ (k : Nat) (r : List PutT), (∀ x, r.length = x → True) → findG (fun x => decide (x.1 = s)) r k = -1 ∨ ∃ j, j < r.length ∧ findG (fun x => decide (x.1 = s)) r k = (k + j : Nat) ∧ (r.getD j putD).1 = s ∧ (r.take j).any (fun x => decide (s = x.1)) = false
  | k, [], _ => .inl rfl
  | k, x :: r, _ => by
    by_cases hx : x.1 = s
    · refine .inr ⟨0, by simp, ?_, by simpa using hx, rfl⟩
      simp [findG, hx]
    · rcases findP_spec l s (k + 1) r (fun _ _ => trivial) with h | ⟨j, h1, h2, h3, h4⟩
      · left
        have : findG (fun x => decide (x.1 = s)) (x :: r) k = findG (fun x => decide (x.1 = s)) r (k + 1 : Nat) := by simp [findG, hx]
        rw [this, h]
      · right
        refine ⟨j + 1, by simp; omega, ?_, by simpa using h3, ?_⟩
        · have : findG (fun x => decide (x.1 = s)) (x :: r) k = findG (fun x => decide (x.1 = s)) r (k + 1 : Nat) := by simp [findG, hx]
          rw [this, h2]; congr 1; omega
        · simp only [List.take_succ_cons, List.any_cons, h4, Bool.or_false, decide_eq_false_iff_not]
          exact fun e => hx e.symm
theorem getD_mem {α : Type} (l : List α) (d : α) (i : Nat) (h : i < l.length) : l.getD i d ∈ l := by
  rw [List.getD_eq_getElem?_getD, List.getElem?_eq_getElem h]; simp
theorem find_seen (l : List PutT) (i : Nat) (hi : i < l.length) : (decide (findG (fun x => decide (x.1 = (l.getD i putD).1)) l 0 = (i : Int))) = !seenP l i i := by
  have ha := findG_any (fun x : PutT => decide (x.1 = (l.getD i putD).1)) l 0 (by omega)
  have hb : l.any (fun x : PutT => decide (x.1 = (l.getD i putD).1)) = true := by
    rw [List.any_eq_true]; exact ⟨_, getD_mem l putD i hi, by simp⟩
  rw [hb] at ha
  rcases findP_spec l (l.getD i putD).1 0 l (fun _ _ => trivial) with h | ⟨j, h1, h2, h3, h4⟩
  · rw [show ((0 : Nat) : Int) = 0 from rfl] at h
    rw [h] at ha
    simp at ha
  · rw [show ((0 : Nat) : Int) = 0 from rfl] at h2
    rw [h2]
    by_cases e : j = i
    · subst e
      have : seenP l j j = false := h4
      rw [this]; simp
    · by_cases hlt : j < i
      · have s1 := seen_succ l i j (by omega)
        have s2 := seen_mono l i (j + 1) i (by omega) (by rw [s1]; simp only [h3, decide_true, Bool.or_true])
        rw [s2]
        simp; omega
      · exfalso
        have : (l.getD i putD) ∈ l.take j := by
          rw [List.mem_take_iff_getElem]
          exact ⟨i, by omega, by simp [List.getD_eq_getElem?_getD, hi]⟩
        have h5 := List.any_eq_false.1 h4 _ this
        simp at h5
def diskFault (d : List (List Int) × List PutT × Unit) : Int :=
  if ¬ (8 ≤ d.1.length ∧ d.1.length ≤ 64) then 2 else if d.1.any (fun b => !decide (b.length = 96)) = true then 1 else if d.2.1.length > d.1.length then 2
  else if putsBad d.1.length d.2.1 ≠ 0 then putsBad d.1.length d.2.1 else if dupTo d.2.1 d.2.1.length = true then 6 else 0
theorem dup_seen (l : List PutT) (i : Nat) (hi : i < l.length) (h : seenP l i i = true) : dupTo l l.length = true :=
  dup_mono l (i + 1) _ (by omega) (by simp [dupTo, h])
theorem dup_succ (l : List PutT) (i : Nat) : dupTo l (i + 1) = (dupTo l i || seenP l i i) := rfl
abbrev DraftT := (List (List Int) × List PutT × Unit) × List Int × List Int × Unit
def offPage (n x : Int) : Bool := !decide (2 ≤ x ∧ x ≤ n - 1)
def draftRest (d : DraftT) : Int :=
  if rise d.2.1 = false ∨ rise d.2.2.1 = false then 1 else if d.2.1.any (offPage d.1.1.length) = true ∨ d.2.2.1.any (offPage d.1.1.length) = true then 3
  else if d.2.1.any (fun n => d.2.2.1.contains n) = true then 6 else if d.1.2.1.any (fun p => !d.2.2.1.contains p.1) = true then 8 else 0
def draftFault (d : DraftT) : Int := if diskFault d.1 ≠ 0 then diskFault d.1 else draftRest d
theorem any_sym (a b : List Int) : a.any (fun n => b.contains n) = b.any (fun n => a.contains n) := by
  have h : ∀ (a b : List Int), a.any (fun n => b.contains n) = true → b.any (fun n => a.contains n) = true := fun a b h => by
    rw [List.any_eq_true] at h ⊢
    obtain ⟨x, h1, h2⟩ := h
    exact ⟨x, by simpa using h2, by simpa using h1⟩
  cases h1 : a.any (fun n => b.contains n) <;> cases h2 : b.any (fun n => a.contains n) <;> first | rfl | (rw [h _ _ h1] at h2; cases h2) | (rw [h _ _ h2] at h1; cases h1)
end Go.Vee
