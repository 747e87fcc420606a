/-
  Contracts of functions of the program: what each returns for all arguments that its precondition lets in.
-/
import Derived.Test.YtoomfdnohpkepaaVK19
set_option linter.unusedSimpArgs false
set_option linter.unusedVariables false
set_option maxRecDepth 100000
set_option maxHeartbeats 4000000
set_option synthInstance.maxHeartbeats 4000000
set_option synthInstance.maxSize 20000
namespace Go.Vee
open Go
theorem drop_step {α : Type} (l : List α) (d : α) (i : Nat) (h : i < l.length) : l.drop i = l.getD i d :: l.drop (i + 1) := drop_cons l d i h
def seenK {α β : Type} [DecidableEq β] (f : α → β) (d : α) (l : List α) (i j : Nat) : Bool := (l.take j).any (fun x => decide (f (l.getD i d) = f x))
def dupK {α β : Type} [DecidableEq β] (f : α → β) (d : α) (l : List α) : Nat → Bool
  | 0 => false
  | i + 1 => dupK f d l i || seenK f d l i i
section
variable {α β : Type} [DecidableEq β] (f : α → β) (d : α) (l : List α)
theorem seenK_zero (i : Nat) : seenK f d l i 0 = false := rfl
theorem seenK_succ (i j : Nat) (h : j < l.length) : seenK f d l i (j + 1) = (seenK f d l i j || decide (f (l.getD i d) = f (l.getD j d))) := by
  unfold seenK
  have e : l.getD j d = l[j] := by simp [List.getD_eq_getElem?_getD, h]
  rw [List.take_add_one, List.getElem?_eq_getElem h, e]
  simp only [Option.toList_some, List.any_append, List.any_cons, List.any_nil, Bool.or_false]
theorem dupK_mono (i j : Nat) (h : i ≤ j) (hd : dupK f d l i = true) : dupK f d l j = true := by
  induction j with
  | zero => rwa [show i = 0 by omega] at hd
  | succ j ih =>
    by_cases e : i = j + 1
    · rwa [e] at hd
    · simp [dupK, ih (by omega)]
theorem seenK_mono (i j k : Nat) (h : j ≤ k) (hd : seenK f d l i j = true) : seenK f d l i k = true := by
  unfold seenK at *
  rw [List.any_eq_true] at *
  obtain ⟨x, hx, hp⟩ := hd
  exact ⟨x, (List.take_subset_take_left l h) hx, hp⟩
theorem dupK_hit (i j : Nat) (hi : i < l.length) (hj : j < i) (h : f (l.getD i d) = f (l.getD j d)) : dupK f d l l.length = true := by
  refine dupK_mono f d l (i + 1) _ (by omega) ?_
  have h1 := seenK_succ f d l i j (by omega)
  have h2 := seenK_mono f d l i (j + 1) i (by omega) (by rw [h1]; simp only [h, decide_true, Bool.or_true])
  simp [dupK, h2]
theorem findK_spec (s : β) : ∀ (k : Nat) (r : List α), findG (fun x => decide (f x = s)) r k = -1 ∨ ∃ j, j < r.length ∧ findG (fun x => decide (f x = s)) r k = (k + j : Nat) ∧ f (r.getD j d) = s ∧ (r.take j).any (fun x => decide (s = f x)) = false
  | k, [] => .inl rfl
  | k, x :: r => by
    by_cases hx : f x = s
    · refine .inr ⟨0, by simp, ?_, by simpa using hx, rfl⟩
      simp [findG, hx]
    · rcases findK_spec s (k + 1) r with h | ⟨j, h1, h2, h3, h4⟩
      · left
        have : findG (fun x => decide (f x = s)) (x :: r) k = findG (fun x => decide (f x = s)) r (k + 1 : Nat) := by simp [findG, hx]
        rw [this, h]
      · right
        refine ⟨j + 1, by simp; omega, ?_, by simpa using h3, ?_⟩
        · have : findG (fun x => decide (f x = s)) (x :: r) k = findG (fun x => decide (f x = s)) r (k + 1 : Nat) := by simp [findG, hx]
          rw [this, h2]; congr 1; omega
        · simp only [List.take_succ_cons, List.any_cons, h4, Bool.or_false, decide_eq_false_iff_not]
          exact fun e => hx e.symm
theorem findK_seen (i : Nat) (hi : i < l.length) : (decide (findG (fun x => decide (f x = f (l.getD i d))) l 0 = (i : Int))) = !seenK f d l i i := by
  have ha := findG_any (fun x : α => decide (f x = f (l.getD i d))) l 0 (by omega)
  have hb : l.any (fun x : α => decide (f x = f (l.getD i d))) = true := by
    rw [List.any_eq_true]; exact ⟨_, getD_mem l d i hi, by simp⟩
  rw [hb] at ha
  rcases findK_spec f d (f (l.getD i d)) 0 l with h | ⟨j, h1, h2, h3, h4⟩
  · rw [show ((0 : Nat) : Int) = 0 from rfl] at h
    rw [h] at ha
    simp at ha
  · rw [show ((0 : Nat) : Int) = 0 from rfl] at h2
    rw [h2]
    by_cases e : j = i
    · subst e
      have : seenK f d l j j = false := h4
      rw [this]; simp
    · by_cases hlt : j < i
      · have s1 := seenK_succ f d l i j (by omega)
        have s2 := seenK_mono f d l i (j + 1) i (by omega) (by rw [s1]; simp only [h3, decide_true, Bool.or_true])
        rw [s2]
        simp; omega
      · exfalso
        have : (l.getD i d) ∈ l.take j := by
          rw [List.mem_take_iff_getElem]
          exact ⟨i, by omega, by simp [List.getD_eq_getElem?_getD, hi]⟩
        have h5 := List.any_eq_false.1 h4 _ this
        simp at h5
theorem dupK_seen (i : Nat) (hi : i < l.length) (h : seenK f d l i i = true) : dupK f d l l.length = true :=
  dupK_mono f d l (i + 1) _ (by omega) (by simp [dupK, h])
theorem dupK_succ (i : Nat) : dupK f d l (i + 1) = (dupK f d l i || seenK f d l i i) := rfl
end
abbrev SymT := List Int × Int × Unit
abbrev symD : SymT := ([], 0, ())
abbrev SigT := List SymT × Unit
def letter (c : Int) : Bool := decide (97 ≤ c ∧ c ≤ 122)
def nameOk (s : List Int) : Bool := decide (1 ≤ s.length ∧ s.length ≤ 3) && s.all letter
def symBad : List SymT → Int
  | [] => 0
  | x :: l => if nameOk x.1 = false then 5 else if ¬ (0 ≤ x.2.1 ∧ x.2.1 ≤ 2) then 3 else symBad l
theorem symBad_step (l : List SymT) (i : Nat) (h : i < l.length) : symBad (l.drop i) = if nameOk (l.getD i symD).1 = false then 5 else if ¬ (0 ≤ (l.getD i symD).2.1 ∧ (l.getD i symD).2.1 ≤ 2) then 3 else symBad (l.drop (i + 1)) := by
  rw [drop_cons l symD i h]; rfl
theorem symBad_end (l : List SymT) (i : Nat) (h : l.length ≤ i) : symBad (l.drop i) = 0 := by rw [drop_nil l i h]; rfl
def dupSym (l : List SymT) : Nat → Bool := dupK (fun x : SymT => x.1) symD l
def seenSym (l : List SymT) : Nat → Nat → Bool := seenK (fun x : SymT => x.1) symD l
def sigFault (s : SigT) : Int :=
  if ¬ (1 ≤ s.1.length ∧ s.1.length ≤ 6) then 2 else if symBad s.1 ≠ 0 then symBad s.1 else if dupSym s.1 s.1.length = true then 6 else if s.1.any (fun x => decide (x.2.1 = 0)) = true then 0 else 4
/-! Trim -/
theorem dropWhile_all {α : Type} (p : α → Bool) (l : List α) : l.dropWhile p = [] ↔ l.all p = true := by
  induction l with
  | nil => simp
  | cons x l ih =>
    simp only [List.dropWhile_cons, List.all_cons]
    cases hx : p x <;> simp [ih]
theorem trimI_nil (l cs : List Int) : trimI l cs = [] ↔ l.all (cs.contains ·) = true := by
  unfold trimI
  rw [dropWhile_all]
  constructor
  · intro h
    rw [List.all_eq_true]
    intro x hx
    by_cases hd : x ∈ (l.reverse.dropWhile (cs.contains ·)).reverse
    · exact List.all_eq_true.1 h x hd
    · have : x ∈ l.reverse.takeWhile (cs.contains ·) := by
        have h2 : x ∈ l.reverse.takeWhile (cs.contains ·) ++ l.reverse.dropWhile (cs.contains ·) := by rw [List.takeWhile_append_dropWhile]; simpa using hx
        rcases List.mem_append.1 h2 with h2 | h2
        · exact h2
        · exact absurd (by simpa using h2) hd
      exact List.all_eq_true.1 (List.all_takeWhile) x this
  · intro h
    rw [List.all_eq_true]
    intro x hx
    have : x ∈ l.reverse := (List.dropWhile_sublist _).subset (by simpa using hx)
    exact List.all_eq_true.1 h x (by simpa using this)
def letters : List Int := [97, 98, 99, 100, 101, 102, 103, 104, 105, 106, 107, 108, 109, 110, 111, 112, 113, 114, 115, 116, 117, 118, 119, 120, 121, 122]
theorem letters_contains (c : Int) : letters.contains c = letter c := by
  unfold letter
  by_cases h : 97 ≤ c ∧ c ≤ 122
  · have : c = 97 ∨ c = 98 ∨ c = 99 ∨ c = 100 ∨ c = 101 ∨ c = 102 ∨ c = 103 ∨ c = 104 ∨ c = 105 ∨ c = 106 ∨ c = 107 ∨ c = 108 ∨ c = 109 ∨ c = 110 ∨ c = 111 ∨ c = 112 ∨ c = 113 ∨ c = 114 ∨ c = 115 ∨ c = 116 ∨ c = 117 ∨ c = 118 ∨ c = 119 ∨ c = 120 ∨ c = 121 ∨ c = 122 := by omega
    rcases this with rfl | rfl | rfl | rfl | rfl | rfl | rfl | rfl | rfl | rfl | rfl | rfl | rfl | rfl | rfl | rfl | rfl | rfl | rfl | rfl | rfl | rfl | rfl | rfl | rfl | rfl <;> decide
  · have hn : c ∉ letters := fun hc => by simp [letters] at hc; omega
    rw [show letters.contains c = false by simpa using hn]
    simp only [h, decide_false]
theorem trim_letters (l : List Int) : decide (trimI l letters = []) = l.all letter := by
  have h := trimI_nil l letters
  have e : (fun x => letters.contains x) = letter := funext letters_contains
  rw [e] at h
  cases hl : l.all letter <;> simp_all
theorem letters_eq : List.map (fun b : UInt8 => (b.toNat : Int)) [97, 98, 99, 100, 101, 102, 103, 104, 105, 106, 107, 108, 109, 110, 111, 112, 113, 114, 115, 116, 117, 118, 119, 120, 121, 122] = letters := by decide
theorem letters_ok : letters.length < 4294967281 ∧ ∀ c ∈ letters, c < 128 := by decide
theorem nameOk_short (s : List Int) (h : ¬ (1 ≤ s.length ∧ s.length ≤ 3)) : nameOk s = false := by simp [nameOk, h]
theorem nameOk_long (s : List Int) (h : 1 ≤ s.length ∧ s.length ≤ 3) : nameOk s = s.all letter := by simp [nameOk, h]
theorem all_step (p : Int → Bool) (l : List Int) (i : Nat) (h : i < l.length) : (l.drop i).all p = (p (l.getD i 0) && (l.drop (i + 1)).all p) := by rw [drop_cons l 0 i h]; rfl
theorem all_end (p : Int → Bool) (l : List Int) (i : Nat) (h : l.length ≤ i) : (l.drop i).all p = true := by rw [drop_nil l i h]; rfl
theorem sym_find (l : List SymT) (i : Nat) (hi : i < l.length) : decide (findG (fun x : SymT => decide (x.1 = (l.getD i symD).1)) l 0 = (i : Int)) = !seenSym l i i := findK_seen (fun x : SymT => x.1) symD l i hi
theorem sym_dup (l : List SymT) (i : Nat) (hi : i < l.length) (h : seenSym l i i = true) : dupSym l l.length = true := dupK_seen _ _ _ i hi h
theorem sym_succ (l : List SymT) (i : Nat) : dupSym l (i + 1) = (dupSym l i || seenSym l i i) := rfl
theorem sym_zero (l : List SymT) (i : Nat) : seenSym l i 0 = false := rfl
theorem sym_seen (l : List SymT) (i j : Nat) (h : j < l.length) : seenSym l i (j + 1) = (seenSym l i j || decide ((l.getD i symD).1 = (l.getD j symD).1)) := seenK_succ _ _ _ i j h
theorem sym_hit (l : List SymT) (i j : Nat) (hi : i < l.length) (hj : j < i) (h : (l.getD i symD).1 = (l.getD j symD).1) : dupSym l l.length = true := dupK_hit _ _ _ i j hi hj h
theorem any_step {α : Type} (p : α → Bool) (l : List α) (d : α) (i : Nat) (h : i < l.length) : (l.drop i).any p = (p (l.getD i d) || (l.drop (i + 1)).any p) := by rw [drop_cons l d i h]; rfl
theorem any_end {α : Type} (p : α → Bool) (l : List α) (i : Nat) (h : l.length ≤ i) : (l.drop i).any p = false := by rw [drop_nil l i h]; rfl
end Go.Vee
