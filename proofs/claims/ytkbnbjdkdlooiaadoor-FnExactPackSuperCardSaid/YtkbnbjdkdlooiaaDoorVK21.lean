/-
  Contracts of functions of the program: what each returns for all arguments that its precondition lets in.
-/
import Derived.Test.YtkbnbjdkdlooiaaDoorVK20
set_option linter.unusedSimpArgs false
set_option linter.unusedVariables false
set_option maxRecDepth 100000
set_option maxHeartbeats 4000000
set_option synthInstance.maxHeartbeats 4000000
set_option synthInstance.maxSize 20000
namespace Go.Vee
open Go
def one1 {α : Type} (p : α → Bool) : List α → Prop
  | [] => True
  | x :: l => (p x = true → l.any p = false) ∧ one1 p l
theorem filter_none {α : Type} (p : α → Bool) (l : List α) (h : l.any p = false) : l.filter (fun x => !p x) = l := by
  rw [List.filter_eq_self]
  intro x hx
  have := List.any_eq_false.1 h x hx
  simpa using this
theorem findG_one {α : Type} (p : α → Bool) : ∀ (l : List α) (i : Int), one1 p l → (l.any p = true → ∃ k : Nat, findG p l i = i + k ∧ k < l.length ∧ l.take k ++ l.drop (k + 1) = l.filter (fun x => !p x)) ∧ (l.any p = false → findG p l i = -1 ∧ l.filter (fun x => !p x) = l)
  | [], i, _ => ⟨fun h => by simp at h, fun _ => ⟨rfl, rfl⟩⟩
  | x :: l, i, ⟨h1, h2⟩ => by
    obtain ⟨g1, g2⟩ := findG_one p l (i + 1) h2
    cases hp : p x with
    | true =>
      refine ⟨fun _ => ⟨0, by simp [findG, hp], by simp, ?_⟩, fun h => by simp [hp] at h⟩
      have := filter_none p l (h1 hp)
      simp [List.filter_cons, hp, this]
    | false =>
      refine ⟨fun h => ?_, fun h => ?_⟩
      · simp only [List.any_cons, hp, Bool.false_or] at h
        obtain ⟨k, e1, e2, e3⟩ := g1 h
        refine ⟨k + 1, by simp only [findG, hp, Bool.false_eq_true, if_false, e1]; omega, by simp; omega, ?_⟩
        simp [List.filter_cons, hp, e3]
      · simp only [List.any_cons, hp, Bool.false_or] at h
        obtain ⟨e1, e2⟩ := g2 h
        exact ⟨by simp [findG, hp, e1], by simp [List.filter_cons, hp, e2]⟩
theorem del_find {α : Type} (p : α → Bool) (l : List α) (h : one1 p l) : (0 ≤ findG p l 0 → findG p l 0 < l.length ∧ l.take (findG p l 0).toNat ++ l.drop (findG p l 0 + 1).toNat = l.filter (fun x => !p x)) ∧ (¬ 0 ≤ findG p l 0 → l.filter (fun x => !p x) = l) := by
  obtain ⟨g1, g2⟩ := findG_one p l 0 h
  cases ha : l.any p with
  | true =>
    obtain ⟨k, e1, e2, e3⟩ := g1 ha
    rw [e1]
    refine ⟨fun _ => ⟨by omega, ?_⟩, fun h => by omega⟩
    rw [show (0 + (k : Int)).toNat = k by omega, show (0 + (k : Int) + 1).toNat = k + 1 by omega]
    exact e3
  | false =>
    obtain ⟨e1, e2⟩ := g2 ha
    rw [e1]
    exact ⟨fun h => by omega, fun _ => e2⟩
theorem rise_lt : ∀ (l : List Int) (x : Int), rise (x :: l) = true → ∀ y ∈ l, x < y
  | [], _, _, y, hy => by simp at hy
  | z :: l, x, h, y, hy => by
    simp only [rise, Bool.and_eq_true, decide_eq_true_eq] at h
    rcases List.mem_cons.1 hy with rfl | hy
    · exact h.1
    · have := rise_lt l z h.2 y hy
      omega
theorem rise_tail (x : Int) (l : List Int) (h : rise (x :: l) = true) : rise l = true := by
  cases l with
  | nil => rfl
  | cons y l => simp only [rise, Bool.and_eq_true] at h; exact h.2
theorem rise_one (n : Int) : ∀ l : List Int, rise l = true → one1 (fun x => decide (n = x)) l
  | [], _ => trivial
  | x :: l, h => ⟨fun hx => by
      have hx : n = x := by simpa using hx
      rw [List.any_eq_false]
      intro y hy
      have := rise_lt l x h y hy
      simp; omega, rise_one n l (rise_tail x l h)⟩
theorem one1_idx {α : Type} (p : α → Bool) (d : α) : ∀ l : List α, (∀ i j, i < j → j < l.length → p (l.getD i d) = true → p (l.getD j d) = true → False) → one1 p l
  | [], _ => trivial
  | x :: l, h => ⟨fun hx => by
      rw [List.any_eq_false]
      intro y hy hp
      obtain ⟨j, hj, rfl⟩ := List.mem_iff_getElem.1 hy
      exact h 0 (j + 1) (by omega) (by simp; omega) (by simpa using hx) (by simpa [List.getD_eq_getElem?_getD, hj] using hp),
    one1_idx p d l fun i j hij hj h1 h2 => h (i + 1) (j + 1) (by omega) (by simp; omega) (by simpa using h1) (by simpa using h2)⟩
theorem dup_none (l : List PutT) : ∀ n, dupTo l n = false → ∀ i, i < n → seenP l i i = false
  | 0, _, i, hi => by omega
  | n + 1, h, i, hi => by
    simp only [dupTo, Bool.or_eq_false_iff] at h
    rcases Nat.lt_or_eq_of_le (Nat.le_of_lt_succ hi) with g | g
    · exact dup_none l n h.1 i g
    · subst g; exact h.2
theorem puts_one (n : Int) (l : List PutT) (h : dupTo l l.length = false) : one1 (fun x : PutT => decide (x.1 = n)) l :=
  one1_idx _ putD l fun i j hij hj h1 h2 => by
    have hs := dup_none l _ h j hj
    unfold seenP at hs
    have := List.any_eq_false.1 hs (l.getD i putD) (by
      rw [List.mem_take_iff_getElem]
      exact ⟨i, by omega, by simp [List.getD_eq_getElem?_getD, show i < l.length by omega]⟩)
    simp only [decide_eq_true_eq] at this h1 h2
    exact this (by rw [h2, h1])
def without (l : List Int) (n : Int) : List Int := l.filter (fun x => !decide (n = x))
def putsNot (l : List PutT) (n : Int) : List PutT := l.filter (fun x => !decide (x.1 = n))
def giveD (d : DraftT) (n : Int) : DraftT := ((d.1.1, putsNot d.1.2.1 n, ()), d.2.1, without d.2.2.1 n, ())
theorem diskFault_dup (d : DiskT) (h : diskFault d = 0) : dupTo d.2.1 d.2.1.length = false := by
  unfold diskFault at h
  repeat' split at h
  all_goals first | (exfalso; omega) | skip
  all_goals first | simp_all | skip
theorem draftFault_rise (d : DraftT) (h : draftFault d = 0) : rise d.2.2.1 = true := by
  unfold draftFault at h
  split at h
  · omega
  · unfold draftRest at h
    repeat' split at h
    all_goals first | (exfalso; omega) | skip
    all_goals simp_all
theorem find_contains (l : List Int) (n : Int) : decide (0 ≤ findG (fun x => decide (n = x)) l 0) = l.contains n := by
  rw [findG_any _ _ _ (by omega), any_contains]
theorem filter_step {α : Type} (p : α → Bool) (l : List α) (d : α) (i : Nat) (h : i < l.length) : (l.take (i + 1)).filter p = if p (l.getD i d) = true then (l.take i).filter p ++ [l.getD i d] else (l.take i).filter p := by
  have e : l.take (i + 1) = l.take i ++ [l.getD i d] := by
    rw [List.take_add_one, List.getElem?_eq_getElem h]; simp [List.getD_eq_getElem?_getD, h]
  rw [e, List.filter_append]
  generalize l.getD i d = x
  cases hp : p x <;> simp [List.filter_cons, hp]
theorem filter_len {α : Type} (p : α → Bool) (l : List α) (i : Nat) : ((l.take i).filter p).length ≤ l.length := Nat.le_trans (List.length_filter_le _ _) (by simp; omega)
def giveP (d : DraftT) (id : Int) : Int × DraftT × Unit := if draftFault d ≠ 0 then (draftFault d, zDraft, ()) else if d.2.2.1.contains id = false then (4, zDraft, ()) else (0, giveD d id, ())
theorem totL_filter {α : Type} (f : α → Nat) (p : α → Bool) : ∀ l : List α, totL f (l.filter p) ≤ totL f l
  | [] => by simp
  | x :: l => by
    have := totL_filter f p l
    simp only [List.filter_cons]
    split
    · simp only [totL]; omega
    · simp only [totL]; omega
theorem giveP_tot (d : DraftT) (id : Int) : tot (.pair (.pair (.sl (.sl (.int .u8))) (.pair (.sl (.pair (.int .i64) (.pair (.sl (.int .u8)) .unit))) .unit)) (.pair (.sl (.int .i64)) (.pair (.sl (.int .i64)) .unit))) (giveP d id).2.1 ≤ tot (.pair (.pair (.sl (.sl (.int .u8))) (.pair (.sl (.pair (.int .i64) (.pair (.sl (.int .u8)) .unit))) .unit)) (.pair (.sl (.int .i64)) (.pair (.sl (.int .i64)) .unit))) d := by
  unfold giveP
  split
  · simp [tot, totL]
  split
  · simp [tot, totL]
  · have e1 : tot (.sl tPut) (putsNot d.1.2.1 id) ≤ tot (.sl tPut) d.1.2.1 := totL_filter _ _ _
    have e2 : (without d.2.2.1 id).length ≤ d.2.2.1.length := List.length_filter_le _ _
    simp only [giveD, tDisk, tPut, tot_p, tot_u, tot_int] at e1 ⊢
    omega
end Go.Vee
