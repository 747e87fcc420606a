/-
  Contracts of functions of the program: what each returns for all arguments that its precondition lets in.
-/
import Derived.Test.YtjlojjkfdidkiaaVK20
set_option linter.unusedSimpArgs false
set_option linter.unusedVariables false
set_option maxRecDepth 100000
set_option maxHeartbeats 4000000
set_option synthInstance.maxHeartbeats 4000000
set_option synthInstance.maxSize 20000000
namespace Go.Vee
open Go
abbrev RowT := List Int × Int × Unit
abbrev WkT := List Int × List RowT × Int × Unit
theorem ordB_neg : ∀ a b : List Int, ordB b a = - ordB a b
  | [], b => by rw [ordB_nil, ordB_nil2]; split <;> rfl
  | x :: a, [] => by rw [ordB_nil, ordB_nil2]; simp
  | x :: a, y :: b => by
    have := ordB_neg a b
    rw [ordB_cons, ordB_cons]
    split
    · rw [if_neg (by omega)]
      first | rw [if_pos (by omega)] | skip
      try rfl
    · split
      · first | rw [if_pos (by omega)] | skip
        try rfl
      · exact this
/-- A key stands between two bounds, of which those that are empty are none. -/
def inBd (lo hi k : List Int) : Bool := (decide (lo.length = 0) || decide (ordB lo k ≤ 0)) && (decide (hi.length = 0) || decide (ordB k hi < 0))
def rowsOf : List (List Int) → List Int → List RowT
  | k :: ks, v :: vs => (k, v, ()) :: rowsOf ks vs
  | _, _ => []
/-- The ways into the kids of a node. -/
def visK (f : Int → List Int → List Int → WkT → Int × WkT) (ks : List (List Int)) (lo hi : List Int) : List Int → Nat → WkT → Int × WkT
  | [], _, w => (0, w)
  | k :: l, i, w =>
    if (f k (if 0 < i then ks.getD (i - 1) [] else lo) (if i < ks.length then ks.getD i [] else hi) w).1 ≠ 0 then f k (if 0 < i then ks.getD (i - 1) [] else lo) (if i < ks.length then ks.getD i [] else hi) w
    else visK f ks lo hi l (i + 1) (f k (if 0 < i then ks.getD (i - 1) [] else lo) (if i < ks.length then ks.getD i [] else hi) w).2
def deepOf (dep x : Int) : Int := if x = 0 then dep else x
def leafW (n : NodeT) (dep : Int) (w : WkT) : Int × WkT :=
  if dep ≠ deepOf dep w.2.2.1 then (8, (w.1, w.2.1, deepOf dep w.2.2.1, ())) else (0, (w.1, w.2.1 ++ rowsOf n.2.1 n.2.2.1, deepOf dep w.2.2.1, ()))
def badN (n : NodeT) (dep : Int) : Bool := decide (dep > 4 ∨ (dep > 1 ∧ n.2.1.length < 2) ∨ n.2.1.length = 0)
/-- The way through a subtree; 'p' puts a page to those seen. -/
def vis (p : List Int → Int → List Int) (d : DiskT) : Nat → Int → Int → List Int → List Int → WkT → Int × WkT
  | 0, _, _, _, _, w => (8, w)
  | m + 1, id, dep, lo, hi, w =>
    if w.1.contains id = true then (8, w)
    else if (nodeAt d id).1 ≠ 0 then ((nodeAt d id).1, w)
    else if badN (nodeAt d id).2.1 dep = true then (8, w)
    else if (nodeAt d id).2.1.2.1.all (inBd lo hi) = false then (8, w)
    else if (nodeAt d id).2.1.1 = true then leafW (nodeAt d id).2.1 dep (p w.1 id, w.2.1, w.2.2.1, ())
    else visK (fun k a b w => vis p d m k (dep + 1) a b w) (nodeAt d id).2.1.2.1 lo hi (nodeAt d id).2.1.2.2.2.1 0 (p w.1 id, w.2.1, w.2.2.1, ())
def visP := vis (fun l n => l ++ [n])
def visS := vis putI
def wk0 : WkT := ([], [], 0, ())
def sortW (w : WkT) : WkT := (sortI w.1, w.2.1, w.2.2.1, ())
theorem sortI_nodup (l : List Int) (h : l.Nodup) : rise (sortI l) = true := by
  refine pair_rise _ ?_
  have h1 : (sortI l).Pairwise (· ≤ ·) := by
    have := List.pairwise_mergeSort (le := fun x y : Int => decide (x ≤ y)) (by intro a b c h1 h2; simp at *; omega) (by intro a b; simp; omega) l
    exact this.imp (fun h => by simpa using h)
  have h2 : (sortI l).Nodup := (List.mergeSort_perm l _).nodup_iff.2 h
  exact (List.pairwise_and_iff.2 ⟨h1, h2⟩).imp (fun h => by have := h.1; have := h.2; omega)
theorem sortI_has (l : List Int) (n : Int) : (sortI l).contains n = l.contains n := by
  rw [Bool.eq_iff_iff]
  simp [sortI]
theorem sortI_perm {a b : List Int} (h : a.Perm b) : sortI a = sortI b := by
  have hs : ∀ l : List Int, (sortI l).Pairwise (· ≤ ·) := fun l => by
    have := List.pairwise_mergeSort (le := fun x y : Int => decide (x ≤ y)) (by intro a b c h1 h2; simp at *; omega) (by intro a b; simp; omega) l
    exact this.imp (fun h => by simpa using h)
  exact sorted_eq _ _ (hs a) (hs b) (((List.mergeSort_perm a _).trans h).trans (List.mergeSort_perm b _).symm)
theorem putI_sort (l : List Int) (n : Int) (h : l.Nodup) (hn : l.contains n = false) : putI (sortI l) n = sortI (l ++ [n]) := by
  rw [← sort_put (sortI l) n (sortI_nodup l h) (by rw [sortI_has]; exact hn)]
  exact sortI_perm ((List.mergeSort_perm l _).append_right [n])
def Rel (a b : Int × WkT) : Prop := a.1 = b.1 ∧ a.2 = sortW b.2 ∧ b.2.1.Nodup
theorem leafW_rel (n : NodeT) (dep : Int) (a : List Int) (b : List RowT) (c : Int) (h : a.Nodup) : Rel (leafW n dep (sortI a, b, c, ())) (leafW n dep (a, b, c, ())) := by
  by_cases e : dep ≠ deepOf dep c
  · rw [show leafW n dep (sortI a, b, c, ()) = (8, (sortI a, b, deepOf dep c, ())) from if_pos e, show leafW n dep (a, b, c, ()) = (8, (a, b, deepOf dep c, ())) from if_pos e]
    exact ⟨rfl, rfl, h⟩
  · rw [show leafW n dep (sortI a, b, c, ()) = (0, (sortI a, b ++ rowsOf n.2.1 n.2.2.1, deepOf dep c, ())) from if_neg e, show leafW n dep (a, b, c, ()) = (0, (a, b ++ rowsOf n.2.1 n.2.2.1, deepOf dep c, ())) from if_neg e]
    exact ⟨rfl, rfl, h⟩
theorem visK_rel (f g : Int → List Int → List Int → WkT → Int × WkT) (ks : List (List Int)) (lo hi : List Int) (hf : ∀ k a b w, w.1.Nodup → Rel (f k a b (sortW w)) (g k a b w)) :
    ∀ (l : List Int) (i : Nat) (w : WkT), w.1.Nodup → Rel (visK f ks lo hi l i (sortW w)) (visK g ks lo hi l i w)
  | [], i, w, h => ⟨rfl, rfl, h⟩
  | k :: l, i, w, h => by
    have h1 := hf k (if 0 < i then ks.getD (i - 1) [] else lo) (if i < ks.length then ks.getD i [] else hi) w h
    unfold visK
    generalize (if 0 < i then ks.getD (i - 1) [] else lo) = a0 at h1 ⊢
    generalize (if i < ks.length then ks.getD i [] else hi) = b0 at h1 ⊢
    rw [h1.1]
    by_cases c : (g k a0 b0 w).1 ≠ 0
    · rw [if_pos c, if_pos c]; exact h1
    · rw [if_neg c, if_neg c, h1.2.1]
      exact visK_rel f g ks lo hi hf l (i + 1) _ h1.2.2
theorem vis_rel (d : DiskT) : ∀ (m : Nat) (id dep : Int) (lo hi : List Int) (w : WkT), w.1.Nodup → Rel (visS d m id dep lo hi (sortW w)) (visP d m id dep lo hi w)
  | 0, id, dep, lo, hi, w, h => ⟨rfl, rfl, h⟩
  | m + 1, id, dep, lo, hi, w, h => by
    have e : (sortW w).1.contains id = w.1.contains id := sortI_has w.1 id
    unfold visS visP vis
    rw [e]
    split
    · exact ⟨rfl, rfl, h⟩
    rename_i hc
    have hc' : w.1.contains id = false := by simpa using hc
    have hp := putI_sort w.1 id h hc'
    have hn : (w.1 ++ [id]).Nodup := by
      rw [List.nodup_append]
      refine ⟨h, by simp, ?_⟩
      intro a ha b hb
      rw [List.mem_singleton] at hb
      subst hb
      intro e
      subst e
      simp at hc'
      exact hc' ha
    split
    · exact ⟨rfl, rfl, h⟩
    split
    · exact ⟨rfl, rfl, h⟩
    split
    · exact ⟨rfl, rfl, h⟩
    have hs : (putI (sortW w).1 id, (sortW w).2.1, (sortW w).2.2.1, ()) = sortW (w.1 ++ [id], w.2.1, w.2.2.1, ()) := by
      simp only [sortW, hp]
    split
    · rw [hs]
      exact leafW_rel _ _ _ _ _ hn
    · rw [hs]
      exact visK_rel _ _ _ _ _ (fun k a b w hw => vis_rel d m k (dep + 1) a b w hw) _ 0 _ hn
theorem nodeAt_ok (d : DiskT) (id : Int) (h : (nodeAt d id).1 = 0) : nodeFault (nodeAt d id).2.1 = 0 := by
  unfold nodeAt at h ⊢
  split
  · rename_i h1; rw [if_pos h1] at h; exact absurd h h1
  rename_i h1
  rw [if_neg h1] at h
  unfold readNode at h ⊢
  split
  · rename_i h2; rw [if_pos h2] at h; cases h
  rename_i h2
  rw [if_neg h2] at h
  split
  · rename_i h3; rw [h3] at h; cases h
  rename_i n h3
  rw [h3] at h
  dsimp only at h ⊢
  by_cases h4 : nodeFault n = 0
  · rw [if_pos h4]; exact h4
  · rw [if_neg h4] at h; cases h
/-- What a walk knows of a node. -/
theorem nodeFault_walk (p : NodeT) (h : nodeFault p = 0) : p.2.1.length ≤ 4 ∧ (∀ i, i < p.2.1.length → 1 ≤ (p.2.1.getD i []).length ∧ (p.2.1.getD i []).length ≤ 16) ∧
    (p.1 = true → p.2.2.1.length = p.2.1.length) ∧ (p.1 = false → p.2.2.2.1.length = p.2.1.length + 1) ∧ p.2.2.2.1.length ≤ 5 := by
  have hok := nodeFault_ok p h
  unfold nodeFault at h
  split at h
  · cases h
  split at h
  · cases h
  rename_i h2
  split at h
  · cases h
  refine ⟨hok.1, fun i hi => ?_, hok.2.2.1, ?_, hok.2.2.2.2⟩
  · have := any_false_getD badKey p.2.1 [] (Bool.eq_false_iff.2 h2) i hi
    simp only [badKey, decide_eq_false_iff_not] at this
    omega
  split at h
  · rename_i h4; intro e; rw [h4] at e; cases e
  · split at h
    · cases h
    rename_i h5
    intro _; omega
theorem rowsOf_snoc : ∀ (ks : List (List Int)) (vs : List Int) (i : Nat), i < ks.length → i < vs.length → rowsOf (ks.take (i + 1)) (vs.take (i + 1)) = rowsOf (ks.take i) (vs.take i) ++ [(ks.getD i [], vs.getD i 0, ())]
  | [], _, i, h, _ => by simp at h
  | _ :: _, [], i, _, h => by simp at h
  | k :: ks, v :: vs, 0, _, _ => by simp [rowsOf]
  | k :: ks, v :: vs, i + 1, h1, h2 => by
    have := rowsOf_snoc ks vs i (by simpa using h1) (by simpa using h2)
    simp only [List.take_succ_cons, rowsOf, this, List.cons_append]
    simp
/-- The walk of a tree: a code, and what was seen. -/
def treeP (d : DiskT) (root : Int) : Int × WkT := if root = 0 then (0, wk0) else visP d 5 root 1 [] [] wk0
def treeS (d : DiskT) (root : Int) : Int × WkT := if root = 0 then (0, wk0) else visS d 5 root 1 [] [] wk0
theorem tree_rel (d : DiskT) (root : Int) : Rel (treeS d root) (treeP d root) := by
  have e : sortW wk0 = wk0 := by simp [sortW, wk0, sortI]
  unfold treeS treeP
  split
  · exact ⟨rfl, e.symm, by simp [wk0]⟩
  · have := vis_rel d 5 root 1 [] [] wk0 (by simp [wk0])
    rwa [e] at this
/-- What holds of what was seen, all the way. -/
def okW (w : WkT) : Prop := w.1.Nodup ∧ (∀ x ∈ w.1, 2 ≤ x ∧ x ≤ 63) ∧ w.2.1.length ≤ 4 * w.1.length ∧ (∀ r ∈ w.2.1, r.1.length ≤ 16)
theorem nodup_le (n : Nat) : ∀ (l : List Int), l.Nodup → (∀ x ∈ l, 2 ≤ x ∧ x < 2 + (n : Int)) → l.length ≤ n := by
  induction n with
  | zero =>
    intro l _ h
    cases l with
    | nil => simp
    | cons x l => have := h x (by simp); omega
  | succ n ih =>
    intro l hd h
    by_cases hm : (2 + (n : Int)) ∈ l
    · have h1 := ih (l.erase (2 + (n : Int))) (hd.erase _) (fun x hx => by
        have h2 := h x (List.mem_of_mem_erase hx)
        have h3 : x ≠ 2 + (n : Int) := fun e => by
          subst e
          exact (List.Nodup.not_mem_erase hd) hx
        omega)
      rw [List.length_erase_of_mem hm] at h1
      omega
    · have h1 := ih l hd (fun x hx => by
        have h2 := h x hx
        have h3 : x ≠ 2 + (n : Int) := fun e => hm (e ▸ hx)
        omega)
      omega
theorem okW_len (w : WkT) (h : okW w) : w.1.length ≤ 62 ∧ w.2.1.length ≤ 248 := by
  have h1 := nodup_le 62 w.1 h.1 (fun x hx => by have := h.2.1 x hx; omega)
  have h2 := h.2.2.1
  omega
theorem rowsOf_len : ∀ (ks : List (List Int)) (vs : List Int), (rowsOf ks vs).length ≤ ks.length
  | [], _ => by simp [rowsOf]
  | _ :: _, [] => by simp [rowsOf]
  | _ :: ks, _ :: vs => by have := rowsOf_len ks vs; simp only [rowsOf, List.length_cons]; omega
theorem rowsOf_mem : ∀ (ks : List (List Int)) (vs : List Int) (r : RowT), r ∈ rowsOf ks vs → r.1 ∈ ks
  | [], _, r, h => by simp [rowsOf] at h
  | _ :: _, [], r, h => by simp [rowsOf] at h
  | k :: ks, v :: vs, r, h => by
    simp only [rowsOf, List.mem_cons] at h
    rcases h with rfl | h
    · simp
    · exact List.mem_cons_of_mem _ (rowsOf_mem ks vs r h)
def okP (p : List Int → Int → List Int) : Prop := ∀ (l : List Int) (n : Int), l.Nodup → l.contains n = false → (p l n).Nodup ∧ (∀ x ∈ p l n, x = n ∨ x ∈ l) ∧ (p l n).length = l.length + 1
theorem nodeAt_id (d : DiskT) (hd : GoodW d 64) (id : Int) (h : (nodeAt d id).1 = 0) : 2 ≤ id ∧ id ≤ 63 := by
  have hl : d.1.length ≤ 64 := hd.1.2
  unfold nodeAt pageAt at h
  by_cases c : 2 ≤ id ∧ id ≤ (d.1.length : Int) - 1
  · omega
  · rw [if_pos c] at h
    rw [if_pos (by simp)] at h
    simp at h
theorem visK_ok (f : Int → List Int → List Int → WkT → Int × WkT) (ks : List (List Int)) (lo hi : List Int) (hf : ∀ k a b w, okW w → okW (f k a b w).2) :
    ∀ (l : List Int) (i : Nat) (w : WkT), okW w → okW (visK f ks lo hi l i w).2
  | [], i, w, h => h
  | k :: l, i, w, h => by
    have h1 := hf k (if 0 < i then ks.getD (i - 1) [] else lo) (if i < ks.length then ks.getD i [] else hi) w h
    unfold visK
    generalize (if 0 < i then ks.getD (i - 1) [] else lo) = a0 at h1 ⊢
    generalize (if i < ks.length then ks.getD i [] else hi) = b0 at h1 ⊢
    by_cases c : (f k a0 b0 w).1 ≠ 0
    · rw [if_pos c]; exact h1
    · rw [if_neg c]; exact visK_ok f ks lo hi hf l (i + 1) _ h1
theorem vis_ok (p : List Int → Int → List Int) (hp : okP p) (d : DiskT) (hd : GoodW d 64) : ∀ (m : Nat) (id dep : Int) (lo hi : List Int) (w : WkT), okW w → okW (vis p d m id dep lo hi w).2
  | 0, id, dep, lo, hi, w, h => h
  | m + 1, id, dep, lo, hi, w, h => by
    unfold vis
    split
    · exact h
    rename_i hc
    split
    · exact h
    rename_i hn
    have hn' : (nodeAt d id).1 = 0 := Decidable.not_not.1 hn
    have hid := nodeAt_id d hd id hn'
    have hw := nodeFault_walk _ (nodeAt_ok d id hn')
    obtain ⟨p1, p2, p3⟩ := hp w.1 id h.1 (by simpa using hc)
    have hb : ∀ x ∈ p w.1 id, 2 ≤ x ∧ x ≤ 63 := fun x hx => by
      rcases p2 x hx with rfl | hx
      · exact hid
      · exact h.2.1 x hx
    have h3 := h.2.2.1
    split
    · exact h
    split
    · exact h
    split
    · unfold leafW
      split
      · exact ⟨p1, hb, by dsimp only; omega, h.2.2.2⟩
      · refine ⟨p1, hb, ?_, ?_⟩
        · have := rowsOf_len (nodeAt d id).2.1.2.1 (nodeAt d id).2.1.2.2.1
          have := hw.1
          simp only [List.length_append]
          omega
        · intro r hr
          rcases List.mem_append.1 hr with hr | hr
          · exact h.2.2.2 r hr
          · have hk := rowsOf_mem _ _ r hr
            obtain ⟨i, hi, e⟩ := List.mem_iff_getElem.1 hk
            have := (hw.2.1 i hi).2
            rw [List.getD_eq_getElem?_getD, List.getElem?_eq_getElem hi] at this
            rw [← e]
            exact this
    · exact visK_ok _ _ _ _ (fun k a b w hw => vis_ok p hp d hd m k (dep + 1) a b w hw) _ 0 _ ⟨p1, hb, by dsimp only; omega, h.2.2.2⟩
theorem okP_app : okP (fun l n => l ++ [n]) := fun l n hd hc => by
  refine ⟨?_, ?_, by simp⟩
  · rw [List.nodup_append]
    refine ⟨hd, by simp, ?_⟩
    intro a ha b hb e
    rw [List.mem_singleton] at hb
    subst hb; subst e
    simp at hc
    exact hc ha
  · intro x hx
    rcases List.mem_append.1 hx with hx | hx
    · exact .inr hx
    · exact .inl (List.mem_singleton.1 hx)
theorem okP_put : okP putI := fun l n hd hc => by
  have hn : n ∉ l := by simpa using hc
  have hp := putI_perm n l hn
  refine ⟨?_, fun x hx => putI_mem n l x hx, ?_⟩
  · exact hp.nodup_iff.2 (okP_app l n hd hc).1
  · have := hp.length_eq
    simpa [putI] using this
theorem treeP_ok (d : DiskT) (hd : GoodW d 64) (root : Int) : okW (treeP d root).2 := by
  have h0 : okW wk0 := ⟨by simp [wk0], by simp [wk0], by simp [wk0], by simp [wk0]⟩
  unfold treeP
  split
  · exact h0
  · exact vis_ok _ okP_app d hd 5 root 1 [] [] wk0 h0
theorem allg_step {α : Type} (p : α → Bool) (t : List α) (d : α) (i : Nat) (h : i < t.length) : (t.drop i).all p = (p (t.getD i d) && (t.drop (i + 1)).all p) := by
  rw [drop_cons t d i h, List.all_cons]
theorem inBd_eq (lo hi k : List Int) : inBd lo hi k = ((decide (lo.length = 0) || !decide (ordB k lo < 0)) && (decide (hi.length = 0) || !decide (0 ≤ ordB k hi))) := by
  have e := ordB_neg k lo
  unfold inBd
  rw [e]
  congr 1
  · congr 1
    rw [Bool.eq_iff_iff]
    simp
  · congr 1
    rw [Bool.eq_iff_iff]
    simp
def visF (p : List Int → Int → List Int) (d : DiskT) (dep : Int) : Int → List Int → List Int → WkT → Int × WkT := fun k a b w => vis p d (6 - (dep + 1)).toNat k (dep + 1) a b w
theorem vis_s (p : List Int → Int → List Int) (d : DiskT) (id dep : Int) (lo hi : List Int) (w : WkT) (h : 1 ≤ dep ∧ dep ≤ 5) : vis p d (6 - dep).toNat id dep lo hi w =
    if w.1.contains id = true then (8, w)
    else if (nodeAt d id).1 ≠ 0 then ((nodeAt d id).1, w)
    else if badN (nodeAt d id).2.1 dep = true then (8, w)
    else if (nodeAt d id).2.1.2.1.all (inBd lo hi) = false then (8, w)
    else if (nodeAt d id).2.1.1 = true then leafW (nodeAt d id).2.1 dep (p w.1 id, w.2.1, w.2.2.1, ())
    else visK (visF p d dep) (nodeAt d id).2.1.2.1 lo hi (nodeAt d id).2.1.2.2.2.1 0 (p w.1 id, w.2.1, w.2.2.1, ()) := by
  rw [show (6 - dep).toNat = (6 - (dep + 1)).toNat + 1 by omega]
  rfl
theorem visP_eqs (p : List Int → Int → List Int) (d : DiskT) (id dep : Int) (lo hi : List Int) (w1 : List Int) (w2 : List RowT) (w3 : Int) (nc : Int) (lf : Bool) (ks : List (List Int)) (vs kd : List Int) (h : 1 ≤ dep ∧ dep ≤ 5) (hn : nodeAt d id = (nc, (lf, ks, vs, kd, ()), ())) :
    (w1.contains id = true → vis p d (6 - dep).toNat id dep lo hi (w1, w2, w3, ()) = (8, (w1, w2, w3, ()))) ∧
    (w1.contains id = false → nc ≠ 0 → vis p d (6 - dep).toNat id dep lo hi (w1, w2, w3, ()) = (nc, (w1, w2, w3, ()))) ∧
    (w1.contains id = false → nc = 0 → (dep > 4 ∨ (dep > 1 ∧ ks.length < 2) ∨ ks.length = 0) → vis p d (6 - dep).toNat id dep lo hi (w1, w2, w3, ()) = (8, (w1, w2, w3, ()))) ∧
    (w1.contains id = false → nc = 0 → ¬ (dep > 4 ∨ (dep > 1 ∧ ks.length < 2) ∨ ks.length = 0) →
      (ks.all (inBd lo hi) = false → vis p d (6 - dep).toNat id dep lo hi (w1, w2, w3, ()) = (8, (w1, w2, w3, ()))) ∧
      (ks.all (inBd lo hi) = true → lf = true → dep ≠ deepOf dep w3 → vis p d (6 - dep).toNat id dep lo hi (w1, w2, w3, ()) = (8, (p w1 id, w2, deepOf dep w3, ()))) ∧
      (ks.all (inBd lo hi) = true → lf = true → dep = deepOf dep w3 → vis p d (6 - dep).toNat id dep lo hi (w1, w2, w3, ()) = (0, (p w1 id, w2 ++ rowsOf ks vs, deepOf dep w3, ()))) ∧
      (ks.all (inBd lo hi) = true → lf = false → vis p d (6 - dep).toNat id dep lo hi (w1, w2, w3, ()) = visK (visF p d dep) ks lo hi (kd.drop 0) 0 (p w1 id, w2, w3, ()))) := by
  have e := vis_s p d id dep lo hi (w1, w2, w3, ()) h
  rw [hn] at e
  dsimp only at e
  have hb : badN (lf, ks, vs, kd, ()) dep = decide (dep > 4 ∨ (dep > 1 ∧ ks.length < 2) ∨ ks.length = 0) := rfl
  refine ⟨fun c => ?_, fun c1 c2 => ?_, fun c1 c2 c3 => ?_, fun c1 c2 c3 => ⟨fun c4 => ?_, fun c4 c5 c6 => ?_, fun c4 c5 c6 => ?_, fun c4 c5 => ?_⟩⟩
  · rw [e, if_pos c]
  · rw [e, if_neg (by rw [c1]; decide), if_pos c2]
  · rw [e, if_neg (by rw [c1]; decide), if_neg (by omega), if_pos (by rw [hb]; simpa using c3)]
  · rw [e, if_neg (by rw [c1]; decide), if_neg (by omega), if_neg (by rw [hb]; simpa using c3), if_pos c4]
  · rw [e, if_neg (by rw [c1]; decide), if_neg (by omega), if_neg (by rw [hb]; simpa using c3), if_neg (by rw [c4]; decide), if_pos c5]
    unfold leafW
    rw [if_pos c6]
  · rw [e, if_neg (by rw [c1]; decide), if_neg (by omega), if_neg (by rw [hb]; simpa using c3), if_neg (by rw [c4]; decide), if_pos c5]
    unfold leafW
    rw [if_neg (by simpa using c6)]
  · rw [e, if_neg (by rw [c1]; decide), if_neg (by omega), if_neg (by rw [hb]; simpa using c3), if_neg (by rw [c4]; decide), if_neg (by rw [c5]; decide)]
    rfl
theorem visK_nil (f : Int → List Int → List Int → WkT → Int × WkT) (ks : List (List Int)) (lo hi : List Int) (l : List Int) (i : Nat) (w : WkT) (h : l.length ≤ i) : visK f ks lo hi (l.drop i) i w = (0, w) := by
  rw [List.drop_of_length_le h]; rfl
theorem visK_step (f : Int → List Int → List Int → WkT → Int × WkT) (ks : List (List Int)) (lo hi a b : List Int) (l : List Int) (i : Nat) (w : WkT) (h : i < l.length) (ha : a = if 0 < i then ks.getD (i - 1) [] else lo) (hb : b = if i < ks.length then ks.getD i [] else hi) :
    ((f (l.getD i 0) a b w).1 ≠ 0 → visK f ks lo hi (l.drop i) i w = f (l.getD i 0) a b w) ∧ ((f (l.getD i 0) a b w).1 = 0 → visK f ks lo hi (l.drop i) i w = visK f ks lo hi (l.drop (i + 1)) (i + 1) (f (l.getD i 0) a b w).2) := by
  subst ha hb
  rw [drop_cons l 0 i h]
  exact ⟨fun c => if_pos c, fun c => if_neg (by simpa using c)⟩
theorem visF_ok (p : List Int → Int → List Int) (hp : okP p) (d : DiskT) (hd : GoodW d 64) (dep : Int) (k : Int) (a b : List Int) (w : WkT) (h : okW w) : okW (visF p d dep k a b w).2 := vis_ok p hp d hd _ k _ a b w h
theorem okW_id (d : DiskT) (hd : GoodW d 64) (id : Int) (w1 : List Int) (w2 : List RowT) (w3 x : Int) (h : okW (w1, w2, w3, ())) (hc : w1.contains id = false) (h0 : (nodeAt d id).1 = 0) (p : List Int → Int → List Int) (hp : okP p) : okW (p w1 id, w2, x, ()) := by
  have hid := nodeAt_id d hd id h0
  obtain ⟨p1, p2, p3⟩ := hp w1 id h.1 hc
  refine ⟨p1, fun y hy => ?_, ?_, h.2.2.2⟩
  · rcases p2 y hy with rfl | hy
    · exact hid
    · exact h.2.1 y hy
  · have := h.2.2.1
    dsimp only at this ⊢
    omega


def F_i_treeWalk_visit (w : ((List (List (Int))) × (List ((Int) × (List (Int)) × Unit)) × Unit) × (List (Int)) × (List ((List (Int)) × (Int) × Unit)) × (Int) × Unit) (id : Int) (depth : Int) (low : Option (List (Int))) (high : Option (List (Int))) : Int := (visP w.1 (6 - depth).toNat id depth (low.getD []) (high.getD []) w.2).1
def B_i_treeWalk_visit_w (w : ((List (List (Int))) × (List ((Int) × (List (Int)) × Unit)) × Unit) × (List (Int)) × (List ((List (Int)) × (Int) × Unit)) × (Int) × Unit) (id : Int) (depth : Int) (low : Option (List (Int))) (high : Option (List (Int))) : ((List (List (Int))) × (List ((Int) × (List (Int)) × Unit)) × Unit) × (List (Int)) × (List ((List (Int)) × (Int) × Unit)) × (Int) × Unit := (w.1, (visP w.1 (6 - depth).toNat id depth (low.getD []) (high.getD []) w.2).2)
def Q_i_treeWalk_visit (w : ((List (List (Int))) × (List ((Int) × (List (Int)) × Unit)) × Unit) × (List (Int)) × (List ((List (Int)) × (Int) × Unit)) × (Int) × Unit) (id : Int) (depth : Int) (low : Option (List (Int))) (high : Option (List (Int))) : Prop := GoodW w.1 64 ∧ okW w.2 ∧ 1 ≤ depth ∧ depth ≤ 5 ∧ low ≠ some [] ∧ high ≠ some []
def O_i_treeWalk_visit : Opt := ⟨fun i => false, fun i => (match decide (i = 27) with | true => [true, false, true, true, true, false, false, false, false, false, false, true, false, false, false, false, false, false, false, false, false, false, false, false, false, false, false, false, false, false, false, false, false, false, false, false, false, false, false, false, false, false, false, false, false, false, false, false, false, false, false, false, false, false, false, false, false, false, false, false, false, false, false, false, false, false, false, false, false, false, false, false, false, false, false, false, false, false, false, false, false, false, false, false, false, false, false, false, false, false, false, false, false, false, false, false, false, false, false, false, false, false, false, false, false, false, false, false, false, false, false, false, false, false, false, false, false, false, false, false, false, false, false, false, false, false, false, false, false, false, false, false, false, false, false, false, false, true, true, true, false, false, false, false, false, false, false, false, false, false, false, false, false, false, false, false, false, false, false, false, false, false, false, false, false, false, false, false, false, false, false, false, false, false, false] | false => (match decide (i = 21) with | true => [true, false, false, false, false, false, false, false, false, false, false, true, false, false, false, false, false, false, false, false, false, false, false, false, false, false, false, false, false, false, false, false, false, false, false, false, false, false, false, false, false, false, false, false, false, false, false, false, false, false, false, false, false, false, false, false, false, false, false, false, false, false, false, false, false, false, false, false, false, false, false, false, false, false, false, false, false, false, false, false, false, false, false, false, false, false, false, false, false, false, false, false, false, false, false, false, false, false, false, false, false, false, false, false, false, false, false, false, false, false, false, false, true, true, true, false, false, false, false, false, false, false, false, false, false, false, false, false, false, false, false, false, false, false, false, false, false, false, false, false, false, false, false, false, false, false, false, false, false, false, false, false, false, false, false, false, false, false, false, false, false, false, false, false, false, false, false, false, false, false, false, false, false, false, false] | false => (match decide (i = 9) with | true => [true, true, true, true, true, false, false, false, false, false, false, true, false, false, false, false, false, false, false, false, false, false, false, false, false, false, false, false, false, false, false, false, false, false, false, false, false, false, false, false, false, false, false, false, false, false, false, false, false, false, false, false, false, false, false, false, false, false, false, true, true, true, false, false, false, false, false, false, false, false, false, false, false, false, false, false, false, false, false, false, false, false, false, false, false, false, false, false, false, false, false, false, false, false, false, false, false, false, false, false, false, false, false, false, false, false, false, false, false, false, false, false, false, false, false, false, false, false, false, false, false, false, false, false, false, false, false, false, false, false, false, false, false, false, false, false, false, false, false, false, false, false, false, false, false, false, false, false, false, false, false, false, false, false, false, false, false, false, false, false, false, false, false, false, false, false, false, false, false, false, false, false, false, false, false] | false => (match decide (i = 8) with | true => [true, true, true, true, true, false, false, false, false, false, false, true, false, false, false, false, false, false, false, false, false, false, false, false, false, false, false, false, false, false, false, false, false, false, false, false, false, false, false, false, false, false, false, false, false, false, false, false, false, false, false, false, false, false, false, false, false, false, false, false, false, false, false, false, false, false, false, false, false, false, false, false, false, false, false, false, false, false, false, false, false, false, false, false, false, false, false, false, false, false, false, false, false, false, false, false, false, false, false, false, false, false, false, false, false, false, false, false, false, false, false, false, false, false, false, false, false, false, false, false, false, false, false, false, false, false, false, false, false, false, false, false, false, false, false, false, false, false, false, false, false, false, false, false, false, false, false, false, false, false, false, false, false, false, false, false, false, false, false, false, false, false, false, false, false, false, false, false, false, false, false, false, false, false, false] | false => (match decide (i = 20) with | true => [true, false, false, false, false, false, false, false, false, false, false, true, false, false, false, false, false, false, false, false, false, false, false, false, false, false, false, false, false, false, false, false, false, false, false, false, false, false, false, false, false, false, false, false, false, false, false, false, false, false, false, false, false, false, false, false, false, false, false, false, false, false, false, false, false, false, false, false, false, false, false, false, false, false, false, false, false, false, false, false, false, false, false, false, false, false, false, false, false, false, false, false, false, false, false, false, false, false, false, false, false, false, false, false, false, false, false, false, false, false, false, false, false, false, false, false, false, false, false, false, false, false, false, false, false, false, false, false, false, false, false, false, false, false, false, false, false, false, false, false, false, false, false, false, false, false, false, false, false, false, false, false, false, false, false, false, false, false, false, false, false, false, false, false, false, false, false, false, false, false, false, false, false, false, false] | false => []))))), fun i => .done, fun i => none, fun i => (match decide (i = 20) with | true => true | false => (match decide (i = 8) with | true => true | false => (match decide (i = 9) with | true => true | false => (match decide (i = 27) with | true => true | false => (match decide (i = 21) with | true => true | false => false))))), fun i => (match decide (i = 27) with | true => [(11, some 1, (.sl (.int .u8)), (.np .sh))] | false => (match decide (i = 21) with | true => [(112, none, (.sl (.int .u8)), .no)] | false => [])), fun i => (match decide (i = 20) with | true => true | false => (match decide (i = 8) with | true => true | false => false)), fun i => (match decide (i = 23) with | true => some [⟨[false, false, false, false, false, false, false, false, false, false, false, false, false, false, false, false, false], 17, true, [(0, 0)], none⟩, ⟨[true, false, false, false, false, false, false, false, false, false, false, false, false, false, false, false, false], 16, true, [(1, 0)], none⟩, ⟨[true, true, false, false, false, false, false, false, false, false, false, false, false, false, false, false, false], 15, true, [(2, 0)], none⟩, ⟨[true, true, true, false, false, false, false, false, false, false, false, false, false, false, false, false, false], 14, true, [(3, 0)], none⟩, ⟨[true, true, true, true, false, false, false, false, false, false, false, false, false, false, false, false, false], 13, true, [(5, 0)], none⟩, ⟨[true, true, true, true, false, true, false, false, false, false, false, false, false, false, false, false, false], 12, true, [(6, 0)], none⟩, ⟨[true, true, true, true, false, true, true, false, false, false, false, false, false, false, false, false, false], 11, true, [(8, 0)], none⟩, ⟨[true, true, true, true, false, true, true, false, true, false, false, false, false, false, false, false, false], 10, false, [(4, 0), (7, 1)], none⟩, ⟨[true, true, true, true, true, true, true, false, true, false, false, false, false, false, false, false, false], 9, false, [(7, 1)], none⟩, ⟨[true, true, true, true, false, true, true, true, true, false, false, false, false, false, false, false, false], 9, true, [(9, 1)], none⟩, ⟨[true, true, true, true, true, true, true, true, true, false, false, false, false, false, false, false, false], 8, true, [(9, 1)], none⟩, ⟨[true, true, true, true, false, true, true, true, true, true, false, false, false, false, false, false, false], 8, false, [(4, 0), (10, 1)], none⟩, ⟨[true, true, true, true, true, true, true, true, true, true, false, false, false, false, false, false, false], 7, false, [(10, 1)], none⟩, ⟨[true, true, true, true, false, true, true, true, true, true, true, false, false, false, false, false, false], 7, true, [(11, 1)], none⟩, ⟨[true, true, true, true, true, true, true, true, true, true, true, false, false, false, false, false, false], 6, true, [(11, 1)], none⟩, ⟨[true, true, true, true, false, true, true, true, true, true, true, true, false, false, false, false, false], 6, false, [(4, 0), (12, 1)], none⟩, ⟨[true, true, true, true, true, true, true, true, true, true, true, true, false, false, false, false, false], 5, false, [(12, 1)], none⟩, ⟨[true, true, true, true, false, true, true, true, true, true, true, true, true, false, false, false, false], 5, true, [(4, 0)], none⟩, ⟨[true, true, true, true, true, true, true, true, true, true, true, true, true, false, false, false, false], 4, false, [(13, 0)], none⟩, ⟨[true, true, true, true, true, true, true, true, true, true, true, true, true, true, false, false, false], 3, true, [(14, 0)], none⟩, ⟨[true, true, true, true, true, true, true, true, true, true, true, true, true, true, true, false, false], 2, true, [(15, 0)], none⟩, ⟨[true, true, true, true, true, true, true, true, true, true, true, true, true, true, true, true, false], 1, false, [(16, 0)], none⟩, ⟨[true, true, true, true, true, true, true, true, true, true, true, true, true, true, true, true, true], 0, false, [], some [true, false, false, false, false, false, false, false, false, false, false, true, false, false, false, false, false, false, false, false, false, false, false, false, false, false, false, false, false, false, false, false, false, false, false, false, false, false, false, false, false, false, false, false, false, false, false, false, false, false, false, false, false, false, false, false, false, false, false, false, false, false, false, false, false, false, false, false, false, false, false, false, false, false, false, false, false, false, false, false, false, false, false, false, false, false, false, false, false, false, false, false, false, false, false, false, false, false, false, false, false, false, false, false, false, false, false, false, false, false, false, false, true, true, true, false, false, false, false, false, false, false, false, false, false, false, false, false, false, false, false, false, false, false, false, false, false, false, false, false, false, false, false, false, false, false, false, false, false, false, false, false, false, false, false, false, false, false, false, false, false, false, false, false, false, false, false, false, false, false, false, false, false, false, false]⟩] | false => none), fun i => none⟩
def τ_i_treeWalk_visit : Env := Env.of [(2, (.int .i64)), (3, (.int .i64)), (4, .bool), (22, (.sl (.sl (.int .u8)))), (30, (.pair (.sl (.sl (.int .u8))) (.pair (.sl (.pair (.int .i64) (.pair (.sl (.int .u8)) .unit))) .unit))), (34, (.sl (.int .u8))), (42, (.sl (.pair (.sl (.int .u8)) (.pair (.int .i64) .unit)))), (75, (.sl (.int .i64))), (90, (.pair (.sl (.int .u8)) (.pair (.int .i64) .unit))), (94, (.pair (.pair (.sl (.sl (.int .u8))) (.pair (.sl (.pair (.int .i64) (.pair (.sl (.int .u8)) .unit))) .unit)) (.pair (.sl (.int .i64)) (.pair (.sl (.pair (.sl (.int .u8)) (.pair (.int .i64) .unit))) (.pair (.int .i64) .unit))))), (156, (.pair .bool (.pair (.sl (.sl (.int .u8))) (.pair (.sl (.int .i64)) (.pair (.sl (.int .i64)) .unit)))))] [(83, (.pair (.pair (.sl (.sl (.int .u8))) (.pair (.sl (.pair (.int .i64) (.pair (.sl (.int .u8)) .unit))) .unit)) (.pair (.sl (.int .i64)) (.pair (.sl (.pair (.sl (.int .u8)) (.pair (.int .i64) .unit))) (.pair (.int .i64) .unit)))))] []

def Qr_i_treeWalk_visit (n : Nat) (w : ((List (List (Int))) × (List ((Int) × (List (Int)) × Unit)) × Unit) × (List (Int)) × (List ((List (Int)) × (Int) × Unit)) × (Int) × Unit) (id : Int) (depth : Int) (low : Option (List (Int))) (high : Option (List (Int))) : Prop := Q_i_treeWalk_visit w id depth low high ∧ ((6 - depth).toNat) < n
def conr_i_treeWalk_visit (n : Nat) : Con := ⟨true, g5 (pW (.pair (.pair (.sl (.sl (.int .u8))) (.pair (.sl (.pair (.int .i64) (.pair (.sl (.int .u8)) .unit))) .unit)) (.pair (.sl (.int .i64)) (.pair (.sl (.pair (.sl (.int .u8)) (.pair (.int .i64) .unit))) (.pair (.int .i64) .unit)))) (.pr .sh (.pr (.ow .sh) (.pr (.ow (.pr (.ow .sh) (.pr .sh .sh))) (.pr .sh .sh))))) (pD (.int .i64)) (pD (.int .i64)) (pO (.int .u8)) (pO (.int .u8)) fun w id depth low high => .one ⟨[Qr_i_treeWalk_visit n w id depth low high], [⟨(.int .i64), .sh, F_i_treeWalk_visit w id depth low high⟩], [.mp (.pair (.pair (.sl (.sl (.int .u8))) (.pair (.sl (.pair (.int .i64) (.pair (.sl (.int .u8)) .unit))) .unit)) (.pair (.sl (.int .i64)) (.pair (.sl (.pair (.sl (.int .u8)) (.pair (.int .i64) .unit))) (.pair (.int .i64) .unit)))) (.pr .sh (.pr (.ow .sh) (.pr (.ow (.pr (.ow .sh) (.pr .sh .sh))) (.pr .sh .sh)))) (B_i_treeWalk_visit_w w id depth low high)]⟩, [(.pr .sh (.pr (.ow .sh) (.pr (.ow (.pr (.ow .sh) (.pr .sh .sh))) (.pr .sh .sh))))], true, 0⟩
theorem ctc_i_treeWalk_visit_nn (n : Nat) (okr : ConOk pg 130 (conr_i_treeWalk_visit n)) (w : ((List (List (Int))) × (List ((Int) × (List (Int)) × Unit)) × Unit) × (List (Int)) × (List ((List (Int)) × (Int) × Unit)) × (Int) × Unit) (id : Int) (depth : Int) : Ct pg 130 [.mp (.pair (.pair (.sl (.sl (.int .u8))) (.pair (.sl (.pair (.int .i64) (.pair (.sl (.int .u8)) .unit))) .unit)) (.pair (.sl (.int .i64)) (.pair (.sl (.pair (.sl (.int .u8)) (.pair (.int .i64) .unit))) (.pair (.int .i64) .unit)))) (.pr .sh (.pr (.ow .sh) (.pr (.ow (.pr (.ow .sh) (.pr .sh .sh))) (.pr .sh .sh)))) w, .dat (.int .i64) id, .dat (.int .i64) depth, .nilS, .nilS] ⟨[Qr_i_treeWalk_visit (n + 1) w id depth none none], [⟨(.int .i64), .sh, F_i_treeWalk_visit w id depth none none⟩], [.mp (.pair (.pair (.sl (.sl (.int .u8))) (.pair (.sl (.pair (.int .i64) (.pair (.sl (.int .u8)) .unit))) .unit)) (.pair (.sl (.int .i64)) (.pair (.sl (.pair (.sl (.int .u8)) (.pair (.int .i64) .unit))) (.pair (.int .i64) .unit)))) (.pr .sh (.pr (.ow .sh) (.pr (.ow (.pr (.ow .sh) (.pr .sh .sh))) (.pr .sh .sh)))) (B_i_treeWalk_visit_w w id depth none none)]⟩ := by
  refine ct_claim (O := O_i_treeWalk_visit) (τ := τ_i_treeWalk_visit) (EnvOk.of (by kernel_rfl) (by kernel_rfl)) (GOk.of (.cons ok_b_Compare (.cons ok_sl_Contains_int64 (.cons ok_i_Disk_nodeAt (.cons okr .nil))) : AllOk pg [(68, con_b_Compare), (136, con_sl_Contains_int64), (137, con_i_Disk_nodeAt), (130, conr_i_treeWalk_visit n)])) mixed (Enters.of (by kernel_rfl)) (fn := Go.Proofs.Try.f130) (by kernel_rfl) rfl (by kernel_rfl) ?_
  intro hp hw
  clear okr
  have hq : (Qr_i_treeWalk_visit (n + 1)) w id depth none none := hp _ (List.mem_singleton.2 rfl)
  clear hp
  change claim Lg.std Alg.std τ_i_treeWalk_visit (Gam.of [(68, con_b_Compare), (136, con_sl_Contains_int64), (137, con_i_Disk_nodeAt), (130, conr_i_treeWalk_visit n)]) O_i_treeWalk_visit Go.Proofs.Try.f130 [.mp (.pair (.pair (.sl (.sl (.int .u8))) (.pair (.sl (.pair (.int .i64) (.pair (.sl (.int .u8)) .unit))) .unit)) (.pair (.sl (.int .i64)) (.pair (.sl (.pair (.sl (.int .u8)) (.pair (.int .i64) .unit))) (.pair (.int .i64) .unit)))) (.pr .sh (.pr (.ow .sh) (.pr (.ow (.pr (.ow .sh) (.pr .sh .sh))) (.pr .sh .sh)))) w, .dat (.int .i64) id, .dat (.int .i64) depth, .nilS, .nilS] ⟨[Qr_i_treeWalk_visit (n + 1) w id depth none none], [⟨(.int .i64), .sh, F_i_treeWalk_visit w id depth none none⟩], [.mp (.pair (.pair (.sl (.sl (.int .u8))) (.pair (.sl (.pair (.int .i64) (.pair (.sl (.int .u8)) .unit))) .unit)) (.pair (.sl (.int .i64)) (.pair (.sl (.pair (.sl (.int .u8)) (.pair (.int .i64) .unit))) (.pair (.int .i64) .unit)))) (.pr .sh (.pr (.ow .sh) (.pr (.ow (.pr (.ow .sh) (.pr .sh .sh))) (.pr .sh .sh)))) (B_i_treeWalk_visit_w w id depth none none)]⟩
  delta con_b_Compare con_sl_Contains_int64 con_i_Disk_nodeAt conr_i_treeWalk_visit
  generalize hR0 : F_i_treeWalk_visit w id depth none none = R0
  generalize hB_w : B_i_treeWalk_visit_w w id depth none none = B_w
  generalize (Qr_i_treeWalk_visit (n + 1)) w id depth none none = Q0
  generalize hg_F_b_Compare : F_b_Compare = g_F_b_Compare
  generalize hg_Q_b_Compare : Q_b_Compare = g_Q_b_Compare
  generalize hg_F_sl_Contains_int64 : F_sl_Contains_int64 = g_F_sl_Contains_int64
  generalize hg_Q_sl_Contains_int64 : Q_sl_Contains_int64 = g_Q_sl_Contains_int64
  generalize hg_F_i_Disk_nodeAt : F_i_Disk_nodeAt = g_F_i_Disk_nodeAt
  generalize hg_F_i_Disk_nodeAt_1 : F_i_Disk_nodeAt_1 = g_F_i_Disk_nodeAt_1
  generalize hg_Q_i_Disk_nodeAt : Q_i_Disk_nodeAt = g_Q_i_Disk_nodeAt
  generalize hg_F_i_treeWalk_visit : F_i_treeWalk_visit = g_F_i_treeWalk_visit
  generalize hg_B_i_treeWalk_visit_w : B_i_treeWalk_visit_w = g_B_i_treeWalk_visit_w
  generalize hg_Qr_i_treeWalk_visit : Qr_i_treeWalk_visit n = g_Qr_i_treeWalk_visit
  generalize hL : Lg.std = L
  generalize hA : Alg.std = A
  cbv
  subst hL hA
  try dsimp only [Ty.den]
  obtain ⟨⟨w_0_0, w_0_1, ⟨⟩⟩, w_1, w_2, w_3, ⟨⟩⟩ := w
  simp only [Qr_i_treeWalk_visit, Q_i_treeWalk_visit] at hq
  obtain ⟨⟨hg, hok, hd1, hd2, hlo, hhi⟩, hms⟩ := hq
  cases hn : nodeAt (w_0_0, w_0_1, PUnit.unit) id with
  | mk nc nd =>
  obtain ⟨⟨lf, ks, vs, kd, ⟨⟩⟩, ⟨⟩⟩ := nd
  have hV := visP_eqs (fun l n => l ++ [n]) (w_0_0, w_0_1, PUnit.unit) id depth ([] : List Int) ([] : List Int) w_1 w_2 w_3 nc lf ks vs kd ⟨hd1, hd2⟩ hn
  obtain ⟨hV1, hV2, hV3, hV4⟩ := hV
  clear hw
  have hW := fun (h : nc = 0) => nodeFault_walk (lf, ks, vs, kd, PUnit.unit) (by have := nodeAt_ok (w_0_0, w_0_1, PUnit.unit) id (by rw [hn]; exact h); rw [hn] at this; exact this)
  dsimp only at hW
  have hlen := okW_len (w_1, w_2, w_3, PUnit.unit) hok
  dsimp only at hlen
  have hO := fun (hc : w_1.contains id = false) (h0 : nc = 0) x => okW_id (w_0_0, w_0_1, PUnit.unit) hg id w_1 w_2 w_3 x hok hc (by rw [hn]; exact h0) (fun l n => l ++ [n]) okP_app
  try dsimp only at hO
  have hlo' : ([] : List Int) = [] ∨ ([] : List Int).length ≠ 0 := by first | exact .inl rfl | (right; simpa using hlo)
  have hhi' : ([] : List Int) = [] ∨ ([] : List Int).length ≠ 0 := by first | exact .inl rfl | (right; simpa using hhi)
  repeat' (first | intro _ | apply And.intro)
  all_goals first | trivial | (simp only [Alg.std]; omega) | ((fail_if_success (refine lp_v (V := Unit) (fun _ => ⟨[], []⟩) (fun _ => True) (fun _ => 0) () ?_ ?_ ?_)); subst hR0 hB_w hg_F_b_Compare hg_Q_b_Compare hg_F_sl_Contains_int64 hg_Q_sl_Contains_int64 hg_F_i_Disk_nodeAt hg_F_i_Disk_nodeAt_1 hg_Q_i_Disk_nodeAt hg_F_i_treeWalk_visit hg_B_i_treeWalk_visit_w hg_Qr_i_treeWalk_visit; (try simp only [Alg.std, F_b_Compare, F_sl_Contains_int64, F_i_Disk_nodeAt, F_i_Disk_nodeAt_1, Q_b_Compare, Q_sl_Contains_int64, Q_i_Disk_nodeAt, F_i_treeWalk_visit, B_i_treeWalk_visit_w, Qr_i_treeWalk_visit, Q_i_treeWalk_visit] at *); (try simp only [visP, Option.getD_none, Option.getD_some, hn] at *); all_goals grind) | skip
  all_goals (
    refine lp_v (V := (Nat) × (Nat) × (Nat) × (Nat) × (Nat) × (Bool) × (List (List Int)) × (List Int) × (List Int)) (fun ((N, N1, N2, N4, N5, F, K, V, G) : (Nat) × (Nat) × (Nat) × (Nat) × (Nat) × (Bool) × (List (List Int)) × (List Int) × (List Int)) => ⟨[.bptr 0 0, .dat (.int .i64) id, .dat (.int .i64) depth, .nilS, .nilS, Jk, Jk, Jk, Jk, Jk, Jk, .bptr 3 0, Jk, Jk, Jk, Jk, Jk, Jk, Jk, Jk, Jk, Jk, Jk, Jk, Jk, Jk, Jk, Jk, Jk, Jk, Jk, Jk, Jk, Jk, Jk, Jk, Jk, Jk, Jk, Jk, Jk, Jk, Jk, Jk, Jk, Jk, Jk, Jk, Jk, Jk, Jk, Jk, Jk, Jk, Jk, Jk, Jk, Jk, Jk, Jk, Jk, Jk, Jk, Jk, Jk, Jk, Jk, Jk, Jk, Jk, Jk, Jk, Jk, Jk, Jk, Jk, Jk, Jk, Jk, Jk, Jk, Jk, Jk, Jk, Jk, Jk, Jk, Jk, Jk, Jk, Jk, Jk, Jk, Jk, Jk, Jk, Jk, Jk, Jk, Jk, Jk, Jk, Jk, Jk, Jk, Jk, Jk, Jk, Jk, Jk, Jk, Jk, Jk, Jk, Jk, Jk, Jk, Jk, Jk, Jk, Jk, Jk, Jk, Jk, Jk, Jk, Jk, Jk, Jk, Jk, Jk, Jk, Jk, Jk, Jk, Jk, Jk, Jk, Jk, Jk, Jk, Jk, Jk, Jk, Jk, Jk, Jk, Jk, Jk, Jk, Jk, Jk, Jk, Jk, Jk, Jk, Jk, Jk, Jk, Jk, Jk, Jk, Jk, Jk, Jk, Jk, Jk, Jk, Jk, Jk, Jk, Jk, Jk, Jk, Jk], [some (.box [.dat (.sl (.sl (.int .u8))) w_0_0, .dat (.sl (.pair (.int .i64) (.pair (.sl (.int .u8)) .unit))) w_0_1, .ref (.int .i64) 1 0 [] 0 N1, .ref (.pair (.sl (.int .u8)) (.pair (.int .i64) .unit)) 2 0 [] 0 N2, .dat (.int .i64) w_3]), some (.row 0 (.int .i64) .sh w_1), some (.row 0 (.pair (.sl (.int .u8)) (.pair (.int .i64) .unit)) (.pr (.ow .sh) (.pr .sh .sh)) w_2), some (.box [.dat .bool F, .ref (.sl (.int .u8)) 4 0 [] 0 N, .ref (.int .i64) 5 0 [] 0 N4, .ref (.int .i64) 6 0 [] 0 N5]), some (.row 0 (.sl (.int .u8)) (.ow .sh) K), some (.row 0 (.int .i64) .sh V), some (.row 0 (.int .i64) .sh G), some (.gh [.bptr 0 0])]⟩) (fun ((N, N1, N2, N4, N5, F, K, V, G) : (Nat) × (Nat) × (Nat) × (Nat) × (Nat) × (Bool) × (List (List Int)) × (List Int) × (List Int)) => nc = 0 ∧ w_1.contains id = false ∧ ¬ (depth > 4 ∨ (depth > 1 ∧ ks.length < 2) ∨ ks.length = 0) ∧ N = ks.length ∧ N1 = w_1.length ∧ N2 = w_2.length ∧ N4 = vs.length ∧ N5 = kd.length ∧ F = lf ∧ K = ks ∧ V = vs ∧ G = kd) (fun ((N, N1, N2, N4, N5, F, K, V, G) : (Nat) × (Nat) × (Nat) × (Nat) × (Nat) × (Bool) × (List (List Int)) × (List Int) × (List Int)) => 0) (_, _, _, _, _, _, _, _, _) rfl ?_ ?_
    · subst hR0 hB_w hg_F_b_Compare hg_Q_b_Compare hg_F_sl_Contains_int64 hg_Q_sl_Contains_int64 hg_F_i_Disk_nodeAt hg_F_i_Disk_nodeAt_1 hg_Q_i_Disk_nodeAt hg_F_i_treeWalk_visit hg_B_i_treeWalk_visit_w hg_Qr_i_treeWalk_visit
      (try simp only [Alg.std, List.drop_zero, List.take_length, List.take_succ_cons, List.take_zero, F_b_Compare, F_sl_Contains_int64, F_i_Disk_nodeAt, F_i_Disk_nodeAt_1, Q_b_Compare, Q_sl_Contains_int64, Q_i_Disk_nodeAt, F_i_treeWalk_visit, B_i_treeWalk_visit_w, Qr_i_treeWalk_visit, Q_i_treeWalk_visit] at *)
      (try simp only [visP, Option.getD_none, Option.getD_some, hn] at *); 
      grind
    rintro ⟨N, N1, N2, N4, N5, F, K, V, G⟩ hf I hI
    replace hf : nc = 0 ∧ w_1.contains id = false ∧ ¬ (depth > 4 ∨ (depth > 1 ∧ ks.length < 2) ∨ ks.length = 0) ∧ N = ks.length ∧ N1 = w_1.length ∧ N2 = w_2.length ∧ N4 = vs.length ∧ N5 = kd.length ∧ F = lf ∧ K = ks ∧ V = vs ∧ G = kd := hf
    generalize hL : Lg.std = L
    generalize hA : Alg.std = A
    cbv
    subst hL hA
    try dsimp only [Ty.den]
    subst hI
    obtain ⟨h1, h2, h3, h4, h5, h6, h7, h8, h9, h10, h11, h12⟩ := hf
    repeat' (first | intro _ | apply And.intro)
    all_goals first | (with_reducible exact True.intro) | (with_reducible assumption) | (simp only [Alg.std]; omega) | ((fail_if_success (refine lp_v (V := Unit) (fun _ => ⟨[], []⟩) (fun _ => True) (fun _ => 0) () ?_ ?_ ?_)); (try simp only [Lg.std, Alg.std, List.drop_zero, List.take_length] at *); (try refine ⟨(_, _, _, _, _, _, _, _, _), rfl, ?_, ?_⟩); (all_goals (subst hR0 hB_w hg_F_b_Compare hg_Q_b_Compare hg_F_sl_Contains_int64 hg_Q_sl_Contains_int64 hg_F_i_Disk_nodeAt hg_F_i_Disk_nodeAt_1 hg_Q_i_Disk_nodeAt hg_F_i_treeWalk_visit hg_B_i_treeWalk_visit_w hg_Qr_i_treeWalk_visit; (try simp only [Lg.std, Alg.std, List.drop_zero, List.take_length, F_b_Compare, F_sl_Contains_int64, F_i_Disk_nodeAt, F_i_Disk_nodeAt_1, Q_b_Compare, Q_sl_Contains_int64, Q_i_Disk_nodeAt, F_i_treeWalk_visit, B_i_treeWalk_visit_w, Qr_i_treeWalk_visit, Q_i_treeWalk_visit] at *); first | done | ((try simp only [visP, Option.getD_none, Option.getD_some, hn] at *); grind)))) | skip
    all_goals (
      refine lp_v (V := (Int) × (Int) × (Nat) × (Nat) × (Nat) × (Nat) × (Nat) × (Bool) × (List (List Int)) × (List Int) × (List Int)) (fun ((i, M, N, N1, N2, N4, N5, F, K, V, G) : (Int) × (Int) × (Nat) × (Nat) × (Nat) × (Nat) × (Nat) × (Bool) × (List (List Int)) × (List Int) × (List Int)) => ⟨[.bptr 0 0, .dat (.int .i64) id, .dat (.int .i64) depth, .nilS, .nilS, Jk, Jk, Jk, Jk, Jk, Jk, .bptr 3 0, Jk, Jk, Jk, Jk, Jk, Jk, Jk, Jk, Jk, Jk, Jk, Jk, Jk, Jk, Jk, Jk, Jk, Jk, Jk, Jk, Jk, Jk, Jk, Jk, Jk, Jk, Jk, Jk, Jk, Jk, Jk, Jk, Jk, Jk, Jk, Jk, Jk, Jk, Jk, Jk, Jk, Jk, Jk, Jk, Jk, Jk, Jk, .ref (.sl (.int .u8)) 4 0 [] 0 N, .dat (.int .i64) M, .dat (.int .i64) i, Jk, Jk, Jk, Jk, Jk, Jk, Jk, Jk, Jk, Jk, Jk, Jk, Jk, Jk, Jk, Jk, Jk, Jk, Jk, Jk, Jk, Jk, Jk, Jk, Jk, Jk, Jk, Jk, Jk, Jk, Jk, Jk, Jk, Jk, Jk, Jk, Jk, Jk, Jk, Jk, Jk, Jk, Jk, Jk, Jk, Jk, Jk, Jk, Jk, Jk, Jk, Jk, Jk, Jk, Jk, Jk, Jk, Jk, Jk, Jk, Jk, Jk, Jk, Jk, Jk, Jk, Jk, Jk, Jk, Jk, Jk, Jk, Jk, Jk, Jk, Jk, Jk, Jk, Jk, Jk, Jk, Jk, Jk, Jk, Jk, Jk, Jk, Jk, Jk, Jk, Jk, Jk, Jk, Jk, Jk, Jk, Jk, Jk, Jk, Jk, Jk, Jk, Jk, Jk, Jk, Jk, Jk, Jk, Jk, Jk, Jk, Jk, Jk], [some (.box [.dat (.sl (.sl (.int .u8))) w_0_0, .dat (.sl (.pair (.int .i64) (.pair (.sl (.int .u8)) .unit))) w_0_1, .ref (.int .i64) 1 0 [] 0 N1, .ref (.pair (.sl (.int .u8)) (.pair (.int .i64) .unit)) 2 0 [] 0 N2, .dat (.int .i64) w_3]), some (.row 0 (.int .i64) .sh w_1), some (.row 0 (.pair (.sl (.int .u8)) (.pair (.int .i64) .unit)) (.pr (.ow .sh) (.pr .sh .sh)) w_2), some (.box [.dat .bool F, .ref (.sl (.int .u8)) 4 0 [] 0 N, .ref (.int .i64) 5 0 [] 0 N4, .ref (.int .i64) 6 0 [] 0 N5]), some (.row 0 (.sl (.int .u8)) (.ow .sh) K), some (.row 0 (.int .i64) .sh V), some (.row 0 (.int .i64) .sh G), some (.gh [.bptr 0 0])]⟩) (fun ((i, M, N, N1, N2, N4, N5, F, K, V, G) : (Int) × (Int) × (Nat) × (Nat) × (Nat) × (Nat) × (Nat) × (Bool) × (List (List Int)) × (List Int) × (List Int)) => nc = 0 ∧ w_1.contains id = false ∧ ¬ (depth > 4 ∨ (depth > 1 ∧ ks.length < 2) ∨ ks.length = 0) ∧ M = ks.length ∧ N = ks.length ∧ N1 = w_1.length ∧ N2 = w_2.length ∧ N4 = vs.length ∧ N5 = kd.length ∧ F = lf ∧ K = ks ∧ V = vs ∧ G = kd ∧ 0 ≤ i ∧ i ≤ ks.length ∧ ks.all (inBd ([] : List Int) ([] : List Int)) = (ks.drop i.toNat).all (inBd ([] : List Int) ([] : List Int))) (fun ((i, M, N, N1, N2, N4, N5, F, K, V, G) : (Int) × (Int) × (Nat) × (Nat) × (Nat) × (Nat) × (Nat) × (Bool) × (List (List Int)) × (List Int) × (List Int)) => ks.length - i.toNat) (0, _, _, _, _, _, _, _, _, _, _) rfl ?_ ?_
      · subst hR0 hB_w hg_F_b_Compare hg_Q_b_Compare hg_F_sl_Contains_int64 hg_Q_sl_Contains_int64 hg_F_i_Disk_nodeAt hg_F_i_Disk_nodeAt_1 hg_Q_i_Disk_nodeAt hg_F_i_treeWalk_visit hg_B_i_treeWalk_visit_w hg_Qr_i_treeWalk_visit
        (try simp only [Alg.std, List.drop_zero, List.take_length, List.take_succ_cons, List.take_zero, F_b_Compare, F_sl_Contains_int64, F_i_Disk_nodeAt, F_i_Disk_nodeAt_1, Q_b_Compare, Q_sl_Contains_int64, Q_i_Disk_nodeAt, F_i_treeWalk_visit, B_i_treeWalk_visit_w, Qr_i_treeWalk_visit, Q_i_treeWalk_visit] at *)
        (try simp only [visP, Option.getD_none, Option.getD_some, hn] at *); 
        grind
      rintro ⟨i, M, N, N1, N2, N4, N5, F, K, V, G⟩ hf I hI
      replace hf : nc = 0 ∧ w_1.contains id = false ∧ ¬ (depth > 4 ∨ (depth > 1 ∧ ks.length < 2) ∨ ks.length = 0) ∧ M = ks.length ∧ N = ks.length ∧ N1 = w_1.length ∧ N2 = w_2.length ∧ N4 = vs.length ∧ N5 = kd.length ∧ F = lf ∧ K = ks ∧ V = vs ∧ G = kd ∧ 0 ≤ i ∧ i ≤ ks.length ∧ ks.all (inBd ([] : List Int) ([] : List Int)) = (ks.drop i.toNat).all (inBd ([] : List Int) ([] : List Int)) := hf
      generalize hL : Lg.std = L
      generalize hA : Alg.std = A
      cbv
      subst hL hA
      try dsimp only [Ty.den]
      subst hI
      obtain ⟨h1, h2, h3, h4, h5, h6, h7, h8, h9, h10, h11, h12, h13, h14, h15, h16⟩ := hf
      have htk : List.take N K = ks := by rw [h11, h5, List.take_length]
      have hst := fun (h : i.toNat < ks.length) => allg_step (inBd ([] : List Int) ([] : List Int)) ks ([] : List Int) i.toNat h
      have hie := inBd_eq ([] : List Int) ([] : List Int) (ks.getD i.toNat [])
      have hid := fun (h : ks.length ≤ i.toNat) => List.drop_of_length_le h
      have hsu : (i + 1).toNat = i.toNat + 1 := by omega
      have hW21 := hW (by assumption)
      repeat' (first | intro _ | apply And.intro)
      all_goals first | (with_reducible exact True.intro) | (with_reducible assumption) | (simp only [Alg.std]; omega) | ((fail_if_success (refine lp_v (V := Unit) (fun _ => ⟨[], []⟩) (fun _ => True) (fun _ => 0) () ?_ ?_ ?_)); (try simp only [Lg.std, Alg.std, List.drop_zero, List.take_length] at *); (try refine ⟨(_, _, _, _, _, _, _, _, _, _, _), rfl, ?_, ?_⟩); (all_goals (subst hR0 hB_w hg_F_b_Compare hg_Q_b_Compare hg_F_sl_Contains_int64 hg_Q_sl_Contains_int64 hg_F_i_Disk_nodeAt hg_F_i_Disk_nodeAt_1 hg_Q_i_Disk_nodeAt hg_F_i_treeWalk_visit hg_B_i_treeWalk_visit_w hg_Qr_i_treeWalk_visit; (try simp only [Lg.std, Alg.std, List.drop_zero, List.take_length, F_b_Compare, F_sl_Contains_int64, F_i_Disk_nodeAt, F_i_Disk_nodeAt_1, Q_b_Compare, Q_sl_Contains_int64, Q_i_Disk_nodeAt, F_i_treeWalk_visit, B_i_treeWalk_visit_w, Qr_i_treeWalk_visit, Q_i_treeWalk_visit] at *); first | done | ((try simp only [visP, Option.getD_none, Option.getD_some, hn] at *); grind [deepOf])))) | skip
      all_goals first
        | (
          refine lp_v (V := (Int) × (Int) × (Nat) × (Nat) × (Nat) × (Nat) × (Bool) × (List (List Int)) × (List Int) × (List Int) × (List Int) × (List RowT) × (Int) × (List (List Int)) × (List PutT)) (fun ((j, M, N1, N2, N4, N5, F, K, V, G, P, R, dp, D0, D1) : (Int) × (Int) × (Nat) × (Nat) × (Nat) × (Nat) × (Bool) × (List (List Int)) × (List Int) × (List Int) × (List Int) × (List RowT) × (Int) × (List (List Int)) × (List PutT)) => ⟨[.bptr 0 0, Jk, .dat (.int .i64) depth, .nilS, .nilS, Jk, Jk, Jk, Jk, Jk, Jk, .bptr 3 0, Jk, Jk, Jk, Jk, Jk, Jk, Jk, Jk, Jk, Jk, Jk, Jk, Jk, Jk, Jk, Jk, Jk, Jk, Jk, Jk, Jk, Jk, Jk, Jk, Jk, Jk, Jk, Jk, Jk, Jk, Jk, Jk, Jk, Jk, Jk, Jk, Jk, Jk, Jk, Jk, Jk, Jk, Jk, Jk, Jk, Jk, Jk, Jk, Jk, Jk, Jk, Jk, Jk, Jk, Jk, Jk, Jk, Jk, Jk, Jk, Jk, Jk, Jk, Jk, Jk, Jk, Jk, Jk, Jk, Jk, Jk, Jk, Jk, Jk, Jk, Jk, Jk, Jk, Jk, Jk, Jk, Jk, Jk, Jk, Jk, Jk, Jk, Jk, Jk, Jk, Jk, Jk, Jk, Jk, Jk, Jk, Jk, Jk, Jk, Jk, Jk, Jk, Jk, Jk, Jk, Jk, Jk, Jk, Jk, Jk, Jk, Jk, Jk, Jk, Jk, Jk, Jk, Jk, Jk, Jk, Jk, Jk, Jk, Jk, Jk, .ref (.int .i64) 5 0 [] 0 N5, .dat (.int .i64) M, .dat (.int .i64) j, Jk, Jk, Jk, Jk, Jk, Jk, Jk, Jk, Jk, Jk, Jk, Jk, Jk, Jk, Jk, Jk, Jk, Jk, Jk, Jk, Jk, Jk, Jk, Jk, Jk, Jk, Jk, Jk, Jk, Jk, Jk, Jk, Jk, Jk, Jk], [some (.box [.dat (.sl (.sl (.int .u8))) D0, .dat (.sl (.pair (.int .i64) (.pair (.sl (.int .u8)) .unit))) D1, .ref (.int .i64) 1 0 [] 0 N1, .ref (.pair (.sl (.int .u8)) (.pair (.int .i64) .unit)) 2 0 [] 0 N2, .dat (.int .i64) dp]), some (.row 0 (.int .i64) .sh P), some (.row 0 (.pair (.sl (.int .u8)) (.pair (.int .i64) .unit)) (.pr (.ow .sh) (.pr .sh .sh)) R), some (.box [.dat .bool F, .dat (.sl (.sl (.int .u8))) K, .ref (.int .i64) 4 0 [] 0 N4, .ref (.int .i64) 5 0 [] 0 N5]), some (.row 0 (.int .i64) .sh V), some (.row 0 (.int .i64) .sh G), some (.gh [.bptr 0 0])]⟩) (fun ((j, M, N1, N2, N4, N5, F, K, V, G, P, R, dp, D0, D1) : (Int) × (Int) × (Nat) × (Nat) × (Nat) × (Nat) × (Bool) × (List (List Int)) × (List Int) × (List Int) × (List Int) × (List RowT) × (Int) × (List (List Int)) × (List PutT)) => D0 = w_0_0 ∧ D1 = w_0_1 ∧ okW (P, R, dp, PUnit.unit) ∧ lf = false ∧ M = kd.length ∧ N1 = P.length ∧ N2 = R.length ∧ N5 = kd.length ∧ K = ks ∧ G = kd ∧ 0 ≤ j ∧ j ≤ kd.length ∧ vis (fun l n => l ++ [n]) (w_0_0, w_0_1, PUnit.unit) (6 - depth).toNat id depth ([] : List Int) ([] : List Int) (w_1, w_2, w_3, PUnit.unit) = visK (visF (fun l n => l ++ [n]) (w_0_0, w_0_1, PUnit.unit) depth) ks ([] : List Int) ([] : List Int) (kd.drop j.toNat) j.toNat (P, R, dp, PUnit.unit)) (fun ((j, M, N1, N2, N4, N5, F, K, V, G, P, R, dp, D0, D1) : (Int) × (Int) × (Nat) × (Nat) × (Nat) × (Nat) × (Bool) × (List (List Int)) × (List Int) × (List Int) × (List Int) × (List RowT) × (Int) × (List (List Int)) × (List PutT)) => kd.length - j.toNat) (0, _, _, _, _, _, _, _, _, _, _, _, _, _, _) rfl ?_ ?_
          · subst hR0 hB_w hg_F_b_Compare hg_Q_b_Compare hg_F_sl_Contains_int64 hg_Q_sl_Contains_int64 hg_F_i_Disk_nodeAt hg_F_i_Disk_nodeAt_1 hg_Q_i_Disk_nodeAt hg_F_i_treeWalk_visit hg_B_i_treeWalk_visit_w hg_Qr_i_treeWalk_visit
            (try simp only [Alg.std, List.drop_zero, List.take_length, List.take_succ_cons, List.take_zero, F_b_Compare, F_sl_Contains_int64, F_i_Disk_nodeAt, F_i_Disk_nodeAt_1, Q_b_Compare, Q_sl_Contains_int64, Q_i_Disk_nodeAt, F_i_treeWalk_visit, B_i_treeWalk_visit_w, Qr_i_treeWalk_visit, Q_i_treeWalk_visit] at *)
            (try simp only [visP, Option.getD_none, Option.getD_some, hn] at *); 
            grind
          rintro ⟨j, M, N1, N2, N4, N5, F, K, V, G, P, R, dp, D0, D1⟩ hf I hI
          replace hf : D0 = w_0_0 ∧ D1 = w_0_1 ∧ okW (P, R, dp, PUnit.unit) ∧ lf = false ∧ M = kd.length ∧ N1 = P.length ∧ N2 = R.length ∧ N5 = kd.length ∧ K = ks ∧ G = kd ∧ 0 ≤ j ∧ j ≤ kd.length ∧ vis (fun l n => l ++ [n]) (w_0_0, w_0_1, PUnit.unit) (6 - depth).toNat id depth ([] : List Int) ([] : List Int) (w_1, w_2, w_3, PUnit.unit) = visK (visF (fun l n => l ++ [n]) (w_0_0, w_0_1, PUnit.unit) depth) ks ([] : List Int) ([] : List Int) (kd.drop j.toNat) j.toNat (P, R, dp, PUnit.unit) := hf
          generalize hL : Lg.std = L
          generalize hA : Alg.std = A
          cbv
          subst hL hA
          try dsimp only [Ty.den]
          subst hI
          obtain ⟨h1, h2, h3, h4, h5, h6, h7, h8, h9, h10, h11, h12, h13⟩ := hf
          clear hV1 hV2 hV3 hV4 hO hst hie hid hsu htk hlen hlo' hhi' hW21
          have hl27 := okW_len (P, R, dp, PUnit.unit) h3
          dsimp only at hl27
          have hsu : (j + 1).toNat = j.toNat + 1 := by omega
          have hsp : (j - 1).toNat = j.toNat - 1 := by omega
          have hid := fun (h : kd.length ≤ j.toNat) => visK_nil (visF (fun l n => l ++ [n]) (w_0_0, w_0_1, PUnit.unit) depth) ks ([] : List Int) ([] : List Int) kd j.toNat (P, R, dp, PUnit.unit) h
          have hst := fun (h : j.toNat < kd.length) (a b : List Int) (ha : a = if 0 < j.toNat then ks.getD (j.toNat - 1) [] else ([] : List Int)) (hb : b = if j.toNat < ks.length then ks.getD j.toNat [] else ([] : List Int)) => visK_step (visF (fun l n => l ++ [n]) (w_0_0, w_0_1, PUnit.unit) depth) ks ([] : List Int) ([] : List Int) a b kd j.toNat (P, R, dp, PUnit.unit) h ha hb
          have hfo := fun a b => visF_ok (fun l n => l ++ [n]) okP_app (w_0_0, w_0_1, PUnit.unit) hg depth (kd.getD j.toNat 0) a b (P, R, dp, PUnit.unit) h3
          have hkl := fun (h : j.toNat < ks.length) => ((hW (by assumption)).2.1 j.toNat h)
          have hkl1 := fun (h : j.toNat - 1 < ks.length) => ((hW (by assumption)).2.1 (j.toNat - 1) h)
          simp only [visF] at *
          repeat' (first | intro _ | apply And.intro)
          all_goals first | (with_reducible exact True.intro) | (with_reducible assumption) | (simp only [Alg.std]; omega) | ((fail_if_success (refine lp_v (V := Unit) (fun _ => ⟨[], []⟩) (fun _ => True) (fun _ => 0) () ?_ ?_ ?_)); (try simp only [Lg.std, Alg.std, List.drop_zero, List.take_length] at *); (try refine ⟨(_, _, _, _, _, _, _, _, _, _, _, _, _, _, _), rfl, ?_, ?_⟩); (all_goals (subst hR0 hB_w hg_F_b_Compare hg_Q_b_Compare hg_F_sl_Contains_int64 hg_Q_sl_Contains_int64 hg_F_i_Disk_nodeAt hg_F_i_Disk_nodeAt_1 hg_Q_i_Disk_nodeAt hg_F_i_treeWalk_visit hg_B_i_treeWalk_visit_w hg_Qr_i_treeWalk_visit; (try simp only [Lg.std, Alg.std, List.drop_zero, List.take_length, F_b_Compare, F_sl_Contains_int64, F_i_Disk_nodeAt, F_i_Disk_nodeAt_1, Q_b_Compare, Q_sl_Contains_int64, Q_i_Disk_nodeAt, F_i_treeWalk_visit, B_i_treeWalk_visit_w, Qr_i_treeWalk_visit, Q_i_treeWalk_visit] at *); first | done | ((try simp only [visP, Option.getD_none, Option.getD_some, hn] at *); grind)))) | skip)
        | (
          refine lp_v (V := (Nat) × (Nat) × (Nat) × (Nat) × (Nat) × (Bool) × (List (List Int)) × (List Int) × (List Int) × (List Int) × (Int)) (fun ((N, N1, N2, N4, N5, F, K, V, G, P, dp) : (Nat) × (Nat) × (Nat) × (Nat) × (Nat) × (Bool) × (List (List Int)) × (List Int) × (List Int) × (List Int) × (Int)) => ⟨[.bptr 0 0, Jk, Jk, Jk, Jk, Jk, Jk, Jk, Jk, Jk, Jk, .bptr 3 0, Jk, Jk, Jk, Jk, Jk, Jk, Jk, Jk, Jk, Jk, Jk, Jk, Jk, Jk, Jk, Jk, Jk, Jk, Jk, Jk, Jk, Jk, Jk, Jk, Jk, Jk, Jk, Jk, Jk, Jk, Jk, Jk, Jk, Jk, Jk, Jk, Jk, Jk, Jk, Jk, Jk, Jk, Jk, Jk, Jk, Jk, Jk, Jk, Jk, Jk, Jk, Jk, Jk, Jk, Jk, Jk, Jk, Jk, Jk, Jk, Jk, Jk, Jk, Jk, Jk, Jk, Jk, Jk, Jk, Jk, Jk, Jk, Jk, Jk, Jk, Jk, Jk, Jk, Jk, Jk, Jk, Jk, Jk, Jk, Jk, Jk, Jk, Jk, Jk, Jk, Jk, Jk, Jk, Jk, Jk, Jk, Jk, Jk, Jk, Jk, Jk, Jk, Jk, Jk, Jk, Jk, Jk, Jk, Jk, Jk, Jk, Jk, Jk, Jk, Jk, Jk, Jk, Jk, Jk, Jk, Jk, Jk, Jk, Jk, Jk, Jk, Jk, Jk, Jk, Jk, Jk, Jk, Jk, Jk, Jk, Jk, Jk, Jk, Jk, Jk, Jk, Jk, Jk, Jk, Jk, Jk, Jk, Jk, Jk, Jk, Jk, Jk, Jk, Jk, Jk, Jk, Jk, Jk, Jk, Jk, Jk, Jk, Jk], [some (.box [.dat (.sl (.sl (.int .u8))) w_0_0, .dat (.sl (.pair (.int .i64) (.pair (.sl (.int .u8)) .unit))) w_0_1, .ref (.int .i64) 1 0 [] 0 N1, .ref (.pair (.sl (.int .u8)) (.pair (.int .i64) .unit)) 2 0 [] 0 N2, .dat (.int .i64) dp]), some (.row 0 (.int .i64) .sh P), some (.row 0 (.pair (.sl (.int .u8)) (.pair (.int .i64) .unit)) (.pr (.ow .sh) (.pr .sh .sh)) w_2), some (.box [.dat .bool F, .ref (.sl (.int .u8)) 4 0 [] 0 N, .ref (.int .i64) 5 0 [] 0 N4, .ref (.int .i64) 6 0 [] 0 N5]), some (.row 0 (.sl (.int .u8)) (.ow .sh) K), some (.row 0 (.int .i64) .sh V), some (.row 0 (.int .i64) .sh G), some (.gh [.bptr 0 0])]⟩) (fun ((N, N1, N2, N4, N5, F, K, V, G, P, dp) : (Nat) × (Nat) × (Nat) × (Nat) × (Nat) × (Bool) × (List (List Int)) × (List Int) × (List Int) × (List Int) × (Int)) => ks.all (inBd ([] : List Int) ([] : List Int)) = true ∧ lf = true ∧ depth = deepOf depth w_3 ∧ dp = deepOf depth w_3 ∧ N = ks.length ∧ N1 = P.length ∧ N2 = w_2.length ∧ N4 = vs.length ∧ F = lf ∧ V = vs ∧ P = w_1 ++ [id] ∧ K = ks) (fun ((N, N1, N2, N4, N5, F, K, V, G, P, dp) : (Nat) × (Nat) × (Nat) × (Nat) × (Nat) × (Bool) × (List (List Int)) × (List Int) × (List Int) × (List Int) × (Int)) => 0) (_, _, _, _, _, _, _, _, _, _, _) rfl ?_ ?_
          · subst hR0 hB_w hg_F_b_Compare hg_Q_b_Compare hg_F_sl_Contains_int64 hg_Q_sl_Contains_int64 hg_F_i_Disk_nodeAt hg_F_i_Disk_nodeAt_1 hg_Q_i_Disk_nodeAt hg_F_i_treeWalk_visit hg_B_i_treeWalk_visit_w hg_Qr_i_treeWalk_visit
            (try simp only [Alg.std, List.drop_zero, List.take_length, List.take_succ_cons, List.take_zero, F_b_Compare, F_sl_Contains_int64, F_i_Disk_nodeAt, F_i_Disk_nodeAt_1, Q_b_Compare, Q_sl_Contains_int64, Q_i_Disk_nodeAt, F_i_treeWalk_visit, B_i_treeWalk_visit_w, Qr_i_treeWalk_visit, Q_i_treeWalk_visit] at *)
            (try simp only [visP, Option.getD_none, Option.getD_some, hn] at *); 
            grind [deepOf]
          rintro ⟨N, N1, N2, N4, N5, F, K, V, G, P, dp⟩ hf I hI
          replace hf : ks.all (inBd ([] : List Int) ([] : List Int)) = true ∧ lf = true ∧ depth = deepOf depth w_3 ∧ dp = deepOf depth w_3 ∧ N = ks.length ∧ N1 = P.length ∧ N2 = w_2.length ∧ N4 = vs.length ∧ F = lf ∧ V = vs ∧ P = w_1 ++ [id] ∧ K = ks := hf
          generalize hL : Lg.std = L
          generalize hA : Alg.std = A
          cbv
          subst hL hA
          try dsimp only [Ty.den]
          subst hI
          obtain ⟨h1, h2, h3, h4, h5, h6, h7, h8, h9, h10, h11, h12⟩ := hf
          have hVe := (hV4 (by assumption) (by assumption) (by assumption)).2.2.1 h1 h2 h3
          clear hV1 hV2 hV3 hV4 hO hst hie hid hsu htk hW hlo' hhi'
          repeat' (first | intro _ | apply And.intro)
          all_goals first | (with_reducible exact True.intro) | (with_reducible assumption) | (simp only [Alg.std]; omega) | ((fail_if_success (refine lp_v (V := Unit) (fun _ => ⟨[], []⟩) (fun _ => True) (fun _ => 0) () ?_ ?_ ?_)); (try simp only [Lg.std, Alg.std, List.drop_zero, List.take_length] at *); (try refine ⟨(_, _, _, _, _, _, _, _, _, _, _), rfl, ?_, ?_⟩); (all_goals (subst hR0 hB_w hg_F_b_Compare hg_Q_b_Compare hg_F_sl_Contains_int64 hg_Q_sl_Contains_int64 hg_F_i_Disk_nodeAt hg_F_i_Disk_nodeAt_1 hg_Q_i_Disk_nodeAt hg_F_i_treeWalk_visit hg_B_i_treeWalk_visit_w hg_Qr_i_treeWalk_visit; (try simp only [Lg.std, Alg.std, List.drop_zero, List.take_length, F_b_Compare, F_sl_Contains_int64, F_i_Disk_nodeAt, F_i_Disk_nodeAt_1, Q_b_Compare, Q_sl_Contains_int64, Q_i_Disk_nodeAt, F_i_treeWalk_visit, B_i_treeWalk_visit_w, Qr_i_treeWalk_visit, Q_i_treeWalk_visit] at *); first | done | ((try simp only [visP, Option.getD_none, Option.getD_some, hn] at *); grind)))) | skip
          all_goals (
            refine lp_v (V := (Int) × (Int) × (Nat) × (Nat) × (Nat) × (Nat) × (Nat) × (Bool) × (List (List Int)) × (List Int) × (List Int) × (List Int) × (List RowT) × (Int)) (fun ((j, M, N, N1, N2, N4, N5, F, K, V, G, P, R, dp) : (Int) × (Int) × (Nat) × (Nat) × (Nat) × (Nat) × (Nat) × (Bool) × (List (List Int)) × (List Int) × (List Int) × (List Int) × (List RowT) × (Int)) => ⟨[.bptr 0 0, Jk, Jk, Jk, Jk, Jk, Jk, Jk, Jk, Jk, Jk, .bptr 3 0, Jk, Jk, Jk, Jk, Jk, Jk, Jk, Jk, Jk, Jk, Jk, Jk, Jk, Jk, Jk, Jk, Jk, Jk, Jk, Jk, Jk, Jk, Jk, Jk, Jk, Jk, Jk, Jk, Jk, Jk, Jk, Jk, Jk, Jk, Jk, Jk, Jk, Jk, Jk, Jk, Jk, Jk, Jk, Jk, Jk, Jk, Jk, Jk, Jk, Jk, Jk, Jk, Jk, Jk, Jk, Jk, Jk, Jk, Jk, Jk, Jk, Jk, Jk, Jk, Jk, Jk, Jk, Jk, Jk, Jk, Jk, Jk, Jk, Jk, Jk, Jk, Jk, Jk, Jk, Jk, Jk, Jk, Jk, Jk, Jk, Jk, Jk, Jk, Jk, Jk, Jk, Jk, Jk, Jk, Jk, Jk, Jk, Jk, Jk, Jk, .ref (.sl (.int .u8)) 4 0 [] 0 N, .dat (.int .i64) M, .dat (.int .i64) j, Jk, Jk, Jk, Jk, Jk, Jk, Jk, Jk, Jk, Jk, Jk, Jk, Jk, Jk, Jk, Jk, Jk, Jk, Jk, Jk, Jk, Jk, Jk, Jk, Jk, Jk, Jk, Jk, Jk, Jk, Jk, Jk, Jk, Jk, Jk, Jk, Jk, Jk, Jk, Jk, Jk, Jk, Jk, Jk, Jk, Jk, Jk, Jk, Jk, Jk, Jk, Jk, Jk, Jk, Jk, Jk, Jk, Jk, Jk, Jk], [some (.box [.dat (.sl (.sl (.int .u8))) w_0_0, .dat (.sl (.pair (.int .i64) (.pair (.sl (.int .u8)) .unit))) w_0_1, .ref (.int .i64) 1 0 [] 0 N1, .ref (.pair (.sl (.int .u8)) (.pair (.int .i64) .unit)) 2 0 [] 0 N2, .dat (.int .i64) dp]), some (.row 0 (.int .i64) .sh P), some (.row 0 (.pair (.sl (.int .u8)) (.pair (.int .i64) .unit)) (.pr (.ow .sh) (.pr .sh .sh)) R), some (.box [.dat .bool F, .ref (.sl (.int .u8)) 4 0 [] 0 N, .ref (.int .i64) 5 0 [] 0 N4, .ref (.int .i64) 6 0 [] 0 N5]), some (.row 0 (.sl (.int .u8)) .no K), some (.row 0 (.int .i64) .sh V), some (.row 0 (.int .i64) .sh G), some (.gh [.bptr 0 0])]⟩) (fun ((j, M, N, N1, N2, N4, N5, F, K, V, G, P, R, dp) : (Int) × (Int) × (Nat) × (Nat) × (Nat) × (Nat) × (Nat) × (Bool) × (List (List Int)) × (List Int) × (List Int) × (List Int) × (List RowT) × (Int)) => ks.all (inBd ([] : List Int) ([] : List Int)) = true ∧ lf = true ∧ depth = deepOf depth w_3 ∧ dp = deepOf depth w_3 ∧ M = ks.length ∧ N = ks.length ∧ N1 = P.length ∧ N2 = R.length ∧ N4 = vs.length ∧ F = lf ∧ V = vs ∧ P = w_1 ++ [id] ∧ 0 ≤ j ∧ j ≤ ks.length ∧ K.length = ks.length ∧ R = w_2 ++ rowsOf (ks.take j.toNat) (vs.take j.toNat) ∧ K.drop j.toNat = ks.drop j.toNat) (fun ((j, M, N, N1, N2, N4, N5, F, K, V, G, P, R, dp) : (Int) × (Int) × (Nat) × (Nat) × (Nat) × (Nat) × (Nat) × (Bool) × (List (List Int)) × (List Int) × (List Int) × (List Int) × (List RowT) × (Int)) => ks.length - j.toNat) (0, _, _, _, _, _, _, _, _, _, _, _, _, _) rfl ?_ ?_
            · subst hR0 hB_w hg_F_b_Compare hg_Q_b_Compare hg_F_sl_Contains_int64 hg_Q_sl_Contains_int64 hg_F_i_Disk_nodeAt hg_F_i_Disk_nodeAt_1 hg_Q_i_Disk_nodeAt hg_F_i_treeWalk_visit hg_B_i_treeWalk_visit_w hg_Qr_i_treeWalk_visit
              (try simp only [Alg.std, List.drop_zero, List.take_length, List.take_succ_cons, List.take_zero, F_b_Compare, F_sl_Contains_int64, F_i_Disk_nodeAt, F_i_Disk_nodeAt_1, Q_b_Compare, Q_sl_Contains_int64, Q_i_Disk_nodeAt, F_i_treeWalk_visit, B_i_treeWalk_visit_w, Qr_i_treeWalk_visit, Q_i_treeWalk_visit] at *)
              (try simp only [visP, Option.getD_none, Option.getD_some, hn] at *); 
              grind [deepOf, rowsOf]
            rintro ⟨j, M, N, N1, N2, N4, N5, F, K, V, G, P, R, dp⟩ hf I hI
            replace hf : ks.all (inBd ([] : List Int) ([] : List Int)) = true ∧ lf = true ∧ depth = deepOf depth w_3 ∧ dp = deepOf depth w_3 ∧ M = ks.length ∧ N = ks.length ∧ N1 = P.length ∧ N2 = R.length ∧ N4 = vs.length ∧ F = lf ∧ V = vs ∧ P = w_1 ++ [id] ∧ 0 ≤ j ∧ j ≤ ks.length ∧ K.length = ks.length ∧ R = w_2 ++ rowsOf (ks.take j.toNat) (vs.take j.toNat) ∧ K.drop j.toNat = ks.drop j.toNat := hf
            generalize hL : Lg.std = L
            generalize hA : Alg.std = A
            cbv
            subst hL hA
            try dsimp only [Ty.den]
            subst hI
            obtain ⟨h1, h2, h3, h4, h5, h6, h7, h8, h9, h10, h11, h12, h13, h14, h15, h16, h17⟩ := hf
            have hat := drop_at (zs := K) ([] : List Int) h17
            have hnx := fun v => drop_next (zs := K) v h17
            have hrs := fun (h : j.toNat < ks.length) => rowsOf_snoc ks vs j.toNat h
            have hra := fun (h : ks.length ≤ j.toNat) => (List.take_of_length_le h : ks.take j.toNat = ks)
            have hrb := fun (h : vs.length ≤ j.toNat) => (List.take_of_length_le h : vs.take j.toNat = vs)
            have hsu : (j + 1).toNat = j.toNat + 1 := by omega
            have hrl := rowsOf_len (ks.take j.toNat) (vs.take j.toNat)
            repeat' (first | intro _ | apply And.intro)
            all_goals first | (with_reducible exact True.intro) | (with_reducible assumption) | (simp only [Alg.std]; omega) | ((fail_if_success (refine lp_v (V := Unit) (fun _ => ⟨[], []⟩) (fun _ => True) (fun _ => 0) () ?_ ?_ ?_)); (try simp only [Lg.std, Alg.std, List.drop_zero, List.take_length] at *); (try refine ⟨(_, _, _, _, _, _, _, _, _, _, _, _, _, _), rfl, ?_, ?_⟩); (all_goals (subst hR0 hB_w hg_F_b_Compare hg_Q_b_Compare hg_F_sl_Contains_int64 hg_Q_sl_Contains_int64 hg_F_i_Disk_nodeAt hg_F_i_Disk_nodeAt_1 hg_Q_i_Disk_nodeAt hg_F_i_treeWalk_visit hg_B_i_treeWalk_visit_w hg_Qr_i_treeWalk_visit; (try simp only [Lg.std, Alg.std, List.drop_zero, List.take_length, F_b_Compare, F_sl_Contains_int64, F_i_Disk_nodeAt, F_i_Disk_nodeAt_1, Q_b_Compare, Q_sl_Contains_int64, Q_i_Disk_nodeAt, F_i_treeWalk_visit, B_i_treeWalk_visit_w, Qr_i_treeWalk_visit, Q_i_treeWalk_visit] at *); first | done | ((try simp only [visP, Option.getD_none, Option.getD_some, hn] at *); grind [deepOf])))) | skip))))
theorem ctc_i_treeWalk_visit_ns (n : Nat) (okr : ConOk pg 130 (conr_i_treeWalk_visit n)) (w : ((List (List (Int))) × (List ((Int) × (List (Int)) × Unit)) × Unit) × (List (Int)) × (List ((List (Int)) × (Int) × Unit)) × (Int) × Unit) (id : Int) (depth : Int) (high : List (Int)) : Ct pg 130 [.mp (.pair (.pair (.sl (.sl (.int .u8))) (.pair (.sl (.pair (.int .i64) (.pair (.sl (.int .u8)) .unit))) .unit)) (.pair (.sl (.int .i64)) (.pair (.sl (.pair (.sl (.int .u8)) (.pair (.int .i64) .unit))) (.pair (.int .i64) .unit)))) (.pr .sh (.pr (.ow .sh) (.pr (.ow (.pr (.ow .sh) (.pr .sh .sh))) (.pr .sh .sh)))) w, .dat (.int .i64) id, .dat (.int .i64) depth, .nilS, .dat (.sl (.int .u8)) high] ⟨[Qr_i_treeWalk_visit (n + 1) w id depth none (some high)], [⟨(.int .i64), .sh, F_i_treeWalk_visit w id depth none (some high)⟩], [.mp (.pair (.pair (.sl (.sl (.int .u8))) (.pair (.sl (.pair (.int .i64) (.pair (.sl (.int .u8)) .unit))) .unit)) (.pair (.sl (.int .i64)) (.pair (.sl (.pair (.sl (.int .u8)) (.pair (.int .i64) .unit))) (.pair (.int .i64) .unit)))) (.pr .sh (.pr (.ow .sh) (.pr (.ow (.pr (.ow .sh) (.pr .sh .sh))) (.pr .sh .sh)))) (B_i_treeWalk_visit_w w id depth none (some high))]⟩ := by
  refine ct_claim (O := O_i_treeWalk_visit) (τ := τ_i_treeWalk_visit) (EnvOk.of (by kernel_rfl) (by kernel_rfl)) (GOk.of (.cons ok_b_Compare (.cons ok_sl_Contains_int64 (.cons ok_i_Disk_nodeAt (.cons okr .nil))) : AllOk pg [(68, con_b_Compare), (136, con_sl_Contains_int64), (137, con_i_Disk_nodeAt), (130, conr_i_treeWalk_visit n)])) mixed (Enters.of (by kernel_rfl)) (fn := Go.Proofs.Try.f130) (by kernel_rfl) rfl (by kernel_rfl) ?_
  intro hp hw
  clear okr
  have hq : (Qr_i_treeWalk_visit (n + 1)) w id depth none (some high) := hp _ (List.mem_singleton.2 rfl)
  clear hp
  change claim Lg.std Alg.std τ_i_treeWalk_visit (Gam.of [(68, con_b_Compare), (136, con_sl_Contains_int64), (137, con_i_Disk_nodeAt), (130, conr_i_treeWalk_visit n)]) O_i_treeWalk_visit Go.Proofs.Try.f130 [.mp (.pair (.pair (.sl (.sl (.int .u8))) (.pair (.sl (.pair (.int .i64) (.pair (.sl (.int .u8)) .unit))) .unit)) (.pair (.sl (.int .i64)) (.pair (.sl (.pair (.sl (.int .u8)) (.pair (.int .i64) .unit))) (.pair (.int .i64) .unit)))) (.pr .sh (.pr (.ow .sh) (.pr (.ow (.pr (.ow .sh) (.pr .sh .sh))) (.pr .sh .sh)))) w, .dat (.int .i64) id, .dat (.int .i64) depth, .nilS, .dat (.sl (.int .u8)) high] ⟨[Qr_i_treeWalk_visit (n + 1) w id depth none (some high)], [⟨(.int .i64), .sh, F_i_treeWalk_visit w id depth none (some high)⟩], [.mp (.pair (.pair (.sl (.sl (.int .u8))) (.pair (.sl (.pair (.int .i64) (.pair (.sl (.int .u8)) .unit))) .unit)) (.pair (.sl (.int .i64)) (.pair (.sl (.pair (.sl (.int .u8)) (.pair (.int .i64) .unit))) (.pair (.int .i64) .unit)))) (.pr .sh (.pr (.ow .sh) (.pr (.ow (.pr (.ow .sh) (.pr .sh .sh))) (.pr .sh .sh)))) (B_i_treeWalk_visit_w w id depth none (some high))]⟩
  delta con_b_Compare con_sl_Contains_int64 con_i_Disk_nodeAt conr_i_treeWalk_visit
  generalize hR0 : F_i_treeWalk_visit w id depth none (some high) = R0
  generalize hB_w : B_i_treeWalk_visit_w w id depth none (some high) = B_w
  generalize (Qr_i_treeWalk_visit (n + 1)) w id depth none (some high) = Q0
  generalize hg_F_b_Compare : F_b_Compare = g_F_b_Compare
  generalize hg_Q_b_Compare : Q_b_Compare = g_Q_b_Compare
  generalize hg_F_sl_Contains_int64 : F_sl_Contains_int64 = g_F_sl_Contains_int64
  generalize hg_Q_sl_Contains_int64 : Q_sl_Contains_int64 = g_Q_sl_Contains_int64
  generalize hg_F_i_Disk_nodeAt : F_i_Disk_nodeAt = g_F_i_Disk_nodeAt
  generalize hg_F_i_Disk_nodeAt_1 : F_i_Disk_nodeAt_1 = g_F_i_Disk_nodeAt_1
  generalize hg_Q_i_Disk_nodeAt : Q_i_Disk_nodeAt = g_Q_i_Disk_nodeAt
  generalize hg_F_i_treeWalk_visit : F_i_treeWalk_visit = g_F_i_treeWalk_visit
  generalize hg_B_i_treeWalk_visit_w : B_i_treeWalk_visit_w = g_B_i_treeWalk_visit_w
  generalize hg_Qr_i_treeWalk_visit : Qr_i_treeWalk_visit n = g_Qr_i_treeWalk_visit
  generalize hL : Lg.std = L
  generalize hA : Alg.std = A
  cbv
  subst hL hA
  try dsimp only [Ty.den]
  obtain ⟨⟨w_0_0, w_0_1, ⟨⟩⟩, w_1, w_2, w_3, ⟨⟩⟩ := w
  simp only [Qr_i_treeWalk_visit, Q_i_treeWalk_visit] at hq
  obtain ⟨⟨hg, hok, hd1, hd2, hlo, hhi⟩, hms⟩ := hq
  cases hn : nodeAt (w_0_0, w_0_1, PUnit.unit) id with
  | mk nc nd =>
  obtain ⟨⟨lf, ks, vs, kd, ⟨⟩⟩, ⟨⟩⟩ := nd
  have hV := visP_eqs (fun l n => l ++ [n]) (w_0_0, w_0_1, PUnit.unit) id depth ([] : List Int) high w_1 w_2 w_3 nc lf ks vs kd ⟨hd1, hd2⟩ hn
  obtain ⟨hV1, hV2, hV3, hV4⟩ := hV
  clear hw
  have hW := fun (h : nc = 0) => nodeFault_walk (lf, ks, vs, kd, PUnit.unit) (by have := nodeAt_ok (w_0_0, w_0_1, PUnit.unit) id (by rw [hn]; exact h); rw [hn] at this; exact this)
  dsimp only at hW
  have hlen := okW_len (w_1, w_2, w_3, PUnit.unit) hok
  dsimp only at hlen
  have hO := fun (hc : w_1.contains id = false) (h0 : nc = 0) x => okW_id (w_0_0, w_0_1, PUnit.unit) hg id w_1 w_2 w_3 x hok hc (by rw [hn]; exact h0) (fun l n => l ++ [n]) okP_app
  try dsimp only at hO
  have hlo' : ([] : List Int) = [] ∨ ([] : List Int).length ≠ 0 := by first | exact .inl rfl | (right; simpa using hlo)
  have hhi' : high = [] ∨ high.length ≠ 0 := by first | exact .inl rfl | (right; simpa using hhi)
  repeat' (first | intro _ | apply And.intro)
  all_goals first | trivial | (simp only [Alg.std]; omega) | ((fail_if_success (refine lp_v (V := Unit) (fun _ => ⟨[], []⟩) (fun _ => True) (fun _ => 0) () ?_ ?_ ?_)); subst hR0 hB_w hg_F_b_Compare hg_Q_b_Compare hg_F_sl_Contains_int64 hg_Q_sl_Contains_int64 hg_F_i_Disk_nodeAt hg_F_i_Disk_nodeAt_1 hg_Q_i_Disk_nodeAt hg_F_i_treeWalk_visit hg_B_i_treeWalk_visit_w hg_Qr_i_treeWalk_visit; (try simp only [Alg.std, F_b_Compare, F_sl_Contains_int64, F_i_Disk_nodeAt, F_i_Disk_nodeAt_1, Q_b_Compare, Q_sl_Contains_int64, Q_i_Disk_nodeAt, F_i_treeWalk_visit, B_i_treeWalk_visit_w, Qr_i_treeWalk_visit, Q_i_treeWalk_visit] at *); (try simp only [visP, Option.getD_none, Option.getD_some, hn] at *); all_goals grind) | skip
  all_goals (
    refine lp_v (V := (Nat) × (Nat) × (Nat) × (Nat) × (Nat) × (Bool) × (List (List Int)) × (List Int) × (List Int)) (fun ((N, N1, N2, N4, N5, F, K, V, G) : (Nat) × (Nat) × (Nat) × (Nat) × (Nat) × (Bool) × (List (List Int)) × (List Int) × (List Int)) => ⟨[.bptr 0 0, .dat (.int .i64) id, .dat (.int .i64) depth, .nilS, .dat (.sl (.int .u8)) high, Jk, Jk, Jk, Jk, Jk, Jk, .bptr 3 0, Jk, Jk, Jk, Jk, Jk, Jk, Jk, Jk, Jk, Jk, Jk, Jk, Jk, Jk, Jk, Jk, Jk, Jk, Jk, Jk, Jk, Jk, Jk, Jk, Jk, Jk, Jk, Jk, Jk, Jk, Jk, Jk, Jk, Jk, Jk, Jk, Jk, Jk, Jk, Jk, Jk, Jk, Jk, Jk, Jk, Jk, Jk, Jk, Jk, Jk, Jk, Jk, Jk, Jk, Jk, Jk, Jk, Jk, Jk, Jk, Jk, Jk, Jk, Jk, Jk, Jk, Jk, Jk, Jk, Jk, Jk, Jk, Jk, Jk, Jk, Jk, Jk, Jk, Jk, Jk, Jk, Jk, Jk, Jk, Jk, Jk, Jk, Jk, Jk, Jk, Jk, Jk, Jk, Jk, Jk, Jk, Jk, Jk, Jk, Jk, Jk, Jk, Jk, Jk, Jk, Jk, Jk, Jk, Jk, Jk, Jk, Jk, Jk, Jk, Jk, Jk, Jk, Jk, Jk, Jk, Jk, Jk, Jk, Jk, Jk, Jk, Jk, Jk, Jk, Jk, Jk, Jk, Jk, Jk, Jk, Jk, Jk, Jk, Jk, Jk, Jk, Jk, Jk, Jk, Jk, Jk, Jk, Jk, Jk, Jk, Jk, Jk, Jk, Jk, Jk, Jk, Jk, Jk, Jk, Jk, Jk, Jk, Jk], [some (.box [.dat (.sl (.sl (.int .u8))) w_0_0, .dat (.sl (.pair (.int .i64) (.pair (.sl (.int .u8)) .unit))) w_0_1, .ref (.int .i64) 1 0 [] 0 N1, .ref (.pair (.sl (.int .u8)) (.pair (.int .i64) .unit)) 2 0 [] 0 N2, .dat (.int .i64) w_3]), some (.row 0 (.int .i64) .sh w_1), some (.row 0 (.pair (.sl (.int .u8)) (.pair (.int .i64) .unit)) (.pr (.ow .sh) (.pr .sh .sh)) w_2), some (.box [.dat .bool F, .ref (.sl (.int .u8)) 4 0 [] 0 N, .ref (.int .i64) 5 0 [] 0 N4, .ref (.int .i64) 6 0 [] 0 N5]), some (.row 0 (.sl (.int .u8)) (.ow .sh) K), some (.row 0 (.int .i64) .sh V), some (.row 0 (.int .i64) .sh G), some (.gh [.bptr 0 0])]⟩) (fun ((N, N1, N2, N4, N5, F, K, V, G) : (Nat) × (Nat) × (Nat) × (Nat) × (Nat) × (Bool) × (List (List Int)) × (List Int) × (List Int)) => nc = 0 ∧ w_1.contains id = false ∧ ¬ (depth > 4 ∨ (depth > 1 ∧ ks.length < 2) ∨ ks.length = 0) ∧ N = ks.length ∧ N1 = w_1.length ∧ N2 = w_2.length ∧ N4 = vs.length ∧ N5 = kd.length ∧ F = lf ∧ K = ks ∧ V = vs ∧ G = kd) (fun ((N, N1, N2, N4, N5, F, K, V, G) : (Nat) × (Nat) × (Nat) × (Nat) × (Nat) × (Bool) × (List (List Int)) × (List Int) × (List Int)) => 0) (_, _, _, _, _, _, _, _, _) rfl ?_ ?_
    · subst hR0 hB_w hg_F_b_Compare hg_Q_b_Compare hg_F_sl_Contains_int64 hg_Q_sl_Contains_int64 hg_F_i_Disk_nodeAt hg_F_i_Disk_nodeAt_1 hg_Q_i_Disk_nodeAt hg_F_i_treeWalk_visit hg_B_i_treeWalk_visit_w hg_Qr_i_treeWalk_visit
      (try simp only [Alg.std, List.drop_zero, List.take_length, List.take_succ_cons, List.take_zero, F_b_Compare, F_sl_Contains_int64, F_i_Disk_nodeAt, F_i_Disk_nodeAt_1, Q_b_Compare, Q_sl_Contains_int64, Q_i_Disk_nodeAt, F_i_treeWalk_visit, B_i_treeWalk_visit_w, Qr_i_treeWalk_visit, Q_i_treeWalk_visit] at *)
      (try simp only [visP, Option.getD_none, Option.getD_some, hn] at *); 
      grind
    rintro ⟨N, N1, N2, N4, N5, F, K, V, G⟩ hf I hI
    replace hf : nc = 0 ∧ w_1.contains id = false ∧ ¬ (depth > 4 ∨ (depth > 1 ∧ ks.length < 2) ∨ ks.length = 0) ∧ N = ks.length ∧ N1 = w_1.length ∧ N2 = w_2.length ∧ N4 = vs.length ∧ N5 = kd.length ∧ F = lf ∧ K = ks ∧ V = vs ∧ G = kd := hf
    generalize hL : Lg.std = L
    generalize hA : Alg.std = A
    cbv
    subst hL hA
    try dsimp only [Ty.den]
    subst hI
    obtain ⟨h1, h2, h3, h4, h5, h6, h7, h8, h9, h10, h11, h12⟩ := hf
    repeat' (first | intro _ | apply And.intro)
    all_goals first | (with_reducible exact True.intro) | (with_reducible assumption) | (simp only [Alg.std]; omega) | ((fail_if_success (refine lp_v (V := Unit) (fun _ => ⟨[], []⟩) (fun _ => True) (fun _ => 0) () ?_ ?_ ?_)); (try simp only [Lg.std, Alg.std, List.drop_zero, List.take_length] at *); (try refine ⟨(_, _, _, _, _, _, _, _, _), rfl, ?_, ?_⟩); (all_goals (subst hR0 hB_w hg_F_b_Compare hg_Q_b_Compare hg_F_sl_Contains_int64 hg_Q_sl_Contains_int64 hg_F_i_Disk_nodeAt hg_F_i_Disk_nodeAt_1 hg_Q_i_Disk_nodeAt hg_F_i_treeWalk_visit hg_B_i_treeWalk_visit_w hg_Qr_i_treeWalk_visit; (try simp only [Lg.std, Alg.std, List.drop_zero, List.take_length, F_b_Compare, F_sl_Contains_int64, F_i_Disk_nodeAt, F_i_Disk_nodeAt_1, Q_b_Compare, Q_sl_Contains_int64, Q_i_Disk_nodeAt, F_i_treeWalk_visit, B_i_treeWalk_visit_w, Qr_i_treeWalk_visit, Q_i_treeWalk_visit] at *); first | done | ((try simp only [visP, Option.getD_none, Option.getD_some, hn] at *); grind)))) | skip
    all_goals (
      refine lp_v (V := (Int) × (Int) × (Nat) × (Nat) × (Nat) × (Nat) × (Nat) × (Bool) × (List (List Int)) × (List Int) × (List Int)) (fun ((i, M, N, N1, N2, N4, N5, F, K, V, G) : (Int) × (Int) × (Nat) × (Nat) × (Nat) × (Nat) × (Nat) × (Bool) × (List (List Int)) × (List Int) × (List Int)) => ⟨[.bptr 0 0, .dat (.int .i64) id, .dat (.int .i64) depth, .nilS, .dat (.sl (.int .u8)) high, Jk, Jk, Jk, Jk, Jk, Jk, .bptr 3 0, Jk, Jk, Jk, Jk, Jk, Jk, Jk, Jk, Jk, Jk, Jk, Jk, Jk, Jk, Jk, Jk, Jk, Jk, Jk, Jk, Jk, Jk, Jk, Jk, Jk, Jk, Jk, Jk, Jk, Jk, Jk, Jk, Jk, Jk, Jk, Jk, Jk, Jk, Jk, Jk, Jk, Jk, Jk, Jk, Jk, Jk, Jk, .ref (.sl (.int .u8)) 4 0 [] 0 N, .dat (.int .i64) M, .dat (.int .i64) i, Jk, Jk, Jk, Jk, Jk, Jk, Jk, Jk, Jk, Jk, Jk, Jk, Jk, Jk, Jk, Jk, Jk, Jk, Jk, Jk, Jk, Jk, Jk, Jk, Jk, Jk, Jk, Jk, Jk, Jk, Jk, Jk, Jk, Jk, Jk, Jk, Jk, Jk, Jk, Jk, Jk, Jk, Jk, Jk, Jk, Jk, Jk, Jk, Jk, Jk, Jk, Jk, Jk, Jk, Jk, Jk, Jk, Jk, Jk, Jk, Jk, Jk, Jk, Jk, Jk, Jk, Jk, Jk, Jk, Jk, Jk, Jk, Jk, Jk, Jk, Jk, Jk, Jk, Jk, Jk, Jk, Jk, Jk, Jk, Jk, Jk, Jk, Jk, Jk, Jk, Jk, Jk, Jk, Jk, Jk, Jk, Jk, Jk, Jk, Jk, Jk, Jk, Jk, Jk, Jk, Jk, Jk, Jk, Jk, Jk, Jk, Jk, Jk], [some (.box [.dat (.sl (.sl (.int .u8))) w_0_0, .dat (.sl (.pair (.int .i64) (.pair (.sl (.int .u8)) .unit))) w_0_1, .ref (.int .i64) 1 0 [] 0 N1, .ref (.pair (.sl (.int .u8)) (.pair (.int .i64) .unit)) 2 0 [] 0 N2, .dat (.int .i64) w_3]), some (.row 0 (.int .i64) .sh w_1), some (.row 0 (.pair (.sl (.int .u8)) (.pair (.int .i64) .unit)) (.pr (.ow .sh) (.pr .sh .sh)) w_2), some (.box [.dat .bool F, .ref (.sl (.int .u8)) 4 0 [] 0 N, .ref (.int .i64) 5 0 [] 0 N4, .ref (.int .i64) 6 0 [] 0 N5]), some (.row 0 (.sl (.int .u8)) (.ow .sh) K), some (.row 0 (.int .i64) .sh V), some (.row 0 (.int .i64) .sh G), some (.gh [.bptr 0 0])]⟩) (fun ((i, M, N, N1, N2, N4, N5, F, K, V, G) : (Int) × (Int) × (Nat) × (Nat) × (Nat) × (Nat) × (Nat) × (Bool) × (List (List Int)) × (List Int) × (List Int)) => nc = 0 ∧ w_1.contains id = false ∧ ¬ (depth > 4 ∨ (depth > 1 ∧ ks.length < 2) ∨ ks.length = 0) ∧ M = ks.length ∧ N = ks.length ∧ N1 = w_1.length ∧ N2 = w_2.length ∧ N4 = vs.length ∧ N5 = kd.length ∧ F = lf ∧ K = ks ∧ V = vs ∧ G = kd ∧ 0 ≤ i ∧ i ≤ ks.length ∧ ks.all (inBd ([] : List Int) high) = (ks.drop i.toNat).all (inBd ([] : List Int) high)) (fun ((i, M, N, N1, N2, N4, N5, F, K, V, G) : (Int) × (Int) × (Nat) × (Nat) × (Nat) × (Nat) × (Nat) × (Bool) × (List (List Int)) × (List Int) × (List Int)) => ks.length - i.toNat) (0, _, _, _, _, _, _, _, _, _, _) rfl ?_ ?_
      · subst hR0 hB_w hg_F_b_Compare hg_Q_b_Compare hg_F_sl_Contains_int64 hg_Q_sl_Contains_int64 hg_F_i_Disk_nodeAt hg_F_i_Disk_nodeAt_1 hg_Q_i_Disk_nodeAt hg_F_i_treeWalk_visit hg_B_i_treeWalk_visit_w hg_Qr_i_treeWalk_visit
        (try simp only [Alg.std, List.drop_zero, List.take_length, List.take_succ_cons, List.take_zero, F_b_Compare, F_sl_Contains_int64, F_i_Disk_nodeAt, F_i_Disk_nodeAt_1, Q_b_Compare, Q_sl_Contains_int64, Q_i_Disk_nodeAt, F_i_treeWalk_visit, B_i_treeWalk_visit_w, Qr_i_treeWalk_visit, Q_i_treeWalk_visit] at *)
        (try simp only [visP, Option.getD_none, Option.getD_some, hn] at *); 
        grind
      rintro ⟨i, M, N, N1, N2, N4, N5, F, K, V, G⟩ hf I hI
      replace hf : nc = 0 ∧ w_1.contains id = false ∧ ¬ (depth > 4 ∨ (depth > 1 ∧ ks.length < 2) ∨ ks.length = 0) ∧ M = ks.length ∧ N = ks.length ∧ N1 = w_1.length ∧ N2 = w_2.length ∧ N4 = vs.length ∧ N5 = kd.length ∧ F = lf ∧ K = ks ∧ V = vs ∧ G = kd ∧ 0 ≤ i ∧ i ≤ ks.length ∧ ks.all (inBd ([] : List Int) high) = (ks.drop i.toNat).all (inBd ([] : List Int) high) := hf
      generalize hL : Lg.std = L
      generalize hA : Alg.std = A
      cbv
      subst hL hA
      try dsimp only [Ty.den]
      subst hI
      obtain ⟨h1, h2, h3, h4, h5, h6, h7, h8, h9, h10, h11, h12, h13, h14, h15, h16⟩ := hf
      have htk : List.take N K = ks := by rw [h11, h5, List.take_length]
      have hst := fun (h : i.toNat < ks.length) => allg_step (inBd ([] : List Int) high) ks ([] : List Int) i.toNat h
      have hie := inBd_eq ([] : List Int) high (ks.getD i.toNat [])
      have hid := fun (h : ks.length ≤ i.toNat) => List.drop_of_length_le h
      have hsu : (i + 1).toNat = i.toNat + 1 := by omega
      have hW21 := hW (by assumption)
      repeat' (first | intro _ | apply And.intro)
      all_goals first | (with_reducible exact True.intro) | (with_reducible assumption) | (simp only [Alg.std]; omega) | ((fail_if_success (refine lp_v (V := Unit) (fun _ => ⟨[], []⟩) (fun _ => True) (fun _ => 0) () ?_ ?_ ?_)); (try simp only [Lg.std, Alg.std, List.drop_zero, List.take_length] at *); (try refine ⟨(_, _, _, _, _, _, _, _, _, _, _), rfl, ?_, ?_⟩); (all_goals (subst hR0 hB_w hg_F_b_Compare hg_Q_b_Compare hg_F_sl_Contains_int64 hg_Q_sl_Contains_int64 hg_F_i_Disk_nodeAt hg_F_i_Disk_nodeAt_1 hg_Q_i_Disk_nodeAt hg_F_i_treeWalk_visit hg_B_i_treeWalk_visit_w hg_Qr_i_treeWalk_visit; (try simp only [Lg.std, Alg.std, List.drop_zero, List.take_length, F_b_Compare, F_sl_Contains_int64, F_i_Disk_nodeAt, F_i_Disk_nodeAt_1, Q_b_Compare, Q_sl_Contains_int64, Q_i_Disk_nodeAt, F_i_treeWalk_visit, B_i_treeWalk_visit_w, Qr_i_treeWalk_visit, Q_i_treeWalk_visit] at *); first | done | ((try simp only [visP, Option.getD_none, Option.getD_some, hn] at *); grind [deepOf])))) | skip
      all_goals first
        | (
          refine lp_v (V := (Int) × (Int) × (Nat) × (Nat) × (Nat) × (Nat) × (Bool) × (List (List Int)) × (List Int) × (List Int) × (List Int) × (List RowT) × (Int) × (List (List Int)) × (List PutT)) (fun ((j, M, N1, N2, N4, N5, F, K, V, G, P, R, dp, D0, D1) : (Int) × (Int) × (Nat) × (Nat) × (Nat) × (Nat) × (Bool) × (List (List Int)) × (List Int) × (List Int) × (List Int) × (List RowT) × (Int) × (List (List Int)) × (List PutT)) => ⟨[.bptr 0 0, Jk, .dat (.int .i64) depth, .nilS, .dat (.sl (.int .u8)) high, Jk, Jk, Jk, Jk, Jk, Jk, .bptr 3 0, Jk, Jk, Jk, Jk, Jk, Jk, Jk, Jk, Jk, Jk, Jk, Jk, Jk, Jk, Jk, Jk, Jk, Jk, Jk, Jk, Jk, Jk, Jk, Jk, Jk, Jk, Jk, Jk, Jk, Jk, Jk, Jk, Jk, Jk, Jk, Jk, Jk, Jk, Jk, Jk, Jk, Jk, Jk, Jk, Jk, Jk, Jk, Jk, Jk, Jk, Jk, Jk, Jk, Jk, Jk, Jk, Jk, Jk, Jk, Jk, Jk, Jk, Jk, Jk, Jk, Jk, Jk, Jk, Jk, Jk, Jk, Jk, Jk, Jk, Jk, Jk, Jk, Jk, Jk, Jk, Jk, Jk, Jk, Jk, Jk, Jk, Jk, Jk, Jk, Jk, Jk, Jk, Jk, Jk, Jk, Jk, Jk, Jk, Jk, Jk, Jk, Jk, Jk, Jk, Jk, Jk, Jk, Jk, Jk, Jk, Jk, Jk, Jk, Jk, Jk, Jk, Jk, Jk, Jk, Jk, Jk, Jk, Jk, Jk, Jk, .ref (.int .i64) 5 0 [] 0 N5, .dat (.int .i64) M, .dat (.int .i64) j, Jk, Jk, Jk, Jk, Jk, Jk, Jk, Jk, Jk, Jk, Jk, Jk, Jk, Jk, Jk, Jk, Jk, Jk, Jk, Jk, Jk, Jk, Jk, Jk, Jk, Jk, Jk, Jk, Jk, Jk, Jk, Jk, Jk, Jk, Jk], [some (.box [.dat (.sl (.sl (.int .u8))) D0, .dat (.sl (.pair (.int .i64) (.pair (.sl (.int .u8)) .unit))) D1, .ref (.int .i64) 1 0 [] 0 N1, .ref (.pair (.sl (.int .u8)) (.pair (.int .i64) .unit)) 2 0 [] 0 N2, .dat (.int .i64) dp]), some (.row 0 (.int .i64) .sh P), some (.row 0 (.pair (.sl (.int .u8)) (.pair (.int .i64) .unit)) (.pr (.ow .sh) (.pr .sh .sh)) R), some (.box [.dat .bool F, .dat (.sl (.sl (.int .u8))) K, .ref (.int .i64) 4 0 [] 0 N4, .ref (.int .i64) 5 0 [] 0 N5]), some (.row 0 (.int .i64) .sh V), some (.row 0 (.int .i64) .sh G), some (.gh [.bptr 0 0])]⟩) (fun ((j, M, N1, N2, N4, N5, F, K, V, G, P, R, dp, D0, D1) : (Int) × (Int) × (Nat) × (Nat) × (Nat) × (Nat) × (Bool) × (List (List Int)) × (List Int) × (List Int) × (List Int) × (List RowT) × (Int) × (List (List Int)) × (List PutT)) => D0 = w_0_0 ∧ D1 = w_0_1 ∧ okW (P, R, dp, PUnit.unit) ∧ lf = false ∧ M = kd.length ∧ N1 = P.length ∧ N2 = R.length ∧ N5 = kd.length ∧ K = ks ∧ G = kd ∧ 0 ≤ j ∧ j ≤ kd.length ∧ vis (fun l n => l ++ [n]) (w_0_0, w_0_1, PUnit.unit) (6 - depth).toNat id depth ([] : List Int) high (w_1, w_2, w_3, PUnit.unit) = visK (visF (fun l n => l ++ [n]) (w_0_0, w_0_1, PUnit.unit) depth) ks ([] : List Int) high (kd.drop j.toNat) j.toNat (P, R, dp, PUnit.unit)) (fun ((j, M, N1, N2, N4, N5, F, K, V, G, P, R, dp, D0, D1) : (Int) × (Int) × (Nat) × (Nat) × (Nat) × (Nat) × (Bool) × (List (List Int)) × (List Int) × (List Int) × (List Int) × (List RowT) × (Int) × (List (List Int)) × (List PutT)) => kd.length - j.toNat) (0, _, _, _, _, _, _, _, _, _, _, _, _, _, _) rfl ?_ ?_
          · subst hR0 hB_w hg_F_b_Compare hg_Q_b_Compare hg_F_sl_Contains_int64 hg_Q_sl_Contains_int64 hg_F_i_Disk_nodeAt hg_F_i_Disk_nodeAt_1 hg_Q_i_Disk_nodeAt hg_F_i_treeWalk_visit hg_B_i_treeWalk_visit_w hg_Qr_i_treeWalk_visit
            (try simp only [Alg.std, List.drop_zero, List.take_length, List.take_succ_cons, List.take_zero, F_b_Compare, F_sl_Contains_int64, F_i_Disk_nodeAt, F_i_Disk_nodeAt_1, Q_b_Compare, Q_sl_Contains_int64, Q_i_Disk_nodeAt, F_i_treeWalk_visit, B_i_treeWalk_visit_w, Qr_i_treeWalk_visit, Q_i_treeWalk_visit] at *)
            (try simp only [visP, Option.getD_none, Option.getD_some, hn] at *); 
            grind
          rintro ⟨j, M, N1, N2, N4, N5, F, K, V, G, P, R, dp, D0, D1⟩ hf I hI
          replace hf : D0 = w_0_0 ∧ D1 = w_0_1 ∧ okW (P, R, dp, PUnit.unit) ∧ lf = false ∧ M = kd.length ∧ N1 = P.length ∧ N2 = R.length ∧ N5 = kd.length ∧ K = ks ∧ G = kd ∧ 0 ≤ j ∧ j ≤ kd.length ∧ vis (fun l n => l ++ [n]) (w_0_0, w_0_1, PUnit.unit) (6 - depth).toNat id depth ([] : List Int) high (w_1, w_2, w_3, PUnit.unit) = visK (visF (fun l n => l ++ [n]) (w_0_0, w_0_1, PUnit.unit) depth) ks ([] : List Int) high (kd.drop j.toNat) j.toNat (P, R, dp, PUnit.unit) := hf
          generalize hL : Lg.std = L
          generalize hA : Alg.std = A
          cbv
          subst hL hA
          try dsimp only [Ty.den]
          subst hI
          obtain ⟨h1, h2, h3, h4, h5, h6, h7, h8, h9, h10, h11, h12, h13⟩ := hf
          clear hV1 hV2 hV3 hV4 hO hst hie hid hsu htk hlen hlo' hhi' hW21
          have hl27 := okW_len (P, R, dp, PUnit.unit) h3
          dsimp only at hl27
          have hsu : (j + 1).toNat = j.toNat + 1 := by omega
          have hsp : (j - 1).toNat = j.toNat - 1 := by omega
          have hid := fun (h : kd.length ≤ j.toNat) => visK_nil (visF (fun l n => l ++ [n]) (w_0_0, w_0_1, PUnit.unit) depth) ks ([] : List Int) high kd j.toNat (P, R, dp, PUnit.unit) h
          have hst := fun (h : j.toNat < kd.length) (a b : List Int) (ha : a = if 0 < j.toNat then ks.getD (j.toNat - 1) [] else ([] : List Int)) (hb : b = if j.toNat < ks.length then ks.getD j.toNat [] else high) => visK_step (visF (fun l n => l ++ [n]) (w_0_0, w_0_1, PUnit.unit) depth) ks ([] : List Int) high a b kd j.toNat (P, R, dp, PUnit.unit) h ha hb
          have hfo := fun a b => visF_ok (fun l n => l ++ [n]) okP_app (w_0_0, w_0_1, PUnit.unit) hg depth (kd.getD j.toNat 0) a b (P, R, dp, PUnit.unit) h3
          have hkl := fun (h : j.toNat < ks.length) => ((hW (by assumption)).2.1 j.toNat h)
          have hkl1 := fun (h : j.toNat - 1 < ks.length) => ((hW (by assumption)).2.1 (j.toNat - 1) h)
          simp only [visF] at *
          repeat' (first | intro _ | apply And.intro)
          all_goals first | (with_reducible exact True.intro) | (with_reducible assumption) | (simp only [Alg.std]; omega) | ((fail_if_success (refine lp_v (V := Unit) (fun _ => ⟨[], []⟩) (fun _ => True) (fun _ => 0) () ?_ ?_ ?_)); (try simp only [Lg.std, Alg.std, List.drop_zero, List.take_length] at *); (try refine ⟨(_, _, _, _, _, _, _, _, _, _, _, _, _, _, _), rfl, ?_, ?_⟩); (all_goals (subst hR0 hB_w hg_F_b_Compare hg_Q_b_Compare hg_F_sl_Contains_int64 hg_Q_sl_Contains_int64 hg_F_i_Disk_nodeAt hg_F_i_Disk_nodeAt_1 hg_Q_i_Disk_nodeAt hg_F_i_treeWalk_visit hg_B_i_treeWalk_visit_w hg_Qr_i_treeWalk_visit; (try simp only [Lg.std, Alg.std, List.drop_zero, List.take_length, F_b_Compare, F_sl_Contains_int64, F_i_Disk_nodeAt, F_i_Disk_nodeAt_1, Q_b_Compare, Q_sl_Contains_int64, Q_i_Disk_nodeAt, F_i_treeWalk_visit, B_i_treeWalk_visit_w, Qr_i_treeWalk_visit, Q_i_treeWalk_visit] at *); first | done | ((try simp only [visP, Option.getD_none, Option.getD_some, hn] at *); grind)))) | skip)
        | (
          refine lp_v (V := (Nat) × (Nat) × (Nat) × (Nat) × (Nat) × (Bool) × (List (List Int)) × (List Int) × (List Int) × (List Int) × (Int)) (fun ((N, N1, N2, N4, N5, F, K, V, G, P, dp) : (Nat) × (Nat) × (Nat) × (Nat) × (Nat) × (Bool) × (List (List Int)) × (List Int) × (List Int) × (List Int) × (Int)) => ⟨[.bptr 0 0, Jk, Jk, Jk, Jk, Jk, Jk, Jk, Jk, Jk, Jk, .bptr 3 0, Jk, Jk, Jk, Jk, Jk, Jk, Jk, Jk, Jk, Jk, Jk, Jk, Jk, Jk, Jk, Jk, Jk, Jk, Jk, Jk, Jk, Jk, Jk, Jk, Jk, Jk, Jk, Jk, Jk, Jk, Jk, Jk, Jk, Jk, Jk, Jk, Jk, Jk, Jk, Jk, Jk, Jk, Jk, Jk, Jk, Jk, Jk, Jk, Jk, Jk, Jk, Jk, Jk, Jk, Jk, Jk, Jk, Jk, Jk, Jk, Jk, Jk, Jk, Jk, Jk, Jk, Jk, Jk, Jk, Jk, Jk, Jk, Jk, Jk, Jk, Jk, Jk, Jk, Jk, Jk, Jk, Jk, Jk, Jk, Jk, Jk, Jk, Jk, Jk, Jk, Jk, Jk, Jk, Jk, Jk, Jk, Jk, Jk, Jk, Jk, Jk, Jk, Jk, Jk, Jk, Jk, Jk, Jk, Jk, Jk, Jk, Jk, Jk, Jk, Jk, Jk, Jk, Jk, Jk, Jk, Jk, Jk, Jk, Jk, Jk, Jk, Jk, Jk, Jk, Jk, Jk, Jk, Jk, Jk, Jk, Jk, Jk, Jk, Jk, Jk, Jk, Jk, Jk, Jk, Jk, Jk, Jk, Jk, Jk, Jk, Jk, Jk, Jk, Jk, Jk, Jk, Jk, Jk, Jk, Jk, Jk, Jk, Jk], [some (.box [.dat (.sl (.sl (.int .u8))) w_0_0, .dat (.sl (.pair (.int .i64) (.pair (.sl (.int .u8)) .unit))) w_0_1, .ref (.int .i64) 1 0 [] 0 N1, .ref (.pair (.sl (.int .u8)) (.pair (.int .i64) .unit)) 2 0 [] 0 N2, .dat (.int .i64) dp]), some (.row 0 (.int .i64) .sh P), some (.row 0 (.pair (.sl (.int .u8)) (.pair (.int .i64) .unit)) (.pr (.ow .sh) (.pr .sh .sh)) w_2), some (.box [.dat .bool F, .ref (.sl (.int .u8)) 4 0 [] 0 N, .ref (.int .i64) 5 0 [] 0 N4, .ref (.int .i64) 6 0 [] 0 N5]), some (.row 0 (.sl (.int .u8)) (.ow .sh) K), some (.row 0 (.int .i64) .sh V), some (.row 0 (.int .i64) .sh G), some (.gh [.bptr 0 0])]⟩) (fun ((N, N1, N2, N4, N5, F, K, V, G, P, dp) : (Nat) × (Nat) × (Nat) × (Nat) × (Nat) × (Bool) × (List (List Int)) × (List Int) × (List Int) × (List Int) × (Int)) => ks.all (inBd ([] : List Int) high) = true ∧ lf = true ∧ depth = deepOf depth w_3 ∧ dp = deepOf depth w_3 ∧ N = ks.length ∧ N1 = P.length ∧ N2 = w_2.length ∧ N4 = vs.length ∧ F = lf ∧ V = vs ∧ P = w_1 ++ [id] ∧ K = ks) (fun ((N, N1, N2, N4, N5, F, K, V, G, P, dp) : (Nat) × (Nat) × (Nat) × (Nat) × (Nat) × (Bool) × (List (List Int)) × (List Int) × (List Int) × (List Int) × (Int)) => 0) (_, _, _, _, _, _, _, _, _, _, _) rfl ?_ ?_
          · subst hR0 hB_w hg_F_b_Compare hg_Q_b_Compare hg_F_sl_Contains_int64 hg_Q_sl_Contains_int64 hg_F_i_Disk_nodeAt hg_F_i_Disk_nodeAt_1 hg_Q_i_Disk_nodeAt hg_F_i_treeWalk_visit hg_B_i_treeWalk_visit_w hg_Qr_i_treeWalk_visit
            (try simp only [Alg.std, List.drop_zero, List.take_length, List.take_succ_cons, List.take_zero, F_b_Compare, F_sl_Contains_int64, F_i_Disk_nodeAt, F_i_Disk_nodeAt_1, Q_b_Compare, Q_sl_Contains_int64, Q_i_Disk_nodeAt, F_i_treeWalk_visit, B_i_treeWalk_visit_w, Qr_i_treeWalk_visit, Q_i_treeWalk_visit] at *)
            (try simp only [visP, Option.getD_none, Option.getD_some, hn] at *); 
            grind [deepOf]
          rintro ⟨N, N1, N2, N4, N5, F, K, V, G, P, dp⟩ hf I hI
          replace hf : ks.all (inBd ([] : List Int) high) = true ∧ lf = true ∧ depth = deepOf depth w_3 ∧ dp = deepOf depth w_3 ∧ N = ks.length ∧ N1 = P.length ∧ N2 = w_2.length ∧ N4 = vs.length ∧ F = lf ∧ V = vs ∧ P = w_1 ++ [id] ∧ K = ks := hf
          generalize hL : Lg.std = L
          generalize hA : Alg.std = A
          cbv
          subst hL hA
          try dsimp only [Ty.den]
          subst hI
          obtain ⟨h1, h2, h3, h4, h5, h6, h7, h8, h9, h10, h11, h12⟩ := hf
          have hVe := (hV4 (by assumption) (by assumption) (by assumption)).2.2.1 h1 h2 h3
          clear hV1 hV2 hV3 hV4 hO hst hie hid hsu htk hW hlo' hhi'
          repeat' (first | intro _ | apply And.intro)
          all_goals first | (with_reducible exact True.intro) | (with_reducible assumption) | (simp only [Alg.std]; omega) | ((fail_if_success (refine lp_v (V := Unit) (fun _ => ⟨[], []⟩) (fun _ => True) (fun _ => 0) () ?_ ?_ ?_)); (try simp only [Lg.std, Alg.std, List.drop_zero, List.take_length] at *); (try refine ⟨(_, _, _, _, _, _, _, _, _, _, _), rfl, ?_, ?_⟩); (all_goals (subst hR0 hB_w hg_F_b_Compare hg_Q_b_Compare hg_F_sl_Contains_int64 hg_Q_sl_Contains_int64 hg_F_i_Disk_nodeAt hg_F_i_Disk_nodeAt_1 hg_Q_i_Disk_nodeAt hg_F_i_treeWalk_visit hg_B_i_treeWalk_visit_w hg_Qr_i_treeWalk_visit; (try simp only [Lg.std, Alg.std, List.drop_zero, List.take_length, F_b_Compare, F_sl_Contains_int64, F_i_Disk_nodeAt, F_i_Disk_nodeAt_1, Q_b_Compare, Q_sl_Contains_int64, Q_i_Disk_nodeAt, F_i_treeWalk_visit, B_i_treeWalk_visit_w, Qr_i_treeWalk_visit, Q_i_treeWalk_visit] at *); first | done | ((try simp only [visP, Option.getD_none, Option.getD_some, hn] at *); grind)))) | skip
          all_goals (
            refine lp_v (V := (Int) × (Int) × (Nat) × (Nat) × (Nat) × (Nat) × (Nat) × (Bool) × (List (List Int)) × (List Int) × (List Int) × (List Int) × (List RowT) × (Int)) (fun ((j, M, N, N1, N2, N4, N5, F, K, V, G, P, R, dp) : (Int) × (Int) × (Nat) × (Nat) × (Nat) × (Nat) × (Nat) × (Bool) × (List (List Int)) × (List Int) × (List Int) × (List Int) × (List RowT) × (Int)) => ⟨[.bptr 0 0, Jk, Jk, Jk, Jk, Jk, Jk, Jk, Jk, Jk, Jk, .bptr 3 0, Jk, Jk, Jk, Jk, Jk, Jk, Jk, Jk, Jk, Jk, Jk, Jk, Jk, Jk, Jk, Jk, Jk, Jk, Jk, Jk, Jk, Jk, Jk, Jk, Jk, Jk, Jk, Jk, Jk, Jk, Jk, Jk, Jk, Jk, Jk, Jk, Jk, Jk, Jk, Jk, Jk, Jk, Jk, Jk, Jk, Jk, Jk, Jk, Jk, Jk, Jk, Jk, Jk, Jk, Jk, Jk, Jk, Jk, Jk, Jk, Jk, Jk, Jk, Jk, Jk, Jk, Jk, Jk, Jk, Jk, Jk, Jk, Jk, Jk, Jk, Jk, Jk, Jk, Jk, Jk, Jk, Jk, Jk, Jk, Jk, Jk, Jk, Jk, Jk, Jk, Jk, Jk, Jk, Jk, Jk, Jk, Jk, Jk, Jk, Jk, .ref (.sl (.int .u8)) 4 0 [] 0 N, .dat (.int .i64) M, .dat (.int .i64) j, Jk, Jk, Jk, Jk, Jk, Jk, Jk, Jk, Jk, Jk, Jk, Jk, Jk, Jk, Jk, Jk, Jk, Jk, Jk, Jk, Jk, Jk, Jk, Jk, Jk, Jk, Jk, Jk, Jk, Jk, Jk, Jk, Jk, Jk, Jk, Jk, Jk, Jk, Jk, Jk, Jk, Jk, Jk, Jk, Jk, Jk, Jk, Jk, Jk, Jk, Jk, Jk, Jk, Jk, Jk, Jk, Jk, Jk, Jk, Jk], [some (.box [.dat (.sl (.sl (.int .u8))) w_0_0, .dat (.sl (.pair (.int .i64) (.pair (.sl (.int .u8)) .unit))) w_0_1, .ref (.int .i64) 1 0 [] 0 N1, .ref (.pair (.sl (.int .u8)) (.pair (.int .i64) .unit)) 2 0 [] 0 N2, .dat (.int .i64) dp]), some (.row 0 (.int .i64) .sh P), some (.row 0 (.pair (.sl (.int .u8)) (.pair (.int .i64) .unit)) (.pr (.ow .sh) (.pr .sh .sh)) R), some (.box [.dat .bool F, .ref (.sl (.int .u8)) 4 0 [] 0 N, .ref (.int .i64) 5 0 [] 0 N4, .ref (.int .i64) 6 0 [] 0 N5]), some (.row 0 (.sl (.int .u8)) .no K), some (.row 0 (.int .i64) .sh V), some (.row 0 (.int .i64) .sh G), some (.gh [.bptr 0 0])]⟩) (fun ((j, M, N, N1, N2, N4, N5, F, K, V, G, P, R, dp) : (Int) × (Int) × (Nat) × (Nat) × (Nat) × (Nat) × (Nat) × (Bool) × (List (List Int)) × (List Int) × (List Int) × (List Int) × (List RowT) × (Int)) => ks.all (inBd ([] : List Int) high) = true ∧ lf = true ∧ depth = deepOf depth w_3 ∧ dp = deepOf depth w_3 ∧ M = ks.length ∧ N = ks.length ∧ N1 = P.length ∧ N2 = R.length ∧ N4 = vs.length ∧ F = lf ∧ V = vs ∧ P = w_1 ++ [id] ∧ 0 ≤ j ∧ j ≤ ks.length ∧ K.length = ks.length ∧ R = w_2 ++ rowsOf (ks.take j.toNat) (vs.take j.toNat) ∧ K.drop j.toNat = ks.drop j.toNat) (fun ((j, M, N, N1, N2, N4, N5, F, K, V, G, P, R, dp) : (Int) × (Int) × (Nat) × (Nat) × (Nat) × (Nat) × (Nat) × (Bool) × (List (List Int)) × (List Int) × (List Int) × (List Int) × (List RowT) × (Int)) => ks.length - j.toNat) (0, _, _, _, _, _, _, _, _, _, _, _, _, _) rfl ?_ ?_
            · subst hR0 hB_w hg_F_b_Compare hg_Q_b_Compare hg_F_sl_Contains_int64 hg_Q_sl_Contains_int64 hg_F_i_Disk_nodeAt hg_F_i_Disk_nodeAt_1 hg_Q_i_Disk_nodeAt hg_F_i_treeWalk_visit hg_B_i_treeWalk_visit_w hg_Qr_i_treeWalk_visit
              (try simp only [Alg.std, List.drop_zero, List.take_length, List.take_succ_cons, List.take_zero, F_b_Compare, F_sl_Contains_int64, F_i_Disk_nodeAt, F_i_Disk_nodeAt_1, Q_b_Compare, Q_sl_Contains_int64, Q_i_Disk_nodeAt, F_i_treeWalk_visit, B_i_treeWalk_visit_w, Qr_i_treeWalk_visit, Q_i_treeWalk_visit] at *)
              (try simp only [visP, Option.getD_none, Option.getD_some, hn] at *); 
              grind [deepOf, rowsOf]
            rintro ⟨j, M, N, N1, N2, N4, N5, F, K, V, G, P, R, dp⟩ hf I hI
            replace hf : ks.all (inBd ([] : List Int) high) = true ∧ lf = true ∧ depth = deepOf depth w_3 ∧ dp = deepOf depth w_3 ∧ M = ks.length ∧ N = ks.length ∧ N1 = P.length ∧ N2 = R.length ∧ N4 = vs.length ∧ F = lf ∧ V = vs ∧ P = w_1 ++ [id] ∧ 0 ≤ j ∧ j ≤ ks.length ∧ K.length = ks.length ∧ R = w_2 ++ rowsOf (ks.take j.toNat) (vs.take j.toNat) ∧ K.drop j.toNat = ks.drop j.toNat := hf
            generalize hL : Lg.std = L
            generalize hA : Alg.std = A
            cbv
            subst hL hA
            try dsimp only [Ty.den]
            subst hI
            obtain ⟨h1, h2, h3, h4, h5, h6, h7, h8, h9, h10, h11, h12, h13, h14, h15, h16, h17⟩ := hf
            have hat := drop_at (zs := K) ([] : List Int) h17
            have hnx := fun v => drop_next (zs := K) v h17
            have hrs := fun (h : j.toNat < ks.length) => rowsOf_snoc ks vs j.toNat h
            have hra := fun (h : ks.length ≤ j.toNat) => (List.take_of_length_le h : ks.take j.toNat = ks)
            have hrb := fun (h : vs.length ≤ j.toNat) => (List.take_of_length_le h : vs.take j.toNat = vs)
            have hsu : (j + 1).toNat = j.toNat + 1 := by omega
            have hrl := rowsOf_len (ks.take j.toNat) (vs.take j.toNat)
            repeat' (first | intro _ | apply And.intro)
            all_goals first | (with_reducible exact True.intro) | (with_reducible assumption) | (simp only [Alg.std]; omega) | ((fail_if_success (refine lp_v (V := Unit) (fun _ => ⟨[], []⟩) (fun _ => True) (fun _ => 0) () ?_ ?_ ?_)); (try simp only [Lg.std, Alg.std, List.drop_zero, List.take_length] at *); (try refine ⟨(_, _, _, _, _, _, _, _, _, _, _, _, _, _), rfl, ?_, ?_⟩); (all_goals (subst hR0 hB_w hg_F_b_Compare hg_Q_b_Compare hg_F_sl_Contains_int64 hg_Q_sl_Contains_int64 hg_F_i_Disk_nodeAt hg_F_i_Disk_nodeAt_1 hg_Q_i_Disk_nodeAt hg_F_i_treeWalk_visit hg_B_i_treeWalk_visit_w hg_Qr_i_treeWalk_visit; (try simp only [Lg.std, Alg.std, List.drop_zero, List.take_length, F_b_Compare, F_sl_Contains_int64, F_i_Disk_nodeAt, F_i_Disk_nodeAt_1, Q_b_Compare, Q_sl_Contains_int64, Q_i_Disk_nodeAt, F_i_treeWalk_visit, B_i_treeWalk_visit_w, Qr_i_treeWalk_visit, Q_i_treeWalk_visit] at *); first | done | ((try simp only [visP, Option.getD_none, Option.getD_some, hn] at *); grind [deepOf])))) | skip))))
theorem ctc_i_treeWalk_visit_sn (n : Nat) (okr : ConOk pg 130 (conr_i_treeWalk_visit n)) (w : ((List (List (Int))) × (List ((Int) × (List (Int)) × Unit)) × Unit) × (List (Int)) × (List ((List (Int)) × (Int) × Unit)) × (Int) × Unit) (id : Int) (depth : Int) (low : List (Int)) : Ct pg 130 [.mp (.pair (.pair (.sl (.sl (.int .u8))) (.pair (.sl (.pair (.int .i64) (.pair (.sl (.int .u8)) .unit))) .unit)) (.pair (.sl (.int .i64)) (.pair (.sl (.pair (.sl (.int .u8)) (.pair (.int .i64) .unit))) (.pair (.int .i64) .unit)))) (.pr .sh (.pr (.ow .sh) (.pr (.ow (.pr (.ow .sh) (.pr .sh .sh))) (.pr .sh .sh)))) w, .dat (.int .i64) id, .dat (.int .i64) depth, .dat (.sl (.int .u8)) low, .nilS] ⟨[Qr_i_treeWalk_visit (n + 1) w id depth (some low) none], [⟨(.int .i64), .sh, F_i_treeWalk_visit w id depth (some low) none⟩], [.mp (.pair (.pair (.sl (.sl (.int .u8))) (.pair (.sl (.pair (.int .i64) (.pair (.sl (.int .u8)) .unit))) .unit)) (.pair (.sl (.int .i64)) (.pair (.sl (.pair (.sl (.int .u8)) (.pair (.int .i64) .unit))) (.pair (.int .i64) .unit)))) (.pr .sh (.pr (.ow .sh) (.pr (.ow (.pr (.ow .sh) (.pr .sh .sh))) (.pr .sh .sh)))) (B_i_treeWalk_visit_w w id depth (some low) none)]⟩ := by
  refine ct_claim (O := O_i_treeWalk_visit) (τ := τ_i_treeWalk_visit) (EnvOk.of (by kernel_rfl) (by kernel_rfl)) (GOk.of (.cons ok_b_Compare (.cons ok_sl_Contains_int64 (.cons ok_i_Disk_nodeAt (.cons okr .nil))) : AllOk pg [(68, con_b_Compare), (136, con_sl_Contains_int64), (137, con_i_Disk_nodeAt), (130, conr_i_treeWalk_visit n)])) mixed (Enters.of (by kernel_rfl)) (fn := Go.Proofs.Try.f130) (by kernel_rfl) rfl (by kernel_rfl) ?_
  intro hp hw
  clear okr
  have hq : (Qr_i_treeWalk_visit (n + 1)) w id depth (some low) none := hp _ (List.mem_singleton.2 rfl)
  clear hp
  change claim Lg.std Alg.std τ_i_treeWalk_visit (Gam.of [(68, con_b_Compare), (136, con_sl_Contains_int64), (137, con_i_Disk_nodeAt), (130, conr_i_treeWalk_visit n)]) O_i_treeWalk_visit Go.Proofs.Try.f130 [.mp (.pair (.pair (.sl (.sl (.int .u8))) (.pair (.sl (.pair (.int .i64) (.pair (.sl (.int .u8)) .unit))) .unit)) (.pair (.sl (.int .i64)) (.pair (.sl (.pair (.sl (.int .u8)) (.pair (.int .i64) .unit))) (.pair (.int .i64) .unit)))) (.pr .sh (.pr (.ow .sh) (.pr (.ow (.pr (.ow .sh) (.pr .sh .sh))) (.pr .sh .sh)))) w, .dat (.int .i64) id, .dat (.int .i64) depth, .dat (.sl (.int .u8)) low, .nilS] ⟨[Qr_i_treeWalk_visit (n + 1) w id depth (some low) none], [⟨(.int .i64), .sh, F_i_treeWalk_visit w id depth (some low) none⟩], [.mp (.pair (.pair (.sl (.sl (.int .u8))) (.pair (.sl (.pair (.int .i64) (.pair (.sl (.int .u8)) .unit))) .unit)) (.pair (.sl (.int .i64)) (.pair (.sl (.pair (.sl (.int .u8)) (.pair (.int .i64) .unit))) (.pair (.int .i64) .unit)))) (.pr .sh (.pr (.ow .sh) (.pr (.ow (.pr (.ow .sh) (.pr .sh .sh))) (.pr .sh .sh)))) (B_i_treeWalk_visit_w w id depth (some low) none)]⟩
  delta con_b_Compare con_sl_Contains_int64 con_i_Disk_nodeAt conr_i_treeWalk_visit
  generalize hR0 : F_i_treeWalk_visit w id depth (some low) none = R0
  generalize hB_w : B_i_treeWalk_visit_w w id depth (some low) none = B_w
  generalize (Qr_i_treeWalk_visit (n + 1)) w id depth (some low) none = Q0
  generalize hg_F_b_Compare : F_b_Compare = g_F_b_Compare
  generalize hg_Q_b_Compare : Q_b_Compare = g_Q_b_Compare
  generalize hg_F_sl_Contains_int64 : F_sl_Contains_int64 = g_F_sl_Contains_int64
  generalize hg_Q_sl_Contains_int64 : Q_sl_Contains_int64 = g_Q_sl_Contains_int64
  generalize hg_F_i_Disk_nodeAt : F_i_Disk_nodeAt = g_F_i_Disk_nodeAt
  generalize hg_F_i_Disk_nodeAt_1 : F_i_Disk_nodeAt_1 = g_F_i_Disk_nodeAt_1
  generalize hg_Q_i_Disk_nodeAt : Q_i_Disk_nodeAt = g_Q_i_Disk_nodeAt
  generalize hg_F_i_treeWalk_visit : F_i_treeWalk_visit = g_F_i_treeWalk_visit
  generalize hg_B_i_treeWalk_visit_w : B_i_treeWalk_visit_w = g_B_i_treeWalk_visit_w
  generalize hg_Qr_i_treeWalk_visit : Qr_i_treeWalk_visit n = g_Qr_i_treeWalk_visit
  generalize hL : Lg.std = L
  generalize hA : Alg.std = A
  cbv
  subst hL hA
  try dsimp only [Ty.den]
  obtain ⟨⟨w_0_0, w_0_1, ⟨⟩⟩, w_1, w_2, w_3, ⟨⟩⟩ := w
  simp only [Qr_i_treeWalk_visit, Q_i_treeWalk_visit] at hq
  obtain ⟨⟨hg, hok, hd1, hd2, hlo, hhi⟩, hms⟩ := hq
  cases hn : nodeAt (w_0_0, w_0_1, PUnit.unit) id with
  | mk nc nd =>
  obtain ⟨⟨lf, ks, vs, kd, ⟨⟩⟩, ⟨⟩⟩ := nd
  have hV := visP_eqs (fun l n => l ++ [n]) (w_0_0, w_0_1, PUnit.unit) id depth low ([] : List Int) w_1 w_2 w_3 nc lf ks vs kd ⟨hd1, hd2⟩ hn
  obtain ⟨hV1, hV2, hV3, hV4⟩ := hV
  clear hw
  have hW := fun (h : nc = 0) => nodeFault_walk (lf, ks, vs, kd, PUnit.unit) (by have := nodeAt_ok (w_0_0, w_0_1, PUnit.unit) id (by rw [hn]; exact h); rw [hn] at this; exact this)
  dsimp only at hW
  have hlen := okW_len (w_1, w_2, w_3, PUnit.unit) hok
  dsimp only at hlen
  have hO := fun (hc : w_1.contains id = false) (h0 : nc = 0) x => okW_id (w_0_0, w_0_1, PUnit.unit) hg id w_1 w_2 w_3 x hok hc (by rw [hn]; exact h0) (fun l n => l ++ [n]) okP_app
  try dsimp only at hO
  have hlo' : low = [] ∨ low.length ≠ 0 := by first | exact .inl rfl | (right; simpa using hlo)
  have hhi' : ([] : List Int) = [] ∨ ([] : List Int).length ≠ 0 := by first | exact .inl rfl | (right; simpa using hhi)
  repeat' (first | intro _ | apply And.intro)
  all_goals first | trivial | (simp only [Alg.std]; omega) | ((fail_if_success (refine lp_v (V := Unit) (fun _ => ⟨[], []⟩) (fun _ => True) (fun _ => 0) () ?_ ?_ ?_)); subst hR0 hB_w hg_F_b_Compare hg_Q_b_Compare hg_F_sl_Contains_int64 hg_Q_sl_Contains_int64 hg_F_i_Disk_nodeAt hg_F_i_Disk_nodeAt_1 hg_Q_i_Disk_nodeAt hg_F_i_treeWalk_visit hg_B_i_treeWalk_visit_w hg_Qr_i_treeWalk_visit; (try simp only [Alg.std, F_b_Compare, F_sl_Contains_int64, F_i_Disk_nodeAt, F_i_Disk_nodeAt_1, Q_b_Compare, Q_sl_Contains_int64, Q_i_Disk_nodeAt, F_i_treeWalk_visit, B_i_treeWalk_visit_w, Qr_i_treeWalk_visit, Q_i_treeWalk_visit] at *); (try simp only [visP, Option.getD_none, Option.getD_some, hn] at *); all_goals grind) | skip
  all_goals (
    refine lp_v (V := (Nat) × (Nat) × (Nat) × (Nat) × (Nat) × (Bool) × (List (List Int)) × (List Int) × (List Int)) (fun ((N, N1, N2, N4, N5, F, K, V, G) : (Nat) × (Nat) × (Nat) × (Nat) × (Nat) × (Bool) × (List (List Int)) × (List Int) × (List Int)) => ⟨[.bptr 0 0, .dat (.int .i64) id, .dat (.int .i64) depth, .dat (.sl (.int .u8)) low, .nilS, Jk, Jk, Jk, Jk, Jk, Jk, .bptr 3 0, Jk, Jk, Jk, Jk, Jk, Jk, Jk, Jk, Jk, Jk, Jk, Jk, Jk, Jk, Jk, Jk, Jk, Jk, Jk, Jk, Jk, Jk, Jk, Jk, Jk, Jk, Jk, Jk, Jk, Jk, Jk, Jk, Jk, Jk, Jk, Jk, Jk, Jk, Jk, Jk, Jk, Jk, Jk, Jk, Jk, Jk, Jk, Jk, Jk, Jk, Jk, Jk, Jk, Jk, Jk, Jk, Jk, Jk, Jk, Jk, Jk, Jk, Jk, Jk, Jk, Jk, Jk, Jk, Jk, Jk, Jk, Jk, Jk, Jk, Jk, Jk, Jk, Jk, Jk, Jk, Jk, Jk, Jk, Jk, Jk, Jk, Jk, Jk, Jk, Jk, Jk, Jk, Jk, Jk, Jk, Jk, Jk, Jk, Jk, Jk, Jk, Jk, Jk, Jk, Jk, Jk, Jk, Jk, Jk, Jk, Jk, Jk, Jk, Jk, Jk, Jk, Jk, Jk, Jk, Jk, Jk, Jk, Jk, Jk, Jk, Jk, Jk, Jk, Jk, Jk, Jk, Jk, Jk, Jk, Jk, Jk, Jk, Jk, Jk, Jk, Jk, Jk, Jk, Jk, Jk, Jk, Jk, Jk, Jk, Jk, Jk, Jk, Jk, Jk, Jk, Jk, Jk, Jk, Jk, Jk, Jk, Jk, Jk], [some (.box [.dat (.sl (.sl (.int .u8))) w_0_0, .dat (.sl (.pair (.int .i64) (.pair (.sl (.int .u8)) .unit))) w_0_1, .ref (.int .i64) 1 0 [] 0 N1, .ref (.pair (.sl (.int .u8)) (.pair (.int .i64) .unit)) 2 0 [] 0 N2, .dat (.int .i64) w_3]), some (.row 0 (.int .i64) .sh w_1), some (.row 0 (.pair (.sl (.int .u8)) (.pair (.int .i64) .unit)) (.pr (.ow .sh) (.pr .sh .sh)) w_2), some (.box [.dat .bool F, .ref (.sl (.int .u8)) 4 0 [] 0 N, .ref (.int .i64) 5 0 [] 0 N4, .ref (.int .i64) 6 0 [] 0 N5]), some (.row 0 (.sl (.int .u8)) (.ow .sh) K), some (.row 0 (.int .i64) .sh V), some (.row 0 (.int .i64) .sh G), some (.gh [.bptr 0 0])]⟩) (fun ((N, N1, N2, N4, N5, F, K, V, G) : (Nat) × (Nat) × (Nat) × (Nat) × (Nat) × (Bool) × (List (List Int)) × (List Int) × (List Int)) => nc = 0 ∧ w_1.contains id = false ∧ ¬ (depth > 4 ∨ (depth > 1 ∧ ks.length < 2) ∨ ks.length = 0) ∧ N = ks.length ∧ N1 = w_1.length ∧ N2 = w_2.length ∧ N4 = vs.length ∧ N5 = kd.length ∧ F = lf ∧ K = ks ∧ V = vs ∧ G = kd) (fun ((N, N1, N2, N4, N5, F, K, V, G) : (Nat) × (Nat) × (Nat) × (Nat) × (Nat) × (Bool) × (List (List Int)) × (List Int) × (List Int)) => 0) (_, _, _, _, _, _, _, _, _) rfl ?_ ?_
    · subst hR0 hB_w hg_F_b_Compare hg_Q_b_Compare hg_F_sl_Contains_int64 hg_Q_sl_Contains_int64 hg_F_i_Disk_nodeAt hg_F_i_Disk_nodeAt_1 hg_Q_i_Disk_nodeAt hg_F_i_treeWalk_visit hg_B_i_treeWalk_visit_w hg_Qr_i_treeWalk_visit
      (try simp only [Alg.std, List.drop_zero, List.take_length, List.take_succ_cons, List.take_zero, F_b_Compare, F_sl_Contains_int64, F_i_Disk_nodeAt, F_i_Disk_nodeAt_1, Q_b_Compare, Q_sl_Contains_int64, Q_i_Disk_nodeAt, F_i_treeWalk_visit, B_i_treeWalk_visit_w, Qr_i_treeWalk_visit, Q_i_treeWalk_visit] at *)
      (try simp only [visP, Option.getD_none, Option.getD_some, hn] at *); 
      grind
    rintro ⟨N, N1, N2, N4, N5, F, K, V, G⟩ hf I hI
    replace hf : nc = 0 ∧ w_1.contains id = false ∧ ¬ (depth > 4 ∨ (depth > 1 ∧ ks.length < 2) ∨ ks.length = 0) ∧ N = ks.length ∧ N1 = w_1.length ∧ N2 = w_2.length ∧ N4 = vs.length ∧ N5 = kd.length ∧ F = lf ∧ K = ks ∧ V = vs ∧ G = kd := hf
    generalize hL : Lg.std = L
    generalize hA : Alg.std = A
    cbv
    subst hL hA
    try dsimp only [Ty.den]
    subst hI
    obtain ⟨h1, h2, h3, h4, h5, h6, h7, h8, h9, h10, h11, h12⟩ := hf
    repeat' (first | intro _ | apply And.intro)
    all_goals first | (with_reducible exact True.intro) | (with_reducible assumption) | (simp only [Alg.std]; omega) | ((fail_if_success (refine lp_v (V := Unit) (fun _ => ⟨[], []⟩) (fun _ => True) (fun _ => 0) () ?_ ?_ ?_)); (try simp only [Lg.std, Alg.std, List.drop_zero, List.take_length] at *); (try refine ⟨(_, _, _, _, _, _, _, _, _), rfl, ?_, ?_⟩); (all_goals (subst hR0 hB_w hg_F_b_Compare hg_Q_b_Compare hg_F_sl_Contains_int64 hg_Q_sl_Contains_int64 hg_F_i_Disk_nodeAt hg_F_i_Disk_nodeAt_1 hg_Q_i_Disk_nodeAt hg_F_i_treeWalk_visit hg_B_i_treeWalk_visit_w hg_Qr_i_treeWalk_visit; (try simp only [Lg.std, Alg.std, List.drop_zero, List.take_length, F_b_Compare, F_sl_Contains_int64, F_i_Disk_nodeAt, F_i_Disk_nodeAt_1, Q_b_Compare, Q_sl_Contains_int64, Q_i_Disk_nodeAt, F_i_treeWalk_visit, B_i_treeWalk_visit_w, Qr_i_treeWalk_visit, Q_i_treeWalk_visit] at *); first | done | ((try simp only [visP, Option.getD_none, Option.getD_some, hn] at *); grind)))) | skip
    all_goals (
      refine lp_v (V := (Int) × (Int) × (Nat) × (Nat) × (Nat) × (Nat) × (Nat) × (Bool) × (List (List Int)) × (List Int) × (List Int)) (fun ((i, M, N, N1, N2, N4, N5, F, K, V, G) : (Int) × (Int) × (Nat) × (Nat) × (Nat) × (Nat) × (Nat) × (Bool) × (List (List Int)) × (List Int) × (List Int)) => ⟨[.bptr 0 0, .dat (.int .i64) id, .dat (.int .i64) depth, .dat (.sl (.int .u8)) low, .nilS, Jk, Jk, Jk, Jk, Jk, Jk, .bptr 3 0, Jk, Jk, Jk, Jk, Jk, Jk, Jk, Jk, Jk, Jk, Jk, Jk, Jk, Jk, Jk, Jk, Jk, Jk, Jk, Jk, Jk, Jk, Jk, Jk, Jk, Jk, Jk, Jk, Jk, Jk, Jk, Jk, Jk, Jk, Jk, Jk, Jk, Jk, Jk, Jk, Jk, Jk, Jk, Jk, Jk, Jk, Jk, .ref (.sl (.int .u8)) 4 0 [] 0 N, .dat (.int .i64) M, .dat (.int .i64) i, Jk, Jk, Jk, Jk, Jk, Jk, Jk, Jk, Jk, Jk, Jk, Jk, Jk, Jk, Jk, Jk, Jk, Jk, Jk, Jk, Jk, Jk, Jk, Jk, Jk, Jk, Jk, Jk, Jk, Jk, Jk, Jk, Jk, Jk, Jk, Jk, Jk, Jk, Jk, Jk, Jk, Jk, Jk, Jk, Jk, Jk, Jk, Jk, Jk, Jk, Jk, Jk, Jk, Jk, Jk, Jk, Jk, Jk, Jk, Jk, Jk, Jk, Jk, Jk, Jk, Jk, Jk, Jk, Jk, Jk, Jk, Jk, Jk, Jk, Jk, Jk, Jk, Jk, Jk, Jk, Jk, Jk, Jk, Jk, Jk, Jk, Jk, Jk, Jk, Jk, Jk, Jk, Jk, Jk, Jk, Jk, Jk, Jk, Jk, Jk, Jk, Jk, Jk, Jk, Jk, Jk, Jk, Jk, Jk, Jk, Jk, Jk, Jk], [some (.box [.dat (.sl (.sl (.int .u8))) w_0_0, .dat (.sl (.pair (.int .i64) (.pair (.sl (.int .u8)) .unit))) w_0_1, .ref (.int .i64) 1 0 [] 0 N1, .ref (.pair (.sl (.int .u8)) (.pair (.int .i64) .unit)) 2 0 [] 0 N2, .dat (.int .i64) w_3]), some (.row 0 (.int .i64) .sh w_1), some (.row 0 (.pair (.sl (.int .u8)) (.pair (.int .i64) .unit)) (.pr (.ow .sh) (.pr .sh .sh)) w_2), some (.box [.dat .bool F, .ref (.sl (.int .u8)) 4 0 [] 0 N, .ref (.int .i64) 5 0 [] 0 N4, .ref (.int .i64) 6 0 [] 0 N5]), some (.row 0 (.sl (.int .u8)) (.ow .sh) K), some (.row 0 (.int .i64) .sh V), some (.row 0 (.int .i64) .sh G), some (.gh [.bptr 0 0])]⟩) (fun ((i, M, N, N1, N2, N4, N5, F, K, V, G) : (Int) × (Int) × (Nat) × (Nat) × (Nat) × (Nat) × (Nat) × (Bool) × (List (List Int)) × (List Int) × (List Int)) => nc = 0 ∧ w_1.contains id = false ∧ ¬ (depth > 4 ∨ (depth > 1 ∧ ks.length < 2) ∨ ks.length = 0) ∧ M = ks.length ∧ N = ks.length ∧ N1 = w_1.length ∧ N2 = w_2.length ∧ N4 = vs.length ∧ N5 = kd.length ∧ F = lf ∧ K = ks ∧ V = vs ∧ G = kd ∧ 0 ≤ i ∧ i ≤ ks.length ∧ ks.all (inBd low ([] : List Int)) = (ks.drop i.toNat).all (inBd low ([] : List Int))) (fun ((i, M, N, N1, N2, N4, N5, F, K, V, G) : (Int) × (Int) × (Nat) × (Nat) × (Nat) × (Nat) × (Nat) × (Bool) × (List (List Int)) × (List Int) × (List Int)) => ks.length - i.toNat) (0, _, _, _, _, _, _, _, _, _, _) rfl ?_ ?_
      · subst hR0 hB_w hg_F_b_Compare hg_Q_b_Compare hg_F_sl_Contains_int64 hg_Q_sl_Contains_int64 hg_F_i_Disk_nodeAt hg_F_i_Disk_nodeAt_1 hg_Q_i_Disk_nodeAt hg_F_i_treeWalk_visit hg_B_i_treeWalk_visit_w hg_Qr_i_treeWalk_visit
        (try simp only [Alg.std, List.drop_zero, List.take_length, List.take_succ_cons, List.take_zero, F_b_Compare, F_sl_Contains_int64, F_i_Disk_nodeAt, F_i_Disk_nodeAt_1, Q_b_Compare, Q_sl_Contains_int64, Q_i_Disk_nodeAt, F_i_treeWalk_visit, B_i_treeWalk_visit_w, Qr_i_treeWalk_visit, Q_i_treeWalk_visit] at *)
        (try simp only [visP, Option.getD_none, Option.getD_some, hn] at *); 
        grind
      rintro ⟨i, M, N, N1, N2, N4, N5, F, K, V, G⟩ hf I hI
      replace hf : nc = 0 ∧ w_1.contains id = false ∧ ¬ (depth > 4 ∨ (depth > 1 ∧ ks.length < 2) ∨ ks.length = 0) ∧ M = ks.length ∧ N = ks.length ∧ N1 = w_1.length ∧ N2 = w_2.length ∧ N4 = vs.length ∧ N5 = kd.length ∧ F = lf ∧ K = ks ∧ V = vs ∧ G = kd ∧ 0 ≤ i ∧ i ≤ ks.length ∧ ks.all (inBd low ([] : List Int)) = (ks.drop i.toNat).all (inBd low ([] : List Int)) := hf
      generalize hL : Lg.std = L
      generalize hA : Alg.std = A
      cbv
      subst hL hA
      try dsimp only [Ty.den]
      subst hI
      obtain ⟨h1, h2, h3, h4, h5, h6, h7, h8, h9, h10, h11, h12, h13, h14, h15, h16⟩ := hf
      have htk : List.take N K = ks := by rw [h11, h5, List.take_length]
      have hst := fun (h : i.toNat < ks.length) => allg_step (inBd low ([] : List Int)) ks ([] : List Int) i.toNat h
      have hie := inBd_eq low ([] : List Int) (ks.getD i.toNat [])
      have hid := fun (h : ks.length ≤ i.toNat) => List.drop_of_length_le h
      have hsu : (i + 1).toNat = i.toNat + 1 := by omega
      have hW21 := hW (by assumption)
      repeat' (first | intro _ | apply And.intro)
      all_goals first | (with_reducible exact True.intro) | (with_reducible assumption) | (simp only [Alg.std]; omega) | ((fail_if_success (refine lp_v (V := Unit) (fun _ => ⟨[], []⟩) (fun _ => True) (fun _ => 0) () ?_ ?_ ?_)); (try simp only [Lg.std, Alg.std, List.drop_zero, List.take_length] at *); (try refine ⟨(_, _, _, _, _, _, _, _, _, _, _), rfl, ?_, ?_⟩); (all_goals (subst hR0 hB_w hg_F_b_Compare hg_Q_b_Compare hg_F_sl_Contains_int64 hg_Q_sl_Contains_int64 hg_F_i_Disk_nodeAt hg_F_i_Disk_nodeAt_1 hg_Q_i_Disk_nodeAt hg_F_i_treeWalk_visit hg_B_i_treeWalk_visit_w hg_Qr_i_treeWalk_visit; (try simp only [Lg.std, Alg.std, List.drop_zero, List.take_length, F_b_Compare, F_sl_Contains_int64, F_i_Disk_nodeAt, F_i_Disk_nodeAt_1, Q_b_Compare, Q_sl_Contains_int64, Q_i_Disk_nodeAt, F_i_treeWalk_visit, B_i_treeWalk_visit_w, Qr_i_treeWalk_visit, Q_i_treeWalk_visit] at *); first | done | ((try simp only [visP, Option.getD_none, Option.getD_some, hn] at *); grind [deepOf])))) | skip
      all_goals first
        | (
          refine lp_v (V := (Int) × (Int) × (Nat) × (Nat) × (Nat) × (Nat) × (Bool) × (List (List Int)) × (List Int) × (List Int) × (List Int) × (List RowT) × (Int) × (List (List Int)) × (List PutT)) (fun ((j, M, N1, N2, N4, N5, F, K, V, G, P, R, dp, D0, D1) : (Int) × (Int) × (Nat) × (Nat) × (Nat) × (Nat) × (Bool) × (List (List Int)) × (List Int) × (List Int) × (List Int) × (List RowT) × (Int) × (List (List Int)) × (List PutT)) => ⟨[.bptr 0 0, Jk, .dat (.int .i64) depth, .dat (.sl (.int .u8)) low, .nilS, Jk, Jk, Jk, Jk, Jk, Jk, .bptr 3 0, Jk, Jk, Jk, Jk, Jk, Jk, Jk, Jk, Jk, Jk, Jk, Jk, Jk, Jk, Jk, Jk, Jk, Jk, Jk, Jk, Jk, Jk, Jk, Jk, Jk, Jk, Jk, Jk, Jk, Jk, Jk, Jk, Jk, Jk, Jk, Jk, Jk, Jk, Jk, Jk, Jk, Jk, Jk, Jk, Jk, Jk, Jk, Jk, Jk, Jk, Jk, Jk, Jk, Jk, Jk, Jk, Jk, Jk, Jk, Jk, Jk, Jk, Jk, Jk, Jk, Jk, Jk, Jk, Jk, Jk, Jk, Jk, Jk, Jk, Jk, Jk, Jk, Jk, Jk, Jk, Jk, Jk, Jk, Jk, Jk, Jk, Jk, Jk, Jk, Jk, Jk, Jk, Jk, Jk, Jk, Jk, Jk, Jk, Jk, Jk, Jk, Jk, Jk, Jk, Jk, Jk, Jk, Jk, Jk, Jk, Jk, Jk, Jk, Jk, Jk, Jk, Jk, Jk, Jk, Jk, Jk, Jk, Jk, Jk, Jk, .ref (.int .i64) 5 0 [] 0 N5, .dat (.int .i64) M, .dat (.int .i64) j, Jk, Jk, Jk, Jk, Jk, Jk, Jk, Jk, Jk, Jk, Jk, Jk, Jk, Jk, Jk, Jk, Jk, Jk, Jk, Jk, Jk, Jk, Jk, Jk, Jk, Jk, Jk, Jk, Jk, Jk, Jk, Jk, Jk, Jk, Jk], [some (.box [.dat (.sl (.sl (.int .u8))) D0, .dat (.sl (.pair (.int .i64) (.pair (.sl (.int .u8)) .unit))) D1, .ref (.int .i64) 1 0 [] 0 N1, .ref (.pair (.sl (.int .u8)) (.pair (.int .i64) .unit)) 2 0 [] 0 N2, .dat (.int .i64) dp]), some (.row 0 (.int .i64) .sh P), some (.row 0 (.pair (.sl (.int .u8)) (.pair (.int .i64) .unit)) (.pr (.ow .sh) (.pr .sh .sh)) R), some (.box [.dat .bool F, .dat (.sl (.sl (.int .u8))) K, .ref (.int .i64) 4 0 [] 0 N4, .ref (.int .i64) 5 0 [] 0 N5]), some (.row 0 (.int .i64) .sh V), some (.row 0 (.int .i64) .sh G), some (.gh [.bptr 0 0])]⟩) (fun ((j, M, N1, N2, N4, N5, F, K, V, G, P, R, dp, D0, D1) : (Int) × (Int) × (Nat) × (Nat) × (Nat) × (Nat) × (Bool) × (List (List Int)) × (List Int) × (List Int) × (List Int) × (List RowT) × (Int) × (List (List Int)) × (List PutT)) => D0 = w_0_0 ∧ D1 = w_0_1 ∧ okW (P, R, dp, PUnit.unit) ∧ lf = false ∧ M = kd.length ∧ N1 = P.length ∧ N2 = R.length ∧ N5 = kd.length ∧ K = ks ∧ G = kd ∧ 0 ≤ j ∧ j ≤ kd.length ∧ vis (fun l n => l ++ [n]) (w_0_0, w_0_1, PUnit.unit) (6 - depth).toNat id depth low ([] : List Int) (w_1, w_2, w_3, PUnit.unit) = visK (visF (fun l n => l ++ [n]) (w_0_0, w_0_1, PUnit.unit) depth) ks low ([] : List Int) (kd.drop j.toNat) j.toNat (P, R, dp, PUnit.unit)) (fun ((j, M, N1, N2, N4, N5, F, K, V, G, P, R, dp, D0, D1) : (Int) × (Int) × (Nat) × (Nat) × (Nat) × (Nat) × (Bool) × (List (List Int)) × (List Int) × (List Int) × (List Int) × (List RowT) × (Int) × (List (List Int)) × (List PutT)) => kd.length - j.toNat) (0, _, _, _, _, _, _, _, _, _, _, _, _, _, _) rfl ?_ ?_
          · subst hR0 hB_w hg_F_b_Compare hg_Q_b_Compare hg_F_sl_Contains_int64 hg_Q_sl_Contains_int64 hg_F_i_Disk_nodeAt hg_F_i_Disk_nodeAt_1 hg_Q_i_Disk_nodeAt hg_F_i_treeWalk_visit hg_B_i_treeWalk_visit_w hg_Qr_i_treeWalk_visit
            (try simp only [Alg.std, List.drop_zero, List.take_length, List.take_succ_cons, List.take_zero, F_b_Compare, F_sl_Contains_int64, F_i_Disk_nodeAt, F_i_Disk_nodeAt_1, Q_b_Compare, Q_sl_Contains_int64, Q_i_Disk_nodeAt, F_i_treeWalk_visit, B_i_treeWalk_visit_w, Qr_i_treeWalk_visit, Q_i_treeWalk_visit] at *)
            (try simp only [visP, Option.getD_none, Option.getD_some, hn] at *); 
            grind
          rintro ⟨j, M, N1, N2, N4, N5, F, K, V, G, P, R, dp, D0, D1⟩ hf I hI
          replace hf : D0 = w_0_0 ∧ D1 = w_0_1 ∧ okW (P, R, dp, PUnit.unit) ∧ lf = false ∧ M = kd.length ∧ N1 = P.length ∧ N2 = R.length ∧ N5 = kd.length ∧ K = ks ∧ G = kd ∧ 0 ≤ j ∧ j ≤ kd.length ∧ vis (fun l n => l ++ [n]) (w_0_0, w_0_1, PUnit.unit) (6 - depth).toNat id depth low ([] : List Int) (w_1, w_2, w_3, PUnit.unit) = visK (visF (fun l n => l ++ [n]) (w_0_0, w_0_1, PUnit.unit) depth) ks low ([] : List Int) (kd.drop j.toNat) j.toNat (P, R, dp, PUnit.unit) := hf
          generalize hL : Lg.std = L
          generalize hA : Alg.std = A
          cbv
          subst hL hA
          try dsimp only [Ty.den]
          subst hI
          obtain ⟨h1, h2, h3, h4, h5, h6, h7, h8, h9, h10, h11, h12, h13⟩ := hf
          clear hV1 hV2 hV3 hV4 hO hst hie hid hsu htk hlen hlo' hhi' hW21
          have hl27 := okW_len (P, R, dp, PUnit.unit) h3
          dsimp only at hl27
          have hsu : (j + 1).toNat = j.toNat + 1 := by omega
          have hsp : (j - 1).toNat = j.toNat - 1 := by omega
          have hid := fun (h : kd.length ≤ j.toNat) => visK_nil (visF (fun l n => l ++ [n]) (w_0_0, w_0_1, PUnit.unit) depth) ks low ([] : List Int) kd j.toNat (P, R, dp, PUnit.unit) h
          have hst := fun (h : j.toNat < kd.length) (a b : List Int) (ha : a = if 0 < j.toNat then ks.getD (j.toNat - 1) [] else low) (hb : b = if j.toNat < ks.length then ks.getD j.toNat [] else ([] : List Int)) => visK_step (visF (fun l n => l ++ [n]) (w_0_0, w_0_1, PUnit.unit) depth) ks low ([] : List Int) a b kd j.toNat (P, R, dp, PUnit.unit) h ha hb
          have hfo := fun a b => visF_ok (fun l n => l ++ [n]) okP_app (w_0_0, w_0_1, PUnit.unit) hg depth (kd.getD j.toNat 0) a b (P, R, dp, PUnit.unit) h3
          have hkl := fun (h : j.toNat < ks.length) => ((hW (by assumption)).2.1 j.toNat h)
          have hkl1 := fun (h : j.toNat - 1 < ks.length) => ((hW (by assumption)).2.1 (j.toNat - 1) h)
          simp only [visF] at *
          repeat' (first | intro _ | apply And.intro)
          all_goals first | (with_reducible exact True.intro) | (with_reducible assumption) | (simp only [Alg.std]; omega) | ((fail_if_success (refine lp_v (V := Unit) (fun _ => ⟨[], []⟩) (fun _ => True) (fun _ => 0) () ?_ ?_ ?_)); (try simp only [Lg.std, Alg.std, List.drop_zero, List.take_length] at *); (try refine ⟨(_, _, _, _, _, _, _, _, _, _, _, _, _, _, _), rfl, ?_, ?_⟩); (all_goals (subst hR0 hB_w hg_F_b_Compare hg_Q_b_Compare hg_F_sl_Contains_int64 hg_Q_sl_Contains_int64 hg_F_i_Disk_nodeAt hg_F_i_Disk_nodeAt_1 hg_Q_i_Disk_nodeAt hg_F_i_treeWalk_visit hg_B_i_treeWalk_visit_w hg_Qr_i_treeWalk_visit; (try simp only [Lg.std, Alg.std, List.drop_zero, List.take_length, F_b_Compare, F_sl_Contains_int64, F_i_Disk_nodeAt, F_i_Disk_nodeAt_1, Q_b_Compare, Q_sl_Contains_int64, Q_i_Disk_nodeAt, F_i_treeWalk_visit, B_i_treeWalk_visit_w, Qr_i_treeWalk_visit, Q_i_treeWalk_visit] at *); first | done | ((try simp only [visP, Option.getD_none, Option.getD_some, hn] at *); grind)))) | skip)
        | (
          refine lp_v (V := (Nat) × (Nat) × (Nat) × (Nat) × (Nat) × (Bool) × (List (List Int)) × (List Int) × (List Int) × (List Int) × (Int)) (fun ((N, N1, N2, N4, N5, F, K, V, G, P, dp) : (Nat) × (Nat) × (Nat) × (Nat) × (Nat) × (Bool) × (List (List Int)) × (List Int) × (List Int) × (List Int) × (Int)) => ⟨[.bptr 0 0, Jk, Jk, Jk, Jk, Jk, Jk, Jk, Jk, Jk, Jk, .bptr 3 0, Jk, Jk, Jk, Jk, Jk, Jk, Jk, Jk, Jk, Jk, Jk, Jk, Jk, Jk, Jk, Jk, Jk, Jk, Jk, Jk, Jk, Jk, Jk, Jk, Jk, Jk, Jk, Jk, Jk, Jk, Jk, Jk, Jk, Jk, Jk, Jk, Jk, Jk, Jk, Jk, Jk, Jk, Jk, Jk, Jk, Jk, Jk, Jk, Jk, Jk, Jk, Jk, Jk, Jk, Jk, Jk, Jk, Jk, Jk, Jk, Jk, Jk, Jk, Jk, Jk, Jk, Jk, Jk, Jk, Jk, Jk, Jk, Jk, Jk, Jk, Jk, Jk, Jk, Jk, Jk, Jk, Jk, Jk, Jk, Jk, Jk, Jk, Jk, Jk, Jk, Jk, Jk, Jk, Jk, Jk, Jk, Jk, Jk, Jk, Jk, Jk, Jk, Jk, Jk, Jk, Jk, Jk, Jk, Jk, Jk, Jk, Jk, Jk, Jk, Jk, Jk, Jk, Jk, Jk, Jk, Jk, Jk, Jk, Jk, Jk, Jk, Jk, Jk, Jk, Jk, Jk, Jk, Jk, Jk, Jk, Jk, Jk, Jk, Jk, Jk, Jk, Jk, Jk, Jk, Jk, Jk, Jk, Jk, Jk, Jk, Jk, Jk, Jk, Jk, Jk, Jk, Jk, Jk, Jk, Jk, Jk, Jk, Jk], [some (.box [.dat (.sl (.sl (.int .u8))) w_0_0, .dat (.sl (.pair (.int .i64) (.pair (.sl (.int .u8)) .unit))) w_0_1, .ref (.int .i64) 1 0 [] 0 N1, .ref (.pair (.sl (.int .u8)) (.pair (.int .i64) .unit)) 2 0 [] 0 N2, .dat (.int .i64) dp]), some (.row 0 (.int .i64) .sh P), some (.row 0 (.pair (.sl (.int .u8)) (.pair (.int .i64) .unit)) (.pr (.ow .sh) (.pr .sh .sh)) w_2), some (.box [.dat .bool F, .ref (.sl (.int .u8)) 4 0 [] 0 N, .ref (.int .i64) 5 0 [] 0 N4, .ref (.int .i64) 6 0 [] 0 N5]), some (.row 0 (.sl (.int .u8)) (.ow .sh) K), some (.row 0 (.int .i64) .sh V), some (.row 0 (.int .i64) .sh G), some (.gh [.bptr 0 0])]⟩) (fun ((N, N1, N2, N4, N5, F, K, V, G, P, dp) : (Nat) × (Nat) × (Nat) × (Nat) × (Nat) × (Bool) × (List (List Int)) × (List Int) × (List Int) × (List Int) × (Int)) => ks.all (inBd low ([] : List Int)) = true ∧ lf = true ∧ depth = deepOf depth w_3 ∧ dp = deepOf depth w_3 ∧ N = ks.length ∧ N1 = P.length ∧ N2 = w_2.length ∧ N4 = vs.length ∧ F = lf ∧ V = vs ∧ P = w_1 ++ [id] ∧ K = ks) (fun ((N, N1, N2, N4, N5, F, K, V, G, P, dp) : (Nat) × (Nat) × (Nat) × (Nat) × (Nat) × (Bool) × (List (List Int)) × (List Int) × (List Int) × (List Int) × (Int)) => 0) (_, _, _, _, _, _, _, _, _, _, _) rfl ?_ ?_
          · subst hR0 hB_w hg_F_b_Compare hg_Q_b_Compare hg_F_sl_Contains_int64 hg_Q_sl_Contains_int64 hg_F_i_Disk_nodeAt hg_F_i_Disk_nodeAt_1 hg_Q_i_Disk_nodeAt hg_F_i_treeWalk_visit hg_B_i_treeWalk_visit_w hg_Qr_i_treeWalk_visit
            (try simp only [Alg.std, List.drop_zero, List.take_length, List.take_succ_cons, List.take_zero, F_b_Compare, F_sl_Contains_int64, F_i_Disk_nodeAt, F_i_Disk_nodeAt_1, Q_b_Compare, Q_sl_Contains_int64, Q_i_Disk_nodeAt, F_i_treeWalk_visit, B_i_treeWalk_visit_w, Qr_i_treeWalk_visit, Q_i_treeWalk_visit] at *)
            (try simp only [visP, Option.getD_none, Option.getD_some, hn] at *); 
            grind [deepOf]
          rintro ⟨N, N1, N2, N4, N5, F, K, V, G, P, dp⟩ hf I hI
          replace hf : ks.all (inBd low ([] : List Int)) = true ∧ lf = true ∧ depth = deepOf depth w_3 ∧ dp = deepOf depth w_3 ∧ N = ks.length ∧ N1 = P.length ∧ N2 = w_2.length ∧ N4 = vs.length ∧ F = lf ∧ V = vs ∧ P = w_1 ++ [id] ∧ K = ks := hf
          generalize hL : Lg.std = L
          generalize hA : Alg.std = A
          cbv
          subst hL hA
          try dsimp only [Ty.den]
          subst hI
          obtain ⟨h1, h2, h3, h4, h5, h6, h7, h8, h9, h10, h11, h12⟩ := hf
          have hVe := (hV4 (by assumption) (by assumption) (by assumption)).2.2.1 h1 h2 h3
          clear hV1 hV2 hV3 hV4 hO hst hie hid hsu htk hW hlo' hhi'
          repeat' (first | intro _ | apply And.intro)
          all_goals first | (with_reducible exact True.intro) | (with_reducible assumption) | (simp only [Alg.std]; omega) | ((fail_if_success (refine lp_v (V := Unit) (fun _ => ⟨[], []⟩) (fun _ => True) (fun _ => 0) () ?_ ?_ ?_)); (try simp only [Lg.std, Alg.std, List.drop_zero, List.take_length] at *); (try refine ⟨(_, _, _, _, _, _, _, _, _, _, _), rfl, ?_, ?_⟩); (all_goals (subst hR0 hB_w hg_F_b_Compare hg_Q_b_Compare hg_F_sl_Contains_int64 hg_Q_sl_Contains_int64 hg_F_i_Disk_nodeAt hg_F_i_Disk_nodeAt_1 hg_Q_i_Disk_nodeAt hg_F_i_treeWalk_visit hg_B_i_treeWalk_visit_w hg_Qr_i_treeWalk_visit; (try simp only [Lg.std, Alg.std, List.drop_zero, List.take_length, F_b_Compare, F_sl_Contains_int64, F_i_Disk_nodeAt, F_i_Disk_nodeAt_1, Q_b_Compare, Q_sl_Contains_int64, Q_i_Disk_nodeAt, F_i_treeWalk_visit, B_i_treeWalk_visit_w, Qr_i_treeWalk_visit, Q_i_treeWalk_visit] at *); first | done | ((try simp only [visP, Option.getD_none, Option.getD_some, hn] at *); grind)))) | skip
          all_goals (
            refine lp_v (V := (Int) × (Int) × (Nat) × (Nat) × (Nat) × (Nat) × (Nat) × (Bool) × (List (List Int)) × (List Int) × (List Int) × (List Int) × (List RowT) × (Int)) (fun ((j, M, N, N1, N2, N4, N5, F, K, V, G, P, R, dp) : (Int) × (Int) × (Nat) × (Nat) × (Nat) × (Nat) × (Nat) × (Bool) × (List (List Int)) × (List Int) × (List Int) × (List Int) × (List RowT) × (Int)) => ⟨[.bptr 0 0, Jk, Jk, Jk, Jk, Jk, Jk, Jk, Jk, Jk, Jk, .bptr 3 0, Jk, Jk, Jk, Jk, Jk, Jk, Jk, Jk, Jk, Jk, Jk, Jk, Jk, Jk, Jk, Jk, Jk, Jk, Jk, Jk, Jk, Jk, Jk, Jk, Jk, Jk, Jk, Jk, Jk, Jk, Jk, Jk, Jk, Jk, Jk, Jk, Jk, Jk, Jk, Jk, Jk, Jk, Jk, Jk, Jk, Jk, Jk, Jk, Jk, Jk, Jk, Jk, Jk, Jk, Jk, Jk, Jk, Jk, Jk, Jk, Jk, Jk, Jk, Jk, Jk, Jk, Jk, Jk, Jk, Jk, Jk, Jk, Jk, Jk, Jk, Jk, Jk, Jk, Jk, Jk, Jk, Jk, Jk, Jk, Jk, Jk, Jk, Jk, Jk, Jk, Jk, Jk, Jk, Jk, Jk, Jk, Jk, Jk, Jk, Jk, .ref (.sl (.int .u8)) 4 0 [] 0 N, .dat (.int .i64) M, .dat (.int .i64) j, Jk, Jk, Jk, Jk, Jk, Jk, Jk, Jk, Jk, Jk, Jk, Jk, Jk, Jk, Jk, Jk, Jk, Jk, Jk, Jk, Jk, Jk, Jk, Jk, Jk, Jk, Jk, Jk, Jk, Jk, Jk, Jk, Jk, Jk, Jk, Jk, Jk, Jk, Jk, Jk, Jk, Jk, Jk, Jk, Jk, Jk, Jk, Jk, Jk, Jk, Jk, Jk, Jk, Jk, Jk, Jk, Jk, Jk, Jk, Jk], [some (.box [.dat (.sl (.sl (.int .u8))) w_0_0, .dat (.sl (.pair (.int .i64) (.pair (.sl (.int .u8)) .unit))) w_0_1, .ref (.int .i64) 1 0 [] 0 N1, .ref (.pair (.sl (.int .u8)) (.pair (.int .i64) .unit)) 2 0 [] 0 N2, .dat (.int .i64) dp]), some (.row 0 (.int .i64) .sh P), some (.row 0 (.pair (.sl (.int .u8)) (.pair (.int .i64) .unit)) (.pr (.ow .sh) (.pr .sh .sh)) R), some (.box [.dat .bool F, .ref (.sl (.int .u8)) 4 0 [] 0 N, .ref (.int .i64) 5 0 [] 0 N4, .ref (.int .i64) 6 0 [] 0 N5]), some (.row 0 (.sl (.int .u8)) .no K), some (.row 0 (.int .i64) .sh V), some (.row 0 (.int .i64) .sh G), some (.gh [.bptr 0 0])]⟩) (fun ((j, M, N, N1, N2, N4, N5, F, K, V, G, P, R, dp) : (Int) × (Int) × (Nat) × (Nat) × (Nat) × (Nat) × (Nat) × (Bool) × (List (List Int)) × (List Int) × (List Int) × (List Int) × (List RowT) × (Int)) => ks.all (inBd low ([] : List Int)) = true ∧ lf = true ∧ depth = deepOf depth w_3 ∧ dp = deepOf depth w_3 ∧ M = ks.length ∧ N = ks.length ∧ N1 = P.length ∧ N2 = R.length ∧ N4 = vs.length ∧ F = lf ∧ V = vs ∧ P = w_1 ++ [id] ∧ 0 ≤ j ∧ j ≤ ks.length ∧ K.length = ks.length ∧ R = w_2 ++ rowsOf (ks.take j.toNat) (vs.take j.toNat) ∧ K.drop j.toNat = ks.drop j.toNat) (fun ((j, M, N, N1, N2, N4, N5, F, K, V, G, P, R, dp) : (Int) × (Int) × (Nat) × (Nat) × (Nat) × (Nat) × (Nat) × (Bool) × (List (List Int)) × (List Int) × (List Int) × (List Int) × (List RowT) × (Int)) => ks.length - j.toNat) (0, _, _, _, _, _, _, _, _, _, _, _, _, _) rfl ?_ ?_
            · subst hR0 hB_w hg_F_b_Compare hg_Q_b_Compare hg_F_sl_Contains_int64 hg_Q_sl_Contains_int64 hg_F_i_Disk_nodeAt hg_F_i_Disk_nodeAt_1 hg_Q_i_Disk_nodeAt hg_F_i_treeWalk_visit hg_B_i_treeWalk_visit_w hg_Qr_i_treeWalk_visit
              (try simp only [Alg.std, List.drop_zero, List.take_length, List.take_succ_cons, List.take_zero, F_b_Compare, F_sl_Contains_int64, F_i_Disk_nodeAt, F_i_Disk_nodeAt_1, Q_b_Compare, Q_sl_Contains_int64, Q_i_Disk_nodeAt, F_i_treeWalk_visit, B_i_treeWalk_visit_w, Qr_i_treeWalk_visit, Q_i_treeWalk_visit] at *)
              (try simp only [visP, Option.getD_none, Option.getD_some, hn] at *); 
              grind [deepOf, rowsOf]
            rintro ⟨j, M, N, N1, N2, N4, N5, F, K, V, G, P, R, dp⟩ hf I hI
            replace hf : ks.all (inBd low ([] : List Int)) = true ∧ lf = true ∧ depth = deepOf depth w_3 ∧ dp = deepOf depth w_3 ∧ M = ks.length ∧ N = ks.length ∧ N1 = P.length ∧ N2 = R.length ∧ N4 = vs.length ∧ F = lf ∧ V = vs ∧ P = w_1 ++ [id] ∧ 0 ≤ j ∧ j ≤ ks.length ∧ K.length = ks.length ∧ R = w_2 ++ rowsOf (ks.take j.toNat) (vs.take j.toNat) ∧ K.drop j.toNat = ks.drop j.toNat := hf
            generalize hL : Lg.std = L
            generalize hA : Alg.std = A
            cbv
            subst hL hA
            try dsimp only [Ty.den]
            subst hI
            obtain ⟨h1, h2, h3, h4, h5, h6, h7, h8, h9, h10, h11, h12, h13, h14, h15, h16, h17⟩ := hf
            have hat := drop_at (zs := K) ([] : List Int) h17
            have hnx := fun v => drop_next (zs := K) v h17
            have hrs := fun (h : j.toNat < ks.length) => rowsOf_snoc ks vs j.toNat h
            have hra := fun (h : ks.length ≤ j.toNat) => (List.take_of_length_le h : ks.take j.toNat = ks)
            have hrb := fun (h : vs.length ≤ j.toNat) => (List.take_of_length_le h : vs.take j.toNat = vs)
            have hsu : (j + 1).toNat = j.toNat + 1 := by omega
            have hrl := rowsOf_len (ks.take j.toNat) (vs.take j.toNat)
            repeat' (first | intro _ | apply And.intro)
            all_goals first | (with_reducible exact True.intro) | (with_reducible assumption) | (simp only [Alg.std]; omega) | ((fail_if_success (refine lp_v (V := Unit) (fun _ => ⟨[], []⟩) (fun _ => True) (fun _ => 0) () ?_ ?_ ?_)); (try simp only [Lg.std, Alg.std, List.drop_zero, List.take_length] at *); (try refine ⟨(_, _, _, _, _, _, _, _, _, _, _, _, _, _), rfl, ?_, ?_⟩); (all_goals (subst hR0 hB_w hg_F_b_Compare hg_Q_b_Compare hg_F_sl_Contains_int64 hg_Q_sl_Contains_int64 hg_F_i_Disk_nodeAt hg_F_i_Disk_nodeAt_1 hg_Q_i_Disk_nodeAt hg_F_i_treeWalk_visit hg_B_i_treeWalk_visit_w hg_Qr_i_treeWalk_visit; (try simp only [Lg.std, Alg.std, List.drop_zero, List.take_length, F_b_Compare, F_sl_Contains_int64, F_i_Disk_nodeAt, F_i_Disk_nodeAt_1, Q_b_Compare, Q_sl_Contains_int64, Q_i_Disk_nodeAt, F_i_treeWalk_visit, B_i_treeWalk_visit_w, Qr_i_treeWalk_visit, Q_i_treeWalk_visit] at *); first | done | ((try simp only [visP, Option.getD_none, Option.getD_some, hn] at *); grind [deepOf])))) | skip))))
theorem ctc_i_treeWalk_visit_ss (n : Nat) (okr : ConOk pg 130 (conr_i_treeWalk_visit n)) (w : ((List (List (Int))) × (List ((Int) × (List (Int)) × Unit)) × Unit) × (List (Int)) × (List ((List (Int)) × (Int) × Unit)) × (Int) × Unit) (id : Int) (depth : Int) (low : List (Int)) (high : List (Int)) : Ct pg 130 [.mp (.pair (.pair (.sl (.sl (.int .u8))) (.pair (.sl (.pair (.int .i64) (.pair (.sl (.int .u8)) .unit))) .unit)) (.pair (.sl (.int .i64)) (.pair (.sl (.pair (.sl (.int .u8)) (.pair (.int .i64) .unit))) (.pair (.int .i64) .unit)))) (.pr .sh (.pr (.ow .sh) (.pr (.ow (.pr (.ow .sh) (.pr .sh .sh))) (.pr .sh .sh)))) w, .dat (.int .i64) id, .dat (.int .i64) depth, .dat (.sl (.int .u8)) low, .dat (.sl (.int .u8)) high] ⟨[Qr_i_treeWalk_visit (n + 1) w id depth (some low) (some high)], [⟨(.int .i64), .sh, F_i_treeWalk_visit w id depth (some low) (some high)⟩], [.mp (.pair (.pair (.sl (.sl (.int .u8))) (.pair (.sl (.pair (.int .i64) (.pair (.sl (.int .u8)) .unit))) .unit)) (.pair (.sl (.int .i64)) (.pair (.sl (.pair (.sl (.int .u8)) (.pair (.int .i64) .unit))) (.pair (.int .i64) .unit)))) (.pr .sh (.pr (.ow .sh) (.pr (.ow (.pr (.ow .sh) (.pr .sh .sh))) (.pr .sh .sh)))) (B_i_treeWalk_visit_w w id depth (some low) (some high))]⟩ := by
  refine ct_claim (O := O_i_treeWalk_visit) (τ := τ_i_treeWalk_visit) (EnvOk.of (by kernel_rfl) (by kernel_rfl)) (GOk.of (.cons ok_b_Compare (.cons ok_sl_Contains_int64 (.cons ok_i_Disk_nodeAt (.cons okr .nil))) : AllOk pg [(68, con_b_Compare), (136, con_sl_Contains_int64), (137, con_i_Disk_nodeAt), (130, conr_i_treeWalk_visit n)])) mixed (Enters.of (by kernel_rfl)) (fn := Go.Proofs.Try.f130) (by kernel_rfl) rfl (by kernel_rfl) ?_
  intro hp hw
  clear okr
  have hq : (Qr_i_treeWalk_visit (n + 1)) w id depth (some low) (some high) := hp _ (List.mem_singleton.2 rfl)
  clear hp
  change claim Lg.std Alg.std τ_i_treeWalk_visit (Gam.of [(68, con_b_Compare), (136, con_sl_Contains_int64), (137, con_i_Disk_nodeAt), (130, conr_i_treeWalk_visit n)]) O_i_treeWalk_visit Go.Proofs.Try.f130 [.mp (.pair (.pair (.sl (.sl (.int .u8))) (.pair (.sl (.pair (.int .i64) (.pair (.sl (.int .u8)) .unit))) .unit)) (.pair (.sl (.int .i64)) (.pair (.sl (.pair (.sl (.int .u8)) (.pair (.int .i64) .unit))) (.pair (.int .i64) .unit)))) (.pr .sh (.pr (.ow .sh) (.pr (.ow (.pr (.ow .sh) (.pr .sh .sh))) (.pr .sh .sh)))) w, .dat (.int .i64) id, .dat (.int .i64) depth, .dat (.sl (.int .u8)) low, .dat (.sl (.int .u8)) high] ⟨[Qr_i_treeWalk_visit (n + 1) w id depth (some low) (some high)], [⟨(.int .i64), .sh, F_i_treeWalk_visit w id depth (some low) (some high)⟩], [.mp (.pair (.pair (.sl (.sl (.int .u8))) (.pair (.sl (.pair (.int .i64) (.pair (.sl (.int .u8)) .unit))) .unit)) (.pair (.sl (.int .i64)) (.pair (.sl (.pair (.sl (.int .u8)) (.pair (.int .i64) .unit))) (.pair (.int .i64) .unit)))) (.pr .sh (.pr (.ow .sh) (.pr (.ow (.pr (.ow .sh) (.pr .sh .sh))) (.pr .sh .sh)))) (B_i_treeWalk_visit_w w id depth (some low) (some high))]⟩
  delta con_b_Compare con_sl_Contains_int64 con_i_Disk_nodeAt conr_i_treeWalk_visit
  generalize hR0 : F_i_treeWalk_visit w id depth (some low) (some high) = R0
  generalize hB_w : B_i_treeWalk_visit_w w id depth (some low) (some high) = B_w
  generalize (Qr_i_treeWalk_visit (n + 1)) w id depth (some low) (some high) = Q0
  generalize hg_F_b_Compare : F_b_Compare = g_F_b_Compare
  generalize hg_Q_b_Compare : Q_b_Compare = g_Q_b_Compare
  generalize hg_F_sl_Contains_int64 : F_sl_Contains_int64 = g_F_sl_Contains_int64
  generalize hg_Q_sl_Contains_int64 : Q_sl_Contains_int64 = g_Q_sl_Contains_int64
  generalize hg_F_i_Disk_nodeAt : F_i_Disk_nodeAt = g_F_i_Disk_nodeAt
  generalize hg_F_i_Disk_nodeAt_1 : F_i_Disk_nodeAt_1 = g_F_i_Disk_nodeAt_1
  generalize hg_Q_i_Disk_nodeAt : Q_i_Disk_nodeAt = g_Q_i_Disk_nodeAt
  generalize hg_F_i_treeWalk_visit : F_i_treeWalk_visit = g_F_i_treeWalk_visit
  generalize hg_B_i_treeWalk_visit_w : B_i_treeWalk_visit_w = g_B_i_treeWalk_visit_w
  generalize hg_Qr_i_treeWalk_visit : Qr_i_treeWalk_visit n = g_Qr_i_treeWalk_visit
  generalize hL : Lg.std = L
  generalize hA : Alg.std = A
  cbv
  subst hL hA
  try dsimp only [Ty.den]
  obtain ⟨⟨w_0_0, w_0_1, ⟨⟩⟩, w_1, w_2, w_3, ⟨⟩⟩ := w
  simp only [Qr_i_treeWalk_visit, Q_i_treeWalk_visit] at hq
  obtain ⟨⟨hg, hok, hd1, hd2, hlo, hhi⟩, hms⟩ := hq
  cases hn : nodeAt (w_0_0, w_0_1, PUnit.unit) id with
  | mk nc nd =>
  obtain ⟨⟨lf, ks, vs, kd, ⟨⟩⟩, ⟨⟩⟩ := nd
  have hV := visP_eqs (fun l n => l ++ [n]) (w_0_0, w_0_1, PUnit.unit) id depth low high w_1 w_2 w_3 nc lf ks vs kd ⟨hd1, hd2⟩ hn
  obtain ⟨hV1, hV2, hV3, hV4⟩ := hV
  clear hw
  have hW := fun (h : nc = 0) => nodeFault_walk (lf, ks, vs, kd, PUnit.unit) (by have := nodeAt_ok (w_0_0, w_0_1, PUnit.unit) id (by rw [hn]; exact h); rw [hn] at this; exact this)
  dsimp only at hW
  have hlen := okW_len (w_1, w_2, w_3, PUnit.unit) hok
  dsimp only at hlen
  have hO := fun (hc : w_1.contains id = false) (h0 : nc = 0) x => okW_id (w_0_0, w_0_1, PUnit.unit) hg id w_1 w_2 w_3 x hok hc (by rw [hn]; exact h0) (fun l n => l ++ [n]) okP_app
  try dsimp only at hO
  have hlo' : low = [] ∨ low.length ≠ 0 := by first | exact .inl rfl | (right; simpa using hlo)
  have hhi' : high = [] ∨ high.length ≠ 0 := by first | exact .inl rfl | (right; simpa using hhi)
  repeat' (first | intro _ | apply And.intro)
  all_goals first | trivial | (simp only [Alg.std]; omega) | ((fail_if_success (refine lp_v (V := Unit) (fun _ => ⟨[], []⟩) (fun _ => True) (fun _ => 0) () ?_ ?_ ?_)); subst hR0 hB_w hg_F_b_Compare hg_Q_b_Compare hg_F_sl_Contains_int64 hg_Q_sl_Contains_int64 hg_F_i_Disk_nodeAt hg_F_i_Disk_nodeAt_1 hg_Q_i_Disk_nodeAt hg_F_i_treeWalk_visit hg_B_i_treeWalk_visit_w hg_Qr_i_treeWalk_visit; (try simp only [Alg.std, F_b_Compare, F_sl_Contains_int64, F_i_Disk_nodeAt, F_i_Disk_nodeAt_1, Q_b_Compare, Q_sl_Contains_int64, Q_i_Disk_nodeAt, F_i_treeWalk_visit, B_i_treeWalk_visit_w, Qr_i_treeWalk_visit, Q_i_treeWalk_visit] at *); (try simp only [visP, Option.getD_none, Option.getD_some, hn] at *); all_goals grind) | skip
  all_goals (
    refine lp_v (V := (Nat) × (Nat) × (Nat) × (Nat) × (Nat) × (Bool) × (List (List Int)) × (List Int) × (List Int)) (fun ((N, N1, N2, N4, N5, F, K, V, G) : (Nat) × (Nat) × (Nat) × (Nat) × (Nat) × (Bool) × (List (List Int)) × (List Int) × (List Int)) => ⟨[.bptr 0 0, .dat (.int .i64) id, .dat (.int .i64) depth, .dat (.sl (.int .u8)) low, .dat (.sl (.int .u8)) high, Jk, Jk, Jk, Jk, Jk, Jk, .bptr 3 0, Jk, Jk, Jk, Jk, Jk, Jk, Jk, Jk, Jk, Jk, Jk, Jk, Jk, Jk, Jk, Jk, Jk, Jk, Jk, Jk, Jk, Jk, Jk, Jk, Jk, Jk, Jk, Jk, Jk, Jk, Jk, Jk, Jk, Jk, Jk, Jk, Jk, Jk, Jk, Jk, Jk, Jk, Jk, Jk, Jk, Jk, Jk, Jk, Jk, Jk, Jk, Jk, Jk, Jk, Jk, Jk, Jk, Jk, Jk, Jk, Jk, Jk, Jk, Jk, Jk, Jk, Jk, Jk, Jk, Jk, Jk, Jk, Jk, Jk, Jk, Jk, Jk, Jk, Jk, Jk, Jk, Jk, Jk, Jk, Jk, Jk, Jk, Jk, Jk, Jk, Jk, Jk, Jk, Jk, Jk, Jk, Jk, Jk, Jk, Jk, Jk, Jk, Jk, Jk, Jk, Jk, Jk, Jk, Jk, Jk, Jk, Jk, Jk, Jk, Jk, Jk, Jk, Jk, Jk, Jk, Jk, Jk, Jk, Jk, Jk, Jk, Jk, Jk, Jk, Jk, Jk, Jk, Jk, Jk, Jk, Jk, Jk, Jk, Jk, Jk, Jk, Jk, Jk, Jk, Jk, Jk, Jk, Jk, Jk, Jk, Jk, Jk, Jk, Jk, Jk, Jk, Jk, Jk, Jk, Jk, Jk, Jk, Jk], [some (.box [.dat (.sl (.sl (.int .u8))) w_0_0, .dat (.sl (.pair (.int .i64) (.pair (.sl (.int .u8)) .unit))) w_0_1, .ref (.int .i64) 1 0 [] 0 N1, .ref (.pair (.sl (.int .u8)) (.pair (.int .i64) .unit)) 2 0 [] 0 N2, .dat (.int .i64) w_3]), some (.row 0 (.int .i64) .sh w_1), some (.row 0 (.pair (.sl (.int .u8)) (.pair (.int .i64) .unit)) (.pr (.ow .sh) (.pr .sh .sh)) w_2), some (.box [.dat .bool F, .ref (.sl (.int .u8)) 4 0 [] 0 N, .ref (.int .i64) 5 0 [] 0 N4, .ref (.int .i64) 6 0 [] 0 N5]), some (.row 0 (.sl (.int .u8)) (.ow .sh) K), some (.row 0 (.int .i64) .sh V), some (.row 0 (.int .i64) .sh G), some (.gh [.bptr 0 0])]⟩) (fun ((N, N1, N2, N4, N5, F, K, V, G) : (Nat) × (Nat) × (Nat) × (Nat) × (Nat) × (Bool) × (List (List Int)) × (List Int) × (List Int)) => nc = 0 ∧ w_1.contains id = false ∧ ¬ (depth > 4 ∨ (depth > 1 ∧ ks.length < 2) ∨ ks.length = 0) ∧ N = ks.length ∧ N1 = w_1.length ∧ N2 = w_2.length ∧ N4 = vs.length ∧ N5 = kd.length ∧ F = lf ∧ K = ks ∧ V = vs ∧ G = kd) (fun ((N, N1, N2, N4, N5, F, K, V, G) : (Nat) × (Nat) × (Nat) × (Nat) × (Nat) × (Bool) × (List (List Int)) × (List Int) × (List Int)) => 0) (_, _, _, _, _, _, _, _, _) rfl ?_ ?_
    · subst hR0 hB_w hg_F_b_Compare hg_Q_b_Compare hg_F_sl_Contains_int64 hg_Q_sl_Contains_int64 hg_F_i_Disk_nodeAt hg_F_i_Disk_nodeAt_1 hg_Q_i_Disk_nodeAt hg_F_i_treeWalk_visit hg_B_i_treeWalk_visit_w hg_Qr_i_treeWalk_visit
      (try simp only [Alg.std, List.drop_zero, List.take_length, List.take_succ_cons, List.take_zero, F_b_Compare, F_sl_Contains_int64, F_i_Disk_nodeAt, F_i_Disk_nodeAt_1, Q_b_Compare, Q_sl_Contains_int64, Q_i_Disk_nodeAt, F_i_treeWalk_visit, B_i_treeWalk_visit_w, Qr_i_treeWalk_visit, Q_i_treeWalk_visit] at *)
      (try simp only [visP, Option.getD_none, Option.getD_some, hn] at *); 
      grind
    rintro ⟨N, N1, N2, N4, N5, F, K, V, G⟩ hf I hI
    replace hf : nc = 0 ∧ w_1.contains id = false ∧ ¬ (depth > 4 ∨ (depth > 1 ∧ ks.length < 2) ∨ ks.length = 0) ∧ N = ks.length ∧ N1 = w_1.length ∧ N2 = w_2.length ∧ N4 = vs.length ∧ N5 = kd.length ∧ F = lf ∧ K = ks ∧ V = vs ∧ G = kd := hf
    generalize hL : Lg.std = L
    generalize hA : Alg.std = A
    cbv
    subst hL hA
    try dsimp only [Ty.den]
    subst hI
    obtain ⟨h1, h2, h3, h4, h5, h6, h7, h8, h9, h10, h11, h12⟩ := hf
    repeat' (first | intro _ | apply And.intro)
    all_goals first | (with_reducible exact True.intro) | (with_reducible assumption) | (simp only [Alg.std]; omega) | ((fail_if_success (refine lp_v (V := Unit) (fun _ => ⟨[], []⟩) (fun _ => True) (fun _ => 0) () ?_ ?_ ?_)); (try simp only [Lg.std, Alg.std, List.drop_zero, List.take_length] at *); (try refine ⟨(_, _, _, _, _, _, _, _, _), rfl, ?_, ?_⟩); (all_goals (subst hR0 hB_w hg_F_b_Compare hg_Q_b_Compare hg_F_sl_Contains_int64 hg_Q_sl_Contains_int64 hg_F_i_Disk_nodeAt hg_F_i_Disk_nodeAt_1 hg_Q_i_Disk_nodeAt hg_F_i_treeWalk_visit hg_B_i_treeWalk_visit_w hg_Qr_i_treeWalk_visit; (try simp only [Lg.std, Alg.std, List.drop_zero, List.take_length, F_b_Compare, F_sl_Contains_int64, F_i_Disk_nodeAt, F_i_Disk_nodeAt_1, Q_b_Compare, Q_sl_Contains_int64, Q_i_Disk_nodeAt, F_i_treeWalk_visit, B_i_treeWalk_visit_w, Qr_i_treeWalk_visit, Q_i_treeWalk_visit] at *); first | done | ((try simp only [visP, Option.getD_none, Option.getD_some, hn] at *); grind)))) | skip
    all_goals (
      refine lp_v (V := (Int) × (Int) × (Nat) × (Nat) × (Nat) × (Nat) × (Nat) × (Bool) × (List (List Int)) × (List Int) × (List Int)) (fun ((i, M, N, N1, N2, N4, N5, F, K, V, G) : (Int) × (Int) × (Nat) × (Nat) × (Nat) × (Nat) × (Nat) × (Bool) × (List (List Int)) × (List Int) × (List Int)) => ⟨[.bptr 0 0, .dat (.int .i64) id, .dat (.int .i64) depth, .dat (.sl (.int .u8)) low, .dat (.sl (.int .u8)) high, Jk, Jk, Jk, Jk, Jk, Jk, .bptr 3 0, Jk, Jk, Jk, Jk, Jk, Jk, Jk, Jk, Jk, Jk, Jk, Jk, Jk, Jk, Jk, Jk, Jk, Jk, Jk, Jk, Jk, Jk, Jk, Jk, Jk, Jk, Jk, Jk, Jk, Jk, Jk, Jk, Jk, Jk, Jk, Jk, Jk, Jk, Jk, Jk, Jk, Jk, Jk, Jk, Jk, Jk, Jk, .ref (.sl (.int .u8)) 4 0 [] 0 N, .dat (.int .i64) M, .dat (.int .i64) i, Jk, Jk, Jk, Jk, Jk, Jk, Jk, Jk, Jk, Jk, Jk, Jk, Jk, Jk, Jk, Jk, Jk, Jk, Jk, Jk, Jk, Jk, Jk, Jk, Jk, Jk, Jk, Jk, Jk, Jk, Jk, Jk, Jk, Jk, Jk, Jk, Jk, Jk, Jk, Jk, Jk, Jk, Jk, Jk, Jk, Jk, Jk, Jk, Jk, Jk, Jk, Jk, Jk, Jk, Jk, Jk, Jk, Jk, Jk, Jk, Jk, Jk, Jk, Jk, Jk, Jk, Jk, Jk, Jk, Jk, Jk, Jk, Jk, Jk, Jk, Jk, Jk, Jk, Jk, Jk, Jk, Jk, Jk, Jk, Jk, Jk, Jk, Jk, Jk, Jk, Jk, Jk, Jk, Jk, Jk, Jk, Jk, Jk, Jk, Jk, Jk, Jk, Jk, Jk, Jk, Jk, Jk, Jk, Jk, Jk, Jk, Jk, Jk], [some (.box [.dat (.sl (.sl (.int .u8))) w_0_0, .dat (.sl (.pair (.int .i64) (.pair (.sl (.int .u8)) .unit))) w_0_1, .ref (.int .i64) 1 0 [] 0 N1, .ref (.pair (.sl (.int .u8)) (.pair (.int .i64) .unit)) 2 0 [] 0 N2, .dat (.int .i64) w_3]), some (.row 0 (.int .i64) .sh w_1), some (.row 0 (.pair (.sl (.int .u8)) (.pair (.int .i64) .unit)) (.pr (.ow .sh) (.pr .sh .sh)) w_2), some (.box [.dat .bool F, .ref (.sl (.int .u8)) 4 0 [] 0 N, .ref (.int .i64) 5 0 [] 0 N4, .ref (.int .i64) 6 0 [] 0 N5]), some (.row 0 (.sl (.int .u8)) (.ow .sh) K), some (.row 0 (.int .i64) .sh V), some (.row 0 (.int .i64) .sh G), some (.gh [.bptr 0 0])]⟩) (fun ((i, M, N, N1, N2, N4, N5, F, K, V, G) : (Int) × (Int) × (Nat) × (Nat) × (Nat) × (Nat) × (Nat) × (Bool) × (List (List Int)) × (List Int) × (List Int)) => nc = 0 ∧ w_1.contains id = false ∧ ¬ (depth > 4 ∨ (depth > 1 ∧ ks.length < 2) ∨ ks.length = 0) ∧ M = ks.length ∧ N = ks.length ∧ N1 = w_1.length ∧ N2 = w_2.length ∧ N4 = vs.length ∧ N5 = kd.length ∧ F = lf ∧ K = ks ∧ V = vs ∧ G = kd ∧ 0 ≤ i ∧ i ≤ ks.length ∧ ks.all (inBd low high) = (ks.drop i.toNat).all (inBd low high)) (fun ((i, M, N, N1, N2, N4, N5, F, K, V, G) : (Int) × (Int) × (Nat) × (Nat) × (Nat) × (Nat) × (Nat) × (Bool) × (List (List Int)) × (List Int) × (List Int)) => ks.length - i.toNat) (0, _, _, _, _, _, _, _, _, _, _) rfl ?_ ?_
      · subst hR0 hB_w hg_F_b_Compare hg_Q_b_Compare hg_F_sl_Contains_int64 hg_Q_sl_Contains_int64 hg_F_i_Disk_nodeAt hg_F_i_Disk_nodeAt_1 hg_Q_i_Disk_nodeAt hg_F_i_treeWalk_visit hg_B_i_treeWalk_visit_w hg_Qr_i_treeWalk_visit
        (try simp only [Alg.std, List.drop_zero, List.take_length, List.take_succ_cons, List.take_zero, F_b_Compare, F_sl_Contains_int64, F_i_Disk_nodeAt, F_i_Disk_nodeAt_1, Q_b_Compare, Q_sl_Contains_int64, Q_i_Disk_nodeAt, F_i_treeWalk_visit, B_i_treeWalk_visit_w, Qr_i_treeWalk_visit, Q_i_treeWalk_visit] at *)
        (try simp only [visP, Option.getD_none, Option.getD_some, hn] at *); 
        grind
      rintro ⟨i, M, N, N1, N2, N4, N5, F, K, V, G⟩ hf I hI
      replace hf : nc = 0 ∧ w_1.contains id = false ∧ ¬ (depth > 4 ∨ (depth > 1 ∧ ks.length < 2) ∨ ks.length = 0) ∧ M = ks.length ∧ N = ks.length ∧ N1 = w_1.length ∧ N2 = w_2.length ∧ N4 = vs.length ∧ N5 = kd.length ∧ F = lf ∧ K = ks ∧ V = vs ∧ G = kd ∧ 0 ≤ i ∧ i ≤ ks.length ∧ ks.all (inBd low high) = (ks.drop i.toNat).all (inBd low high) := hf
      generalize hL : Lg.std = L
      generalize hA : Alg.std = A
      cbv
      subst hL hA
      try dsimp only [Ty.den]
      subst hI
      obtain ⟨h1, h2, h3, h4, h5, h6, h7, h8, h9, h10, h11, h12, h13, h14, h15, h16⟩ := hf
      have htk : List.take N K = ks := by rw [h11, h5, List.take_length]
      have hst := fun (h : i.toNat < ks.length) => allg_step (inBd low high) ks ([] : List Int) i.toNat h
      have hie := inBd_eq low high (ks.getD i.toNat [])
      have hid := fun (h : ks.length ≤ i.toNat) => List.drop_of_length_le h
      have hsu : (i + 1).toNat = i.toNat + 1 := by omega
      have hW21 := hW (by assumption)
      repeat' (first | intro _ | apply And.intro)
      all_goals first | (with_reducible exact True.intro) | (with_reducible assumption) | (simp only [Alg.std]; omega) | ((fail_if_success (refine lp_v (V := Unit) (fun _ => ⟨[], []⟩) (fun _ => True) (fun _ => 0) () ?_ ?_ ?_)); (try simp only [Lg.std, Alg.std, List.drop_zero, List.take_length] at *); (try refine ⟨(_, _, _, _, _, _, _, _, _, _, _), rfl, ?_, ?_⟩); (all_goals (subst hR0 hB_w hg_F_b_Compare hg_Q_b_Compare hg_F_sl_Contains_int64 hg_Q_sl_Contains_int64 hg_F_i_Disk_nodeAt hg_F_i_Disk_nodeAt_1 hg_Q_i_Disk_nodeAt hg_F_i_treeWalk_visit hg_B_i_treeWalk_visit_w hg_Qr_i_treeWalk_visit; (try simp only [Lg.std, Alg.std, List.drop_zero, List.take_length, F_b_Compare, F_sl_Contains_int64, F_i_Disk_nodeAt, F_i_Disk_nodeAt_1, Q_b_Compare, Q_sl_Contains_int64, Q_i_Disk_nodeAt, F_i_treeWalk_visit, B_i_treeWalk_visit_w, Qr_i_treeWalk_visit, Q_i_treeWalk_visit] at *); first | done | ((try simp only [visP, Option.getD_none, Option.getD_some, hn] at *); grind [deepOf])))) | skip
      all_goals first
        | (
          refine lp_v (V := (Int) × (Int) × (Nat) × (Nat) × (Nat) × (Nat) × (Bool) × (List (List Int)) × (List Int) × (List Int) × (List Int) × (List RowT) × (Int) × (List (List Int)) × (List PutT)) (fun ((j, M, N1, N2, N4, N5, F, K, V, G, P, R, dp, D0, D1) : (Int) × (Int) × (Nat) × (Nat) × (Nat) × (Nat) × (Bool) × (List (List Int)) × (List Int) × (List Int) × (List Int) × (List RowT) × (Int) × (List (List Int)) × (List PutT)) => ⟨[.bptr 0 0, Jk, .dat (.int .i64) depth, .dat (.sl (.int .u8)) low, .dat (.sl (.int .u8)) high, Jk, Jk, Jk, Jk, Jk, Jk, .bptr 3 0, Jk, Jk, Jk, Jk, Jk, Jk, Jk, Jk, Jk, Jk, Jk, Jk, Jk, Jk, Jk, Jk, Jk, Jk, Jk, Jk, Jk, Jk, Jk, Jk, Jk, Jk, Jk, Jk, Jk, Jk, Jk, Jk, Jk, Jk, Jk, Jk, Jk, Jk, Jk, Jk, Jk, Jk, Jk, Jk, Jk, Jk, Jk, Jk, Jk, Jk, Jk, Jk, Jk, Jk, Jk, Jk, Jk, Jk, Jk, Jk, Jk, Jk, Jk, Jk, Jk, Jk, Jk, Jk, Jk, Jk, Jk, Jk, Jk, Jk, Jk, Jk, Jk, Jk, Jk, Jk, Jk, Jk, Jk, Jk, Jk, Jk, Jk, Jk, Jk, Jk, Jk, Jk, Jk, Jk, Jk, Jk, Jk, Jk, Jk, Jk, Jk, Jk, Jk, Jk, Jk, Jk, Jk, Jk, Jk, Jk, Jk, Jk, Jk, Jk, Jk, Jk, Jk, Jk, Jk, Jk, Jk, Jk, Jk, Jk, Jk, .ref (.int .i64) 5 0 [] 0 N5, .dat (.int .i64) M, .dat (.int .i64) j, Jk, Jk, Jk, Jk, Jk, Jk, Jk, Jk, Jk, Jk, Jk, Jk, Jk, Jk, Jk, Jk, Jk, Jk, Jk, Jk, Jk, Jk, Jk, Jk, Jk, Jk, Jk, Jk, Jk, Jk, Jk, Jk, Jk, Jk, Jk], [some (.box [.dat (.sl (.sl (.int .u8))) D0, .dat (.sl (.pair (.int .i64) (.pair (.sl (.int .u8)) .unit))) D1, .ref (.int .i64) 1 0 [] 0 N1, .ref (.pair (.sl (.int .u8)) (.pair (.int .i64) .unit)) 2 0 [] 0 N2, .dat (.int .i64) dp]), some (.row 0 (.int .i64) .sh P), some (.row 0 (.pair (.sl (.int .u8)) (.pair (.int .i64) .unit)) (.pr (.ow .sh) (.pr .sh .sh)) R), some (.box [.dat .bool F, .dat (.sl (.sl (.int .u8))) K, .ref (.int .i64) 4 0 [] 0 N4, .ref (.int .i64) 5 0 [] 0 N5]), some (.row 0 (.int .i64) .sh V), some (.row 0 (.int .i64) .sh G), some (.gh [.bptr 0 0])]⟩) (fun ((j, M, N1, N2, N4, N5, F, K, V, G, P, R, dp, D0, D1) : (Int) × (Int) × (Nat) × (Nat) × (Nat) × (Nat) × (Bool) × (List (List Int)) × (List Int) × (List Int) × (List Int) × (List RowT) × (Int) × (List (List Int)) × (List PutT)) => D0 = w_0_0 ∧ D1 = w_0_1 ∧ okW (P, R, dp, PUnit.unit) ∧ lf = false ∧ M = kd.length ∧ N1 = P.length ∧ N2 = R.length ∧ N5 = kd.length ∧ K = ks ∧ G = kd ∧ 0 ≤ j ∧ j ≤ kd.length ∧ vis (fun l n => l ++ [n]) (w_0_0, w_0_1, PUnit.unit) (6 - depth).toNat id depth low high (w_1, w_2, w_3, PUnit.unit) = visK (visF (fun l n => l ++ [n]) (w_0_0, w_0_1, PUnit.unit) depth) ks low high (kd.drop j.toNat) j.toNat (P, R, dp, PUnit.unit)) (fun ((j, M, N1, N2, N4, N5, F, K, V, G, P, R, dp, D0, D1) : (Int) × (Int) × (Nat) × (Nat) × (Nat) × (Nat) × (Bool) × (List (List Int)) × (List Int) × (List Int) × (List Int) × (List RowT) × (Int) × (List (List Int)) × (List PutT)) => kd.length - j.toNat) (0, _, _, _, _, _, _, _, _, _, _, _, _, _, _) rfl ?_ ?_
          · subst hR0 hB_w hg_F_b_Compare hg_Q_b_Compare hg_F_sl_Contains_int64 hg_Q_sl_Contains_int64 hg_F_i_Disk_nodeAt hg_F_i_Disk_nodeAt_1 hg_Q_i_Disk_nodeAt hg_F_i_treeWalk_visit hg_B_i_treeWalk_visit_w hg_Qr_i_treeWalk_visit
            (try simp only [Alg.std, List.drop_zero, List.take_length, List.take_succ_cons, List.take_zero, F_b_Compare, F_sl_Contains_int64, F_i_Disk_nodeAt, F_i_Disk_nodeAt_1, Q_b_Compare, Q_sl_Contains_int64, Q_i_Disk_nodeAt, F_i_treeWalk_visit, B_i_treeWalk_visit_w, Qr_i_treeWalk_visit, Q_i_treeWalk_visit] at *)
            (try simp only [visP, Option.getD_none, Option.getD_some, hn] at *); 
            grind
          rintro ⟨j, M, N1, N2, N4, N5, F, K, V, G, P, R, dp, D0, D1⟩ hf I hI
          replace hf : D0 = w_0_0 ∧ D1 = w_0_1 ∧ okW (P, R, dp, PUnit.unit) ∧ lf = false ∧ M = kd.length ∧ N1 = P.length ∧ N2 = R.length ∧ N5 = kd.length ∧ K = ks ∧ G = kd ∧ 0 ≤ j ∧ j ≤ kd.length ∧ vis (fun l n => l ++ [n]) (w_0_0, w_0_1, PUnit.unit) (6 - depth).toNat id depth low high (w_1, w_2, w_3, PUnit.unit) = visK (visF (fun l n => l ++ [n]) (w_0_0, w_0_1, PUnit.unit) depth) ks low high (kd.drop j.toNat) j.toNat (P, R, dp, PUnit.unit) := hf
          generalize hL : Lg.std = L
          generalize hA : Alg.std = A
          cbv
          subst hL hA
          try dsimp only [Ty.den]
          subst hI
          obtain ⟨h1, h2, h3, h4, h5, h6, h7, h8, h9, h10, h11, h12, h13⟩ := hf
          clear hV1 hV2 hV3 hV4 hO hst hie hid hsu htk hlen hlo' hhi' hW21
          have hl27 := okW_len (P, R, dp, PUnit.unit) h3
          dsimp only at hl27
          have hsu : (j + 1).toNat = j.toNat + 1 := by omega
          have hsp : (j - 1).toNat = j.toNat - 1 := by omega
          have hid := fun (h : kd.length ≤ j.toNat) => visK_nil (visF (fun l n => l ++ [n]) (w_0_0, w_0_1, PUnit.unit) depth) ks low high kd j.toNat (P, R, dp, PUnit.unit) h
          have hst := fun (h : j.toNat < kd.length) (a b : List Int) (ha : a = if 0 < j.toNat then ks.getD (j.toNat - 1) [] else low) (hb : b = if j.toNat < ks.length then ks.getD j.toNat [] else high) => visK_step (visF (fun l n => l ++ [n]) (w_0_0, w_0_1, PUnit.unit) depth) ks low high a b kd j.toNat (P, R, dp, PUnit.unit) h ha hb
          have hfo := fun a b => visF_ok (fun l n => l ++ [n]) okP_app (w_0_0, w_0_1, PUnit.unit) hg depth (kd.getD j.toNat 0) a b (P, R, dp, PUnit.unit) h3
          have hkl := fun (h : j.toNat < ks.length) => ((hW (by assumption)).2.1 j.toNat h)
          have hkl1 := fun (h : j.toNat - 1 < ks.length) => ((hW (by assumption)).2.1 (j.toNat - 1) h)
          simp only [visF] at *
          repeat' (first | intro _ | apply And.intro)
          all_goals first | (with_reducible exact True.intro) | (with_reducible assumption) | (simp only [Alg.std]; omega) | ((fail_if_success (refine lp_v (V := Unit) (fun _ => ⟨[], []⟩) (fun _ => True) (fun _ => 0) () ?_ ?_ ?_)); (try simp only [Lg.std, Alg.std, List.drop_zero, List.take_length] at *); (try refine ⟨(_, _, _, _, _, _, _, _, _, _, _, _, _, _, _), rfl, ?_, ?_⟩); (all_goals (subst hR0 hB_w hg_F_b_Compare hg_Q_b_Compare hg_F_sl_Contains_int64 hg_Q_sl_Contains_int64 hg_F_i_Disk_nodeAt hg_F_i_Disk_nodeAt_1 hg_Q_i_Disk_nodeAt hg_F_i_treeWalk_visit hg_B_i_treeWalk_visit_w hg_Qr_i_treeWalk_visit; (try simp only [Lg.std, Alg.std, List.drop_zero, List.take_length, F_b_Compare, F_sl_Contains_int64, F_i_Disk_nodeAt, F_i_Disk_nodeAt_1, Q_b_Compare, Q_sl_Contains_int64, Q_i_Disk_nodeAt, F_i_treeWalk_visit, B_i_treeWalk_visit_w, Qr_i_treeWalk_visit, Q_i_treeWalk_visit] at *); first | done | ((try simp only [visP, Option.getD_none, Option.getD_some, hn] at *); grind)))) | skip)
        | (
          refine lp_v (V := (Nat) × (Nat) × (Nat) × (Nat) × (Nat) × (Bool) × (List (List Int)) × (List Int) × (List Int) × (List Int) × (Int)) (fun ((N, N1, N2, N4, N5, F, K, V, G, P, dp) : (Nat) × (Nat) × (Nat) × (Nat) × (Nat) × (Bool) × (List (List Int)) × (List Int) × (List Int) × (List Int) × (Int)) => ⟨[.bptr 0 0, Jk, Jk, Jk, Jk, Jk, Jk, Jk, Jk, Jk, Jk, .bptr 3 0, Jk, Jk, Jk, Jk, Jk, Jk, Jk, Jk, Jk, Jk, Jk, Jk, Jk, Jk, Jk, Jk, Jk, Jk, Jk, Jk, Jk, Jk, Jk, Jk, Jk, Jk, Jk, Jk, Jk, Jk, Jk, Jk, Jk, Jk, Jk, Jk, Jk, Jk, Jk, Jk, Jk, Jk, Jk, Jk, Jk, Jk, Jk, Jk, Jk, Jk, Jk, Jk, Jk, Jk, Jk, Jk, Jk, Jk, Jk, Jk, Jk, Jk, Jk, Jk, Jk, Jk, Jk, Jk, Jk, Jk, Jk, Jk, Jk, Jk, Jk, Jk, Jk, Jk, Jk, Jk, Jk, Jk, Jk, Jk, Jk, Jk, Jk, Jk, Jk, Jk, Jk, Jk, Jk, Jk, Jk, Jk, Jk, Jk, Jk, Jk, Jk, Jk, Jk, Jk, Jk, Jk, Jk, Jk, Jk, Jk, Jk, Jk, Jk, Jk, Jk, Jk, Jk, Jk, Jk, Jk, Jk, Jk, Jk, Jk, Jk, Jk, Jk, Jk, Jk, Jk, Jk, Jk, Jk, Jk, Jk, Jk, Jk, Jk, Jk, Jk, Jk, Jk, Jk, Jk, Jk, Jk, Jk, Jk, Jk, Jk, Jk, Jk, Jk, Jk, Jk, Jk, Jk, Jk, Jk, Jk, Jk, Jk, Jk], [some (.box [.dat (.sl (.sl (.int .u8))) w_0_0, .dat (.sl (.pair (.int .i64) (.pair (.sl (.int .u8)) .unit))) w_0_1, .ref (.int .i64) 1 0 [] 0 N1, .ref (.pair (.sl (.int .u8)) (.pair (.int .i64) .unit)) 2 0 [] 0 N2, .dat (.int .i64) dp]), some (.row 0 (.int .i64) .sh P), some (.row 0 (.pair (.sl (.int .u8)) (.pair (.int .i64) .unit)) (.pr (.ow .sh) (.pr .sh .sh)) w_2), some (.box [.dat .bool F, .ref (.sl (.int .u8)) 4 0 [] 0 N, .ref (.int .i64) 5 0 [] 0 N4, .ref (.int .i64) 6 0 [] 0 N5]), some (.row 0 (.sl (.int .u8)) (.ow .sh) K), some (.row 0 (.int .i64) .sh V), some (.row 0 (.int .i64) .sh G), some (.gh [.bptr 0 0])]⟩) (fun ((N, N1, N2, N4, N5, F, K, V, G, P, dp) : (Nat) × (Nat) × (Nat) × (Nat) × (Nat) × (Bool) × (List (List Int)) × (List Int) × (List Int) × (List Int) × (Int)) => ks.all (inBd low high) = true ∧ lf = true ∧ depth = deepOf depth w_3 ∧ dp = deepOf depth w_3 ∧ N = ks.length ∧ N1 = P.length ∧ N2 = w_2.length ∧ N4 = vs.length ∧ F = lf ∧ V = vs ∧ P = w_1 ++ [id] ∧ K = ks) (fun ((N, N1, N2, N4, N5, F, K, V, G, P, dp) : (Nat) × (Nat) × (Nat) × (Nat) × (Nat) × (Bool) × (List (List Int)) × (List Int) × (List Int) × (List Int) × (Int)) => 0) (_, _, _, _, _, _, _, _, _, _, _) rfl ?_ ?_
          · subst hR0 hB_w hg_F_b_Compare hg_Q_b_Compare hg_F_sl_Contains_int64 hg_Q_sl_Contains_int64 hg_F_i_Disk_nodeAt hg_F_i_Disk_nodeAt_1 hg_Q_i_Disk_nodeAt hg_F_i_treeWalk_visit hg_B_i_treeWalk_visit_w hg_Qr_i_treeWalk_visit
            (try simp only [Alg.std, List.drop_zero, List.take_length, List.take_succ_cons, List.take_zero, F_b_Compare, F_sl_Contains_int64, F_i_Disk_nodeAt, F_i_Disk_nodeAt_1, Q_b_Compare, Q_sl_Contains_int64, Q_i_Disk_nodeAt, F_i_treeWalk_visit, B_i_treeWalk_visit_w, Qr_i_treeWalk_visit, Q_i_treeWalk_visit] at *)
            (try simp only [visP, Option.getD_none, Option.getD_some, hn] at *); 
            grind [deepOf]
          rintro ⟨N, N1, N2, N4, N5, F, K, V, G, P, dp⟩ hf I hI
          replace hf : ks.all (inBd low high) = true ∧ lf = true ∧ depth = deepOf depth w_3 ∧ dp = deepOf depth w_3 ∧ N = ks.length ∧ N1 = P.length ∧ N2 = w_2.length ∧ N4 = vs.length ∧ F = lf ∧ V = vs ∧ P = w_1 ++ [id] ∧ K = ks := hf
          generalize hL : Lg.std = L
          generalize hA : Alg.std = A
          cbv
          subst hL hA
          try dsimp only [Ty.den]
          subst hI
          obtain ⟨h1, h2, h3, h4, h5, h6, h7, h8, h9, h10, h11, h12⟩ := hf
          have hVe := (hV4 (by assumption) (by assumption) (by assumption)).2.2.1 h1 h2 h3
          clear hV1 hV2 hV3 hV4 hO hst hie hid hsu htk hW hlo' hhi'
          repeat' (first | intro _ | apply And.intro)
          all_goals first | (with_reducible exact True.intro) | (with_reducible assumption) | (simp only [Alg.std]; omega) | ((fail_if_success (refine lp_v (V := Unit) (fun _ => ⟨[], []⟩) (fun _ => True) (fun _ => 0) () ?_ ?_ ?_)); (try simp only [Lg.std, Alg.std, List.drop_zero, List.take_length] at *); (try refine ⟨(_, _, _, _, _, _, _, _, _, _, _), rfl, ?_, ?_⟩); (all_goals (subst hR0 hB_w hg_F_b_Compare hg_Q_b_Compare hg_F_sl_Contains_int64 hg_Q_sl_Contains_int64 hg_F_i_Disk_nodeAt hg_F_i_Disk_nodeAt_1 hg_Q_i_Disk_nodeAt hg_F_i_treeWalk_visit hg_B_i_treeWalk_visit_w hg_Qr_i_treeWalk_visit; (try simp only [Lg.std, Alg.std, List.drop_zero, List.take_length, F_b_Compare, F_sl_Contains_int64, F_i_Disk_nodeAt, F_i_Disk_nodeAt_1, Q_b_Compare, Q_sl_Contains_int64, Q_i_Disk_nodeAt, F_i_treeWalk_visit, B_i_treeWalk_visit_w, Qr_i_treeWalk_visit, Q_i_treeWalk_visit] at *); first | done | ((try simp only [visP, Option.getD_none, Option.getD_some, hn] at *); grind)))) | skip
          all_goals (
            refine lp_v (V := (Int) × (Int) × (Nat) × (Nat) × (Nat) × (Nat) × (Nat) × (Bool) × (List (List Int)) × (List Int) × (List Int) × (List Int) × (List RowT) × (Int)) (fun ((j, M, N, N1, N2, N4, N5, F, K, V, G, P, R, dp) : (Int) × (Int) × (Nat) × (Nat) × (Nat) × (Nat) × (Nat) × (Bool) × (List (List Int)) × (List Int) × (List Int) × (List Int) × (List RowT) × (Int)) => ⟨[.bptr 0 0, Jk, Jk, Jk, Jk, Jk, Jk, Jk, Jk, Jk, Jk, .bptr 3 0, Jk, Jk, Jk, Jk, Jk, Jk, Jk, Jk, Jk, Jk, Jk, Jk, Jk, Jk, Jk, Jk, Jk, Jk, Jk, Jk, Jk, Jk, Jk, Jk, Jk, Jk, Jk, Jk, Jk, Jk, Jk, Jk, Jk, Jk, Jk, Jk, Jk, Jk, Jk, Jk, Jk, Jk, Jk, Jk, Jk, Jk, Jk, Jk, Jk, Jk, Jk, Jk, Jk, Jk, Jk, Jk, Jk, Jk, Jk, Jk, Jk, Jk, Jk, Jk, Jk, Jk, Jk, Jk, Jk, Jk, Jk, Jk, Jk, Jk, Jk, Jk, Jk, Jk, Jk, Jk, Jk, Jk, Jk, Jk, Jk, Jk, Jk, Jk, Jk, Jk, Jk, Jk, Jk, Jk, Jk, Jk, Jk, Jk, Jk, Jk, .ref (.sl (.int .u8)) 4 0 [] 0 N, .dat (.int .i64) M, .dat (.int .i64) j, Jk, Jk, Jk, Jk, Jk, Jk, Jk, Jk, Jk, Jk, Jk, Jk, Jk, Jk, Jk, Jk, Jk, Jk, Jk, Jk, Jk, Jk, Jk, Jk, Jk, Jk, Jk, Jk, Jk, Jk, Jk, Jk, Jk, Jk, Jk, Jk, Jk, Jk, Jk, Jk, Jk, Jk, Jk, Jk, Jk, Jk, Jk, Jk, Jk, Jk, Jk, Jk, Jk, Jk, Jk, Jk, Jk, Jk, Jk, Jk], [some (.box [.dat (.sl (.sl (.int .u8))) w_0_0, .dat (.sl (.pair (.int .i64) (.pair (.sl (.int .u8)) .unit))) w_0_1, .ref (.int .i64) 1 0 [] 0 N1, .ref (.pair (.sl (.int .u8)) (.pair (.int .i64) .unit)) 2 0 [] 0 N2, .dat (.int .i64) dp]), some (.row 0 (.int .i64) .sh P), some (.row 0 (.pair (.sl (.int .u8)) (.pair (.int .i64) .unit)) (.pr (.ow .sh) (.pr .sh .sh)) R), some (.box [.dat .bool F, .ref (.sl (.int .u8)) 4 0 [] 0 N, .ref (.int .i64) 5 0 [] 0 N4, .ref (.int .i64) 6 0 [] 0 N5]), some (.row 0 (.sl (.int .u8)) .no K), some (.row 0 (.int .i64) .sh V), some (.row 0 (.int .i64) .sh G), some (.gh [.bptr 0 0])]⟩) (fun ((j, M, N, N1, N2, N4, N5, F, K, V, G, P, R, dp) : (Int) × (Int) × (Nat) × (Nat) × (Nat) × (Nat) × (Nat) × (Bool) × (List (List Int)) × (List Int) × (List Int) × (List Int) × (List RowT) × (Int)) => ks.all (inBd low high) = true ∧ lf = true ∧ depth = deepOf depth w_3 ∧ dp = deepOf depth w_3 ∧ M = ks.length ∧ N = ks.length ∧ N1 = P.length ∧ N2 = R.length ∧ N4 = vs.length ∧ F = lf ∧ V = vs ∧ P = w_1 ++ [id] ∧ 0 ≤ j ∧ j ≤ ks.length ∧ K.length = ks.length ∧ R = w_2 ++ rowsOf (ks.take j.toNat) (vs.take j.toNat) ∧ K.drop j.toNat = ks.drop j.toNat) (fun ((j, M, N, N1, N2, N4, N5, F, K, V, G, P, R, dp) : (Int) × (Int) × (Nat) × (Nat) × (Nat) × (Nat) × (Nat) × (Bool) × (List (List Int)) × (List Int) × (List Int) × (List Int) × (List RowT) × (Int)) => ks.length - j.toNat) (0, _, _, _, _, _, _, _, _, _, _, _, _, _) rfl ?_ ?_
            · subst hR0 hB_w hg_F_b_Compare hg_Q_b_Compare hg_F_sl_Contains_int64 hg_Q_sl_Contains_int64 hg_F_i_Disk_nodeAt hg_F_i_Disk_nodeAt_1 hg_Q_i_Disk_nodeAt hg_F_i_treeWalk_visit hg_B_i_treeWalk_visit_w hg_Qr_i_treeWalk_visit
              (try simp only [Alg.std, List.drop_zero, List.take_length, List.take_succ_cons, List.take_zero, F_b_Compare, F_sl_Contains_int64, F_i_Disk_nodeAt, F_i_Disk_nodeAt_1, Q_b_Compare, Q_sl_Contains_int64, Q_i_Disk_nodeAt, F_i_treeWalk_visit, B_i_treeWalk_visit_w, Qr_i_treeWalk_visit, Q_i_treeWalk_visit] at *)
              (try simp only [visP, Option.getD_none, Option.getD_some, hn] at *); 
              grind [deepOf, rowsOf]
            rintro ⟨j, M, N, N1, N2, N4, N5, F, K, V, G, P, R, dp⟩ hf I hI
            replace hf : ks.all (inBd low high) = true ∧ lf = true ∧ depth = deepOf depth w_3 ∧ dp = deepOf depth w_3 ∧ M = ks.length ∧ N = ks.length ∧ N1 = P.length ∧ N2 = R.length ∧ N4 = vs.length ∧ F = lf ∧ V = vs ∧ P = w_1 ++ [id] ∧ 0 ≤ j ∧ j ≤ ks.length ∧ K.length = ks.length ∧ R = w_2 ++ rowsOf (ks.take j.toNat) (vs.take j.toNat) ∧ K.drop j.toNat = ks.drop j.toNat := hf
            generalize hL : Lg.std = L
            generalize hA : Alg.std = A
            cbv
            subst hL hA
            try dsimp only [Ty.den]
            subst hI
            obtain ⟨h1, h2, h3, h4, h5, h6, h7, h8, h9, h10, h11, h12, h13, h14, h15, h16, h17⟩ := hf
            have hat := drop_at (zs := K) ([] : List Int) h17
            have hnx := fun v => drop_next (zs := K) v h17
            have hrs := fun (h : j.toNat < ks.length) => rowsOf_snoc ks vs j.toNat h
            have hra := fun (h : ks.length ≤ j.toNat) => (List.take_of_length_le h : ks.take j.toNat = ks)
            have hrb := fun (h : vs.length ≤ j.toNat) => (List.take_of_length_le h : vs.take j.toNat = vs)
            have hsu : (j + 1).toNat = j.toNat + 1 := by omega
            have hrl := rowsOf_len (ks.take j.toNat) (vs.take j.toNat)
            repeat' (first | intro _ | apply And.intro)
            all_goals first | (with_reducible exact True.intro) | (with_reducible assumption) | (simp only [Alg.std]; omega) | ((fail_if_success (refine lp_v (V := Unit) (fun _ => ⟨[], []⟩) (fun _ => True) (fun _ => 0) () ?_ ?_ ?_)); (try simp only [Lg.std, Alg.std, List.drop_zero, List.take_length] at *); (try refine ⟨(_, _, _, _, _, _, _, _, _, _, _, _, _, _), rfl, ?_, ?_⟩); (all_goals (subst hR0 hB_w hg_F_b_Compare hg_Q_b_Compare hg_F_sl_Contains_int64 hg_Q_sl_Contains_int64 hg_F_i_Disk_nodeAt hg_F_i_Disk_nodeAt_1 hg_Q_i_Disk_nodeAt hg_F_i_treeWalk_visit hg_B_i_treeWalk_visit_w hg_Qr_i_treeWalk_visit; (try simp only [Lg.std, Alg.std, List.drop_zero, List.take_length, F_b_Compare, F_sl_Contains_int64, F_i_Disk_nodeAt, F_i_Disk_nodeAt_1, Q_b_Compare, Q_sl_Contains_int64, Q_i_Disk_nodeAt, F_i_treeWalk_visit, B_i_treeWalk_visit_w, Qr_i_treeWalk_visit, Q_i_treeWalk_visit] at *); first | done | ((try simp only [visP, Option.getD_none, Option.getD_some, hn] at *); grind [deepOf])))) | skip))))
theorem ctr_i_treeWalk_visit (n : Nat) : ∀ (w : ((List (List (Int))) × (List ((Int) × (List (Int)) × Unit)) × Unit) × (List (Int)) × (List ((List (Int)) × (Int) × Unit)) × (Int) × Unit) (id : Int) (depth : Int) (low : Option (List (Int))) (high : Option (List (Int))), Ct pg 130 [.mp (.pair (.pair (.sl (.sl (.int .u8))) (.pair (.sl (.pair (.int .i64) (.pair (.sl (.int .u8)) .unit))) .unit)) (.pair (.sl (.int .i64)) (.pair (.sl (.pair (.sl (.int .u8)) (.pair (.int .i64) .unit))) (.pair (.int .i64) .unit)))) (.pr .sh (.pr (.ow .sh) (.pr (.ow (.pr (.ow .sh) (.pr .sh .sh))) (.pr .sh .sh)))) w, .dat (.int .i64) id, .dat (.int .i64) depth, encO (.int .u8) low, encO (.int .u8) high] ⟨[Qr_i_treeWalk_visit n w id depth low high], [⟨(.int .i64), .sh, F_i_treeWalk_visit w id depth low high⟩], [.mp (.pair (.pair (.sl (.sl (.int .u8))) (.pair (.sl (.pair (.int .i64) (.pair (.sl (.int .u8)) .unit))) .unit)) (.pair (.sl (.int .i64)) (.pair (.sl (.pair (.sl (.int .u8)) (.pair (.int .i64) .unit))) (.pair (.int .i64) .unit)))) (.pr .sh (.pr (.ow .sh) (.pr (.ow (.pr (.ow .sh) (.pr .sh .sh))) (.pr .sh .sh)))) (B_i_treeWalk_visit_w w id depth low high)]⟩ := by
  induction n with
  | zero => exact fun w id depth low high => Ct.never (fun hp => Nat.not_lt_zero _ (hp _ (List.mem_singleton.2 rfl)).2)
  | succ n ih =>
    have okr : ConOk pg 130 (conr_i_treeWalk_visit n) := ConOk.g5 (Enters.of (by kernel_rfl)) ih
    intro w id depth low high
    cases low with
    | none =>
      cases high with
      | none =>
        exact ctc_i_treeWalk_visit_nn n okr w id depth
      | some high =>
        exact ctc_i_treeWalk_visit_ns n okr w id depth high
    | some low =>
      cases high with
      | none =>
        exact ctc_i_treeWalk_visit_sn n okr w id depth low
      | some high =>
        exact ctc_i_treeWalk_visit_ss n okr w id depth low high
theorem ct_i_treeWalk_visit (w : ((List (List (Int))) × (List ((Int) × (List (Int)) × Unit)) × Unit) × (List (Int)) × (List ((List (Int)) × (Int) × Unit)) × (Int) × Unit) (id : Int) (depth : Int) (low : Option (List (Int))) (high : Option (List (Int))) : Ct pg 130 [.mp (.pair (.pair (.sl (.sl (.int .u8))) (.pair (.sl (.pair (.int .i64) (.pair (.sl (.int .u8)) .unit))) .unit)) (.pair (.sl (.int .i64)) (.pair (.sl (.pair (.sl (.int .u8)) (.pair (.int .i64) .unit))) (.pair (.int .i64) .unit)))) (.pr .sh (.pr (.ow .sh) (.pr (.ow (.pr (.ow .sh) (.pr .sh .sh))) (.pr .sh .sh)))) w, .dat (.int .i64) id, .dat (.int .i64) depth, encO (.int .u8) low, encO (.int .u8) high] ⟨[Q_i_treeWalk_visit w id depth low high], [⟨(.int .i64), .sh, F_i_treeWalk_visit w id depth low high⟩], [.mp (.pair (.pair (.sl (.sl (.int .u8))) (.pair (.sl (.pair (.int .i64) (.pair (.sl (.int .u8)) .unit))) .unit)) (.pair (.sl (.int .i64)) (.pair (.sl (.pair (.sl (.int .u8)) (.pair (.int .i64) .unit))) (.pair (.int .i64) .unit)))) (.pr .sh (.pr (.ow .sh) (.pr (.ow (.pr (.ow .sh) (.pr .sh .sh))) (.pr .sh .sh)))) (B_i_treeWalk_visit_w w id depth low high)]⟩ := (ctr_i_treeWalk_visit (((6 - depth).toNat) + 1) w id depth low high).pre (fun h p hp => by rw [List.mem_singleton.1 hp]; exact ⟨h _ (List.mem_singleton.2 rfl), Nat.lt_succ_self _⟩)
def con_i_treeWalk_visit : Con := ⟨true, g5 (pW (.pair (.pair (.sl (.sl (.int .u8))) (.pair (.sl (.pair (.int .i64) (.pair (.sl (.int .u8)) .unit))) .unit)) (.pair (.sl (.int .i64)) (.pair (.sl (.pair (.sl (.int .u8)) (.pair (.int .i64) .unit))) (.pair (.int .i64) .unit)))) (.pr .sh (.pr (.ow .sh) (.pr (.ow (.pr (.ow .sh) (.pr .sh .sh))) (.pr .sh .sh))))) (pD (.int .i64)) (pD (.int .i64)) (pO (.int .u8)) (pO (.int .u8)) fun w id depth low high => .one ⟨[Q_i_treeWalk_visit w id depth low high], [⟨(.int .i64), .sh, F_i_treeWalk_visit w id depth low high⟩], [.mp (.pair (.pair (.sl (.sl (.int .u8))) (.pair (.sl (.pair (.int .i64) (.pair (.sl (.int .u8)) .unit))) .unit)) (.pair (.sl (.int .i64)) (.pair (.sl (.pair (.sl (.int .u8)) (.pair (.int .i64) .unit))) (.pair (.int .i64) .unit)))) (.pr .sh (.pr (.ow .sh) (.pr (.ow (.pr (.ow .sh) (.pr .sh .sh))) (.pr .sh .sh)))) (B_i_treeWalk_visit_w w id depth low high)]⟩, [(.pr .sh (.pr (.ow .sh) (.pr (.ow (.pr (.ow .sh) (.pr .sh .sh))) (.pr .sh .sh))))], true, 0⟩
theorem ok_i_treeWalk_visit : ConOk pg 130 con_i_treeWalk_visit := ConOk.g5 (Enters.of (by kernel_rfl)) ct_i_treeWalk_visit
end Go.Vee
