import Derived.Test.YtcdlgemhmmkneaaVB
set_option linter.unusedSimpArgs false
set_option linter.unusedVariables false
namespace Go.Vee
open Go

theorem nodup_flatten {L : List (List Nat)} : L.flatten.Nodup ↔ (∀ j, (L.getD j []).Nodup) ∧ ∀ j k, j ≠ k → ∀ q, q ∈ L.getD j [] → q ∉ L.getD k [] := by
  induction L with
  | nil => simp
  | cons l L ih =>
    rw [List.flatten_cons, List.nodup_append, ih]
    constructor
    · rintro ⟨h1, ⟨h2, h3⟩, h4⟩
      refine ⟨fun j => ?_, fun j k hjk q hq hk => ?_⟩
      · cases j with
        | zero => simpa using h1
        | succ j => simpa using h2 j
      · have mem : ∀ i, q ∈ L.getD i [] → q ∈ L.flatten := fun i hi => by
          by_cases h : i < L.length
          · exact List.mem_flatten.2 ⟨L[i], List.getElem_mem h, by simpa [List.getD_eq_getElem?_getD, h] using hi⟩
          · simp [List.getD_eq_getElem?_getD, List.getElem?_eq_none (Nat.le_of_not_lt h)] at hi
        cases j with
        | zero => cases k with
          | zero => exact hjk rfl
          | succ k => exact h4 q (by simpa using hq) q (mem k (by simpa using hk)) rfl
        | succ j => cases k with
          | zero => exact h4 q (by simpa using hk) q (mem j (by simpa using hq)) rfl
          | succ k => exact h3 j k (by omega) q (by simpa using hq) (by simpa using hk)
    · rintro ⟨h1, h2⟩
      refine ⟨by simpa using h1 0, ⟨fun j => by simpa using h1 (j + 1), fun j k hjk q hq => by simpa using h2 (j + 1) (k + 1) (by omega) q (by simpa using hq)⟩, fun a ha b hb => ?_⟩
      rintro rfl
      obtain ⟨l', hl', hm⟩ := List.mem_flatten.1 hb
      obtain ⟨j, hj, rfl⟩ := List.getElem_of_mem hl'
      exact h2 0 (j + 1) (by omega) a (by simpa using ha) (by simpa [List.getD_eq_getElem?_getD, hj] using hm)

theorem mem_flatten_getD {L : List (List Nat)} {q : Nat} : q ∈ L.flatten ↔ ∃ j, q ∈ L.getD j [] := by
  constructor
  · intro h
    obtain ⟨l', hl', hm⟩ := List.mem_flatten.1 h
    obtain ⟨j, hj, rfl⟩ := List.getElem_of_mem hl'
    exact ⟨j, by simpa [List.getD_eq_getElem?_getD, hj] using hm⟩
  · rintro ⟨j, h⟩
    by_cases hj : j < L.length
    · exact List.mem_flatten.2 ⟨L[j], List.getElem_mem hj, by simpa [List.getD_eq_getElem?_getD, hj] using h⟩
    · simp [List.getD_eq_getElem?_getD, List.getElem?_eq_none (Nat.le_of_not_lt hj)] at h

theorem getD_set {L : List (List Nat)} {i j : Nat} {v : List Nat} (hi : i < L.length) : (L.set i v).getD j [] = if j = i then v else L.getD j [] := by
  simp only [List.getD_eq_getElem?_getD, List.getElem?_set]
  by_cases h : i = j
  · subst h; simp [hi]
  · simp [h, Ne.symm h]

/-! ## Ways into a value -/
/-- The cells at the end of a way, its type, and where they lie in memory (none: they are in hand). -/
def walk (w : World) : (t : Ty) → List Value → Option (Nat × Nat) → List Stp → Option (Ty × List Value × Option (Nat × Nat))
  | t, cs, l, [] => some (t, cs, l)
  | .pair a _, cs, l, .fst :: p => walk w a (cs.take a.sz) l p
  | .pair a b, cs, l, .snd :: p => walk w b (cs.drop a.sz) (l.map fun q => (q.1, q.2 + a.sz)) p
  | .sl e, [.slice (some ⟨b, off, none⟩) n _], _, .idx i :: p =>
    match w.heap[b]? with
    | some (.cells arr _ _) => if i < n then walk w e (seg arr (off + i * e.sz) e.sz) (some (b, off + i * e.sz)) p else none
    | _ => none
  | _, _, _, _ => none

theorem walk_frame {w w' : World} {I : Nat → Prop} (hI : ∀ b, I b → w'.heap[b]? = w.heap[b]?) : ∀ (p : List Stp) {t : Ty} {m : Md} {cs : List Value} {x : t.den} {fp : List Nat} {l : Option (Nat × Nat)} {r},
    Own w I t m cs x fp → (∀ b ∈ fp, w'.heap[b]? = w.heap[b]?) → walk w t cs l p = some r → walk w' t cs l p = some r := by
  intro p
  induction p with
  | nil => intro t m cs x fp l r h hf hw; cases t <;> simpa [walk] using hw
  | cons s p ih =>
    intro t m cs x fp l r h hf hw
    cases t with
    | pair a b =>
      obtain ⟨c1, c2, f1, f2, rfl, rfl, h1, h2⟩ := h
      have e1 := h1.len
      cases s with
      | fst =>
        simp only [walk, List.take_left' e1] at hw ⊢
        exact ih h1 (fun q hq => hf q (by simp [hq])) hw
      | snd =>
        simp only [walk, List.drop_left' e1] at hw ⊢
        exact ih h2 (fun q hq => hf q (by simp [hq])) hw
      | idx i => simp [walk] at hw
    | sl e =>
      cases s with
      | fst => simp [walk] at hw
      | snd => simp [walk] at hw
      | idx i =>
        cases m with
        | sh =>
          obtain ⟨hl, rfl, A, c, rfl, _, h⟩ := h
          rcases h with rfl | ⟨b, off, arr, et, fr, rfl, hb, hi, h⟩
          · cases A with
            | none => simp [walk] at hw
            | some ad =>
              obtain ⟨b, off, sp⟩ := ad
              cases sp with
              | some _ => simp [walk] at hw
              | none =>
                simp only [walk] at hw
                split at hw
                · simp at hw
                · cases hw
          · simp only [walk, hb, hI b hi] at hw ⊢
            split at hw
            · rename_i hlt
              simp only [hlt, if_true]
              exact ih (h i hlt).2 (by simp) hw
            · cases hw
        | ow m' =>
          rcases h.2 with ⟨rfl, rfl, rfl⟩ | ⟨b, c, arr, et, fps, rfl, hb, h1, h2, h3, h4, rfl, hel⟩
          · simp [walk] at hw
          · simp only [walk, hb, hf b (by simp), Nat.zero_add] at hw ⊢
            split at hw
            · rename_i hlt
              simp only [hlt, if_true]
              exact ih (hel i hlt) (fun q hq => hf q (List.mem_cons_of_mem _ (mem_flatten_getD.2 ⟨i, hq⟩))) hw
            · cases hw
        | no => exact h.2.elim
        | pr _ _ => exact h.2.elim
    | int k => simp [walk] at hw
    | bool => simp [walk] at hw
    | str => simp [walk] at hw
    | unit => simp [walk] at hw

theorem walk_idx {w : World} {e : Ty} {cs : List Value} {l : Option (Nat × Nat)} {i : Nat} {q : List Stp} {r} (h : walk w (.sl e) cs l (.idx i :: q) = some r) :
    ∃ b off n c arr et fr, cs = [.slice (some ⟨b, off, none⟩) n c] ∧ w.heap[b]? = some (.cells arr et fr) ∧ i < n ∧ walk w e (seg arr (off + i * e.sz) e.sz) (some (b, off + i * e.sz)) q = some r := by
  match cs, h with
  | [.slice (some ⟨b, off, none⟩) n c], h =>
    simp only [walk] at h
    split at h
    · rename_i arr et fr hb
      split at h
      · rename_i hlt
        exact ⟨b, off, n, c, arr, et, fr, rfl, hb, hlt, h⟩
      · cases h
    · cases h
  | [.slice (some ⟨b, off, some _⟩) n c], h => simp [walk] at h
  | [.slice none n c], h => simp [walk] at h
  | [.bool _], h => simp [walk] at h
  | [.int _ _], h => simp [walk] at h
  | [.float _ _], h => simp [walk] at h
  | [.complex _ _ _], h => simp [walk] at h
  | [.string _], h => simp [walk] at h
  | [.pointer _], h => simp [walk] at h
  | [.map _], h => simp [walk] at h
  | [.chan _], h => simp [walk] at h
  | [.func _ _ _], h => simp [walk] at h
  | [.nilFunc], h => simp [walk] at h
  | [.iface _ _], h => simp [walk] at h
  | [.nilIface], h => simp [walk] at h
  | [.agg _], h => simp [walk] at h
  | [.tuple _], h => simp [walk] at h
  | [], h => simp [walk] at h
  | _ :: _ :: _, h => simp [walk] at h
theorem walk_append {w : World} : ∀ {p : List Stp} {t : Ty} {cs : List Value} {l : Option (Nat × Nat)} {t' cs' l'} {q : List Stp}, walk w t cs l p = some (t', cs', l') → walk w t cs l (p ++ q) = walk w t' cs' l' q
  | [], t, cs, l, t', cs', l', q, h => by
    have : (t, cs, l) = (t', cs', l') := by cases t <;> simpa [walk] using h
    cases this; rfl
  | st :: p, t, cs, l, t', cs', l', q, h => by
    cases t with
    | pair a b =>
      cases st with
      | fst => simp only [walk, List.cons_append] at h ⊢; exact walk_append h
      | snd => simp only [walk, List.cons_append] at h ⊢; exact walk_append h
      | idx i => simp [walk] at h
    | sl e =>
      cases st with
      | fst => simp [walk] at h
      | snd => simp [walk] at h
      | idx i =>
        obtain ⟨b, off, n, c, arr, et, fr, rfl, hb, hlt, h⟩ := walk_idx h
        rw [List.cons_append, walk, hb]
        simp only [hlt, if_true]
        exact walk_append h
    | int k => simp [walk] at h
    | bool => simp [walk] at h
    | str => simp [walk] at h
    | unit => simp [walk] at h
theorem hops_append : ∀ (p q : List Stp), hops (p ++ q) = hops p + hops q
  | [], q => by simp [hops]
  | .idx i :: p, q => by simp [hops, hops_append p q]; omega
  | .fst :: p, q => by simp [hops, hops_append p q]
  | .snd :: p, q => by simp [hops, hops_append p q]

abbrev S := Alg.std
theorem getL_std {α : Type} (l : List α) (i : Nat) (d : α) (h : i < l.length) : Alg.std.getL l i d = l[i] := by simp [Alg.std, h]

/-- What is at a place. -/
theorem Own.get {w : World} {I : Nat → Prop} : ∀ (p : List Stp) {t : Ty} {m : Md} {cs : List Value} {x : t.den} {fp : List Nat} {l l' : Option (Nat × Nat)} {t' t2 : Ty} {m' : Md} {x' : t'.den} {cs' : List Value},
    Own w I t m cs x fp → getAt Alg.std t m x p = some ⟨t', m', x'⟩ → walk w t cs l p = some (t2, cs', l') → t2 = t' ∧ ∃ fp', Own w I t' m' cs' x' fp' ∧ ∀ b ∈ fp', b ∈ fp := by
  intro p
  induction p with
  | nil =>
    intro t m cs x fp l l' t' t2 m' x' cs' h hg hw
    have e1 : (⟨t, m, x⟩ : (t : Ty) × Md × t.den) = ⟨t', m', x'⟩ := by cases t <;> simpa [getAt] using hg
    have e2 : (t, cs, l) = (t2, cs', l') := by cases t <;> simpa [walk] using hw
    cases e1
    cases e2
    exact ⟨rfl, fp, h, fun _ hb => hb⟩
  | cons s p ih =>
    intro t m cs x fp l l' t' t2 m' x' cs' h hg hw
    cases t with
    | pair a b =>
      obtain ⟨c1, c2, f1, f2, rfl, rfl, h1, h2⟩ := h
      have e1 := h1.len
      cases s with
      | fst =>
        simp only [walk, List.take_left' e1] at hw
        simp only [getAt] at hg
        obtain ⟨e, fp', ho, hs⟩ := ih h1 hg hw
        exact ⟨e, fp', ho, fun q hq => List.mem_append_left _ (hs q hq)⟩
      | snd =>
        simp only [walk, List.drop_left' e1] at hw
        simp only [getAt] at hg
        obtain ⟨e, fp', ho, hs⟩ := ih h2 hg hw
        exact ⟨e, fp', ho, fun q hq => List.mem_append_right _ (hs q hq)⟩
      | idx i => simp [walk] at hw
    | sl e =>
      cases s with
      | fst => simp [walk] at hw
      | snd => simp [walk] at hw
      | idx i =>
        cases m with
        | ow m' =>
          rcases h.2 with ⟨rfl, rfl, rfl⟩ | ⟨b, c, arr, et, fps, rfl, hb, h1, h2, h3, h4, rfl, hel⟩
          · simp [walk] at hw
          · simp only [walk, hb, Nat.zero_add] at hw
            split at hw
            · rename_i hlt
              simp only [getAt, getL_std _ _ _ hlt] at hg
              obtain ⟨e, fp', ho, hs⟩ := ih (hel i hlt) hg hw
              exact ⟨e, fp', ho, fun q hq => List.mem_cons_of_mem _ (mem_flatten_getD.2 ⟨i, hs q hq⟩)⟩
            · cases hw
        | sh => simp [getAt] at hg
        | no => simp [getAt] at hg
        | pr _ _ => simp [getAt] at hg
    | int k => simp [walk] at hw
    | bool => simp [walk] at hw
    | str => simp [walk] at hw
    | unit => simp [walk] at hw

end Go.Vee
