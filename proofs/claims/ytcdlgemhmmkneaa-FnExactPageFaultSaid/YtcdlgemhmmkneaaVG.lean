import Derived.Test.YtcdlgemhmmkneaaVF
set_option linter.unusedSimpArgs false
set_option linter.unusedVariables false
namespace Go.Vee
open Go

theorem Keeps.setRow (w : World) (b : Nat) (arr : Array Value) (T : Nat → Prop) (hT : T b) : Keeps T w (w.setRow b arr) :=
  ⟨rfl, rfl, rfl, by simp, fun k _ hk => setRow_other w b k arr (fun h => hk (h ▸ hT))⟩

/-- A row of cells with a part laid anew. -/
def lay (arr : Array Value) (off : Nat) (vs : List Value) : Array Value := (arr.toList.take off ++ vs ++ arr.toList.drop (off + vs.length)).toArray

theorem lay_size {arr : Array Value} {off : Nat} {vs : List Value} (h : off + vs.length ≤ arr.size) : (lay arr off vs).size = arr.size := by
  simp [lay]; omega

theorem lay_get {arr : Array Value} {off : Nat} {vs : List Value} (h : off + vs.length ≤ arr.size) (i : Nat) :
    (lay arr off vs)[i]? = if off ≤ i ∧ i < off + vs.length then vs[i - off]? else arr[i]? := by
  simp only [lay, List.getElem?_toArray]
  by_cases h1 : i < off
  · rw [List.append_assoc, List.getElem?_append_left (by simp; omega), List.getElem?_take, if_pos h1, if_neg (by omega)]
    simp
  · by_cases h2 : i < off + vs.length
    · rw [List.append_assoc, List.getElem?_append_right (by simp; omega), List.getElem?_append_left (by simp; omega), if_pos (by omega)]
      simp
      congr 1
      omega
    · rw [List.getElem?_append_right (by simp; omega), List.getElem?_drop, if_neg (by omega)]
      simp
      congr 1
      omega

theorem lay_near {arr : Array Value} {off n : Nat} {vs : List Value} (h : off + vs.length ≤ arr.size) (hn : vs.length = n) : Near arr (lay arr off vs) off n :=
  ⟨lay_size h, fun i hi => by rw [lay_get h, if_neg (by omega)]⟩

theorem lay_seg {arr : Array Value} {off n : Nat} {vs : List Value} (h : off + vs.length ≤ arr.size) (hn : vs.length = n) : seg (lay arr off vs) off n = vs := by
  subst hn
  apply List.ext_getElem?
  intro j
  by_cases hj : j < vs.length
  · rw [seg_get hj, lay_get h, if_pos (by omega)]
    simp
  · have hl := seg_length (arr := lay arr off vs) (i := off) (n := vs.length) (by rw [lay_size h]; exact h)
    rw [List.getElem?_eq_none (l := seg _ _ _) (by omega), List.getElem?_eq_none (by omega)]

theorem putCs_length : ∀ (vs cs : List AV) (off : Nat), (putCs cs off vs).length = cs.length
  | [], _, _ => rfl
  | v :: vs, cs, off => by simp [putCs, putCs_length vs]

theorem putCs_get : ∀ (vs cs : List AV) (off i : Nat), off + vs.length ≤ cs.length → (putCs cs off vs)[i]? = if off ≤ i ∧ i < off + vs.length then vs[i - off]? else cs[i]?
  | [], cs, off, i, h => by simp [putCs]; omega
  | v :: vs, cs, off, i, h => by
    simp only [putCs]
    rw [putCs_get vs _ _ _ (by simp at h ⊢; omega)]
    simp only [List.length_cons] at h ⊢
    by_cases h1 : off + 1 ≤ i ∧ i < off + 1 + vs.length
    · rw [if_pos h1, if_pos (by omega)]
      have : i - off = (i - (off + 1)) + 1 := by omega
      rw [this]; simp
    · rw [if_neg h1]
      by_cases h2 : i = off
      · subst h2
        rw [if_pos (by omega)]
        have hi : i < cs.length := by omega
        simp [hi]
      · rw [if_neg (by omega), List.getElem?_set, if_neg (Ne.symm h2)]

section
variable {w0 w : World} {F0 : Bnd} {s : St} {a : Act} {I : Nat → Prop} {ρ : Nat → RC}

/-- A variable's cells are written. -/
theorem Inv.setBox (h : Inv w0 F0 s a w I ρ) {r : Nat} {cs : List AV} (hr : hget s.H r = some (.box cs)) (off : Nat) (vs : List AV) (us : List Value) (hl : vs.length = us.length) (hoff : off + vs.length ≤ cs.length)
    (h1 : ∀ u ∈ us, u.oneCell' = true) (hv : ∀ (i : Nat) (v : AV) (u : Value), vs[i]? = some v → us[i]? = some u → VR w I ρ s.H v u) :
    ∃ arr et, w.heap[(ρ r).b]? = some (.cells arr et (0, 0)) ∧ (ρ r).off + off + us.length ≤ arr.size ∧
      Inv w0 F0 ⟨s.fr, s.H.set r (some (.box (putCs cs off vs)))⟩ a (w.setRow (ρ r).b (lay arr ((ρ r).off + off) us)) I ρ := by
  obtain ⟨arr, et, hb, hsz, hcell⟩ := h.roots r _ hr
  have hrl := hget_lt hr
  refine ⟨arr, et, hb, by omega, ?_⟩
  have hfit : (ρ r).off + off + us.length ≤ arr.size := by omega
  have hnb : (w.setRow (ρ r).b (lay arr ((ρ r).off + off) us)).heap[(ρ r).b]? = some (.cells (lay arr ((ρ r).off + off) us) et (0, 0)) := setRow_heap w _ arr _ et _ hb
  have hsep := h.sep r _ hr (ρ r).b (by simp [tfp])
  have hIb : ∀ b, I b → (w.setRow (ρ r).b (lay arr ((ρ r).off + off) us)).heap[b]? = w.heap[b]? := fun b hb' => setRow_other w _ _ _ (fun e => hsep.1 (e ▸ hb'))
  have hoth : ∀ r' o, r' ≠ r → hget s.H r' = some o → ∀ b ∈ tfp ρ r' o, (w.setRow (ρ r).b (lay arr ((ρ r).off + off) us)).heap[b]? = w.heap[b]? := fun r' o hne hr' b hb' =>
    setRow_other w _ _ _ (fun e => h.disj r' o r _ hne hr' hr b hb' (by simp [tfp, e]))
  have E : Ext w (w.setRow (ρ r).b (lay arr ((ρ r).off + off) us)) I I ρ ρ s.H (s.H.set r (some (.box (putCs cs off vs)))) := ⟨hIb, fun _ h => h, by simp, fun _ _ => ⟨rfl, rfl, rfl⟩, fun r' _ v' e m xs hg => by
    rw [hget_set hrl] at hg
    split at hg
    · cases hg
    · rename_i hne
      exact ⟨v', m, xs, hg, RowStep.same hIb (h.roots r' _ hg) (hoth r' _ hne hg)⟩⟩
  have cases2 : ∀ r' o, hget (s.H.set r (some (.box (putCs cs off vs)))) r' = some o → (r' = r ∧ o = .box (putCs cs off vs)) ∨ (r' ≠ r ∧ hget s.H r' = some o) := fun r' o hr' => by
    rw [hget_set hrl] at hr'
    split at hr'
    · rename_i e; cases hr'; exact .inl ⟨e, rfl⟩
    · rename_i e; exact .inr ⟨e, hr'⟩
  exact { h with
    slots := fun i v hv => let ⟨u, h1, h2⟩ := h.slots i v hv; ⟨u, h1, h2.ext E⟩
    roots := fun r' o hr' => by
      rcases cases2 r' o hr' with ⟨rfl, rfl⟩ | ⟨hne, hr2⟩
      · refine ⟨_, et, hnb, by rw [lay_size hfit, putCs_length]; exact hsz, fun i v hi => ?_⟩
        rw [putCs_get _ _ _ _ hoff] at hi
        rw [lay_get hfit]
        by_cases hin : off ≤ i ∧ i < off + vs.length
        · rw [if_pos hin] at hi
          rw [if_pos (by omega)]
          have hlt : i - off < us.length := by omega
          have he : (ρ r').off + i - ((ρ r').off + off) = i - off := by omega
          refine ⟨us[i - off], by rw [he]; simp [hlt], h1 _ (List.getElem_mem hlt), (hv (i - off) v _ hi (by simp [hlt])).ext E⟩
        · rw [if_neg hin] at hi
          rw [if_neg (by omega)]
          obtain ⟨u, hu, h4, h5⟩ := hcell i v hi
          exact ⟨u, hu, h4, h5.ext E⟩
      · exact (h.roots r' o hr2).ext E (hget_lt hr2) rfl (hoth r' o hne hr2)
    nodup := fun r' o hr' => by
      rcases cases2 r' o hr' with ⟨rfl, rfl⟩ | ⟨hne, hr2⟩
      · simp [tfp]
      · exact h.nodup r' o hr2
    disj := fun r1 o1 r2 o2 hne hr1 hr2 b hb1 hb2 => by
      rcases cases2 r1 o1 hr1 with ⟨rfl, rfl⟩ | ⟨hne1, hr1'⟩
      · rcases cases2 r2 o2 hr2 with ⟨rfl, rfl⟩ | ⟨hne2, hr2'⟩
        · exact hne rfl
        · exact h.disj _ _ _ _ hne hr hr2' b (by simpa [tfp] using hb1) hb2
      · rcases cases2 r2 o2 hr2 with ⟨rfl, rfl⟩ | ⟨hne2, hr2'⟩
        · exact h.disj _ _ _ _ hne hr1' hr b hb1 (by simpa [tfp] using hb2)
        · exact h.disj _ _ _ _ hne hr1' hr2' b hb1 hb2
    imm := fun b hb' => by simpa using h.imm b hb'
    sep := fun r' o hr' b hb' => by
      rcases cases2 r' o hr' with ⟨rfl, rfl⟩ | ⟨hne, hr2⟩
      · have : b = (ρ r').b := by simpa [tfp] using hb'
        subst this
        simpa using hsep
      · simpa using h.sep r' o hr2 b hb'
    size := by simpa using h.size
    frame := fun b hb' hf => by
      by_cases e : b = (ρ r).b
      · subst e
        exact (hsep.2.2.elim (fun q => absurd q (by omega)) (fun q => absurd q hf))
      · exact (setRow_other w _ _ _ e).trans (h.frame b hb' hf)
    keep := fun r' cs' hr' arr0 et0 fr0 hb0 => by
      rcases cases2 r' _ hr' with ⟨rfl, e⟩ | ⟨hne, hr2⟩
      · cases e
        obtain ⟨arr', et', hb', hn⟩ := h.keep r' cs hr arr0 et0 fr0 hb0
        rw [hb] at hb'
        cases hb'
        refine ⟨_, _, hnb, ⟨(lay_size hfit).trans hn.size, fun i hi => ?_⟩⟩
        rw [putCs_length] at hi
        rw [lay_get hfit, if_neg (by omega)]
        exact hn.same i hi
      · obtain ⟨arr', et', hb', hn⟩ := h.keep r' cs' hr2 arr0 et0 fr0 hb0
        exact ⟨arr', et', (hoth r' _ hne hr2 _ (by simp [tfp])).trans hb', hn⟩ }

end
end Go.Vee
