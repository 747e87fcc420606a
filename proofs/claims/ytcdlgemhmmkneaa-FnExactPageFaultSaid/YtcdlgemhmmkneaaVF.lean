import Derived.Test.YtcdlgemhmmkneaaVE
set_option linter.unusedSimpArgs false
set_option linter.unusedVariables false
namespace Go.Vee
open Go

/-- Of what lay in w, only blocks of T may have turned. -/
structure Keeps (T : Nat → Prop) (w w' : World) : Prop where
  os : w'.os = w.os
  tape : w'.tape = w.tape
  output : w'.output = w.output
  size : w.heap.size ≤ w'.heap.size
  block : ∀ k, k < w.heap.size → ¬ T k → w'.heap[k]? = w.heap[k]?

theorem Keeps.refl (T : Nat → Prop) (w : World) : Keeps T w w := ⟨rfl, rfl, rfl, Nat.le_refl _, fun _ _ _ => rfl⟩
theorem Keeps.trans {T : Nat → Prop} {a b c : World} (h : Keeps T a b) (k : Keeps T b c) : Keeps T a c :=
  ⟨k.os.trans h.os, k.tape.trans h.tape, k.output.trans h.output, Nat.le_trans h.size k.size, fun i hi ht => (k.block i (Nat.lt_of_lt_of_le hi h.size) ht).trans (h.block i hi ht)⟩
theorem Keeps.mono {T T' : Nat → Prop} {a b : World} (h : Keeps T a b) (ht : ∀ k, k < a.heap.size → T k → T' k) : Keeps T' a b := ⟨h.os, h.tape, h.output, h.size, fun k hk hn => h.block k hk fun hh => hn (ht k hk hh)⟩
theorem Keeps.alloc (T : Nat → Prop) (w : World) (o : Obj) : Keeps T w (w.alloc o) := ⟨rfl, rfl, rfl, by simp, fun k hk _ => heap_alloc_old w o k hk⟩
theorem Keeps.drewN (T : Nat → Prop) (w : World) (n : Nat) : Keeps T w (w.drewN n) := ⟨rfl, rfl, rfl, Nat.le_refl _, fun _ _ _ => rfl⟩
theorem Keeps.drew (T : Nat → Prop) (w : World) : Keeps T w w.drew := ⟨rfl, rfl, rfl, Nat.le_refl _, fun _ _ _ => rfl⟩

section
variable {w0 w : World} {F0 : Bnd} {s : St} {a : Act} {I : Nat → Prop} {ρ : Nat → RC}

theorem Inv.get_lt (h : Inv w0 F0 s a w I ρ) {b : Nat} {o : Obj} (hb : w.heap[b]? = some o) : b < w.heap.size := (Array.getElem?_eq_some_iff.1 hb).1

/-- Fewer roots. -/
theorem Inv.sub (h : Inv w0 F0 s a w I ρ) {H' : Heap} (hs : ∀ r o, hget H' r = some o → hget s.H r = some o) (hl : s.H.length ≤ H'.length) : Inv w0 F0 ⟨s.fr, H'⟩ a w I ρ := by
  have E : Ext w w I I ρ ρ s.H H' := ⟨fun _ _ => rfl, fun _ h => h, hl, fun _ _ => ⟨rfl, rfl, rfl⟩, fun r _ v' e m xs hg =>
    ⟨v', m, xs, hs _ _ hg, Nat.le_refl _, .inl fun p r h => h⟩⟩
  exact { h with
    slots := fun i v hv => let ⟨u, h1, h2⟩ := h.slots i v hv; ⟨u, h1, h2.ext E⟩
    roots := fun r o hr => (h.roots r o (hs r o hr)).ext E (hget_lt (hs r o hr)) rfl fun _ _ => rfl
    nodup := fun r o hr => h.nodup r o (hs r o hr)
    disj := fun r o r' o' hne hr hr' => h.disj r o r' o' hne (hs r o hr) (hs r' o' hr')
    sep := fun r o hr => h.sep r o (hs r o hr)
    keep := fun r cs hr => h.keep r cs (hs r _ hr) }

theorem Inv.kill (h : Inv w0 F0 s a w I ρ) (r : Nat) : Inv w0 F0 ⟨s.fr, s.H.set r none⟩ a w I ρ := by
  refine h.sub (fun k o hk => ?_) (by simp)
  by_cases hr : r < s.H.length
  · rw [hget_set hr] at hk
    split at hk
    · cases hk
    · exact hk
  · rwa [List.set_eq_of_length_le (by omega)] at hk

/-- Blocks that no root owns may be counted among the shared. -/
theorem Inv.share (h : Inv w0 F0 s a w I ρ) (L : Nat → Prop) (h1 : ∀ b, L b → b < w.heap.size) (h3 : ∀ b, L b → w0.heap.size ≤ b ∨ F0.rd b) (h2 : ∀ r o, hget s.H r = some o → ∀ b ∈ tfp ρ r o, ¬ L b) : Inv w0 F0 s a w (fun b => I b ∨ L b) ρ := by
  have E : Ext w w I (fun b => I b ∨ L b) ρ ρ s.H s.H := ⟨fun _ _ => rfl, fun _ h => .inl h, Nat.le_refl _, fun _ _ => ⟨rfl, rfl, rfl⟩, fun r _ v' e m xs hg =>
    ⟨v', m, xs, hg, Nat.le_refl _, .inl fun p r h => h⟩⟩
  exact { h with
    slots := fun i v hv => let ⟨u, h1, h2⟩ := h.slots i v hv; ⟨u, h1, h2.ext E⟩
    roots := fun r o hr => (h.roots r o hr).ext E (hget_lt hr) rfl fun _ _ => rfl
    imm := fun b hb => hb.elim (h.imm b) (h1 b)
    immF := fun b hb => hb.elim (h.immF b) (h3 b)
    sep := fun r o hr b hb => ⟨fun hh => hh.elim (h.sep r o hr b hb).1 (h2 r o hr b hb), (h.sep r o hr b hb).2⟩ }

/-- The world comes on; no tracked block turns. -/
theorem Inv.world (h : Inv w0 F0 s a w I ρ) {w' : World} {T : Nat → Prop} (hk : Keeps T w w') (hI : ∀ b, I b → ¬ T b) (hT : ∀ r o, hget s.H r = some o → ∀ b ∈ tfp ρ r o, ¬ T b)
    (h0 : ∀ b, T b → b < w.heap.size → w0.heap.size ≤ b ∨ F0.wr b) : Inv w0 F0 s a w' I ρ := by
  have hblk : ∀ r o, hget s.H r = some o → ∀ b ∈ tfp ρ r o, w'.heap[b]? = w.heap[b]? := fun r o hr b hb => hk.block b (h.sep r o hr b hb).2.1 (hT r o hr b hb)
  have hIb : ∀ b, I b → w'.heap[b]? = w.heap[b]? := fun b hb => hk.block b (h.imm b hb) (hI b hb)
  have E : Ext w w' I I ρ ρ s.H s.H := ⟨hIb, fun _ h => h, Nat.le_refl _, fun _ _ => ⟨rfl, rfl, rfl⟩, fun r _ v' e m xs hg =>
    ⟨v', m, xs, hg, RowStep.same hIb (h.roots r _ hg) (hblk r _ hg)⟩⟩
  exact { h with
    slots := fun i v hv => let ⟨u, h1, h2⟩ := h.slots i v hv; ⟨u, h1, h2.ext E⟩
    roots := fun r o hr => (h.roots r o hr).ext E (hget_lt hr) rfl (hblk r o hr)
    imm := fun b hb => Nat.lt_of_lt_of_le (h.imm b hb) hk.size
    sep := fun r o hr b hb => ⟨(h.sep r o hr b hb).1, Nat.lt_of_lt_of_le (h.sep r o hr b hb).2.1 hk.size, (h.sep r o hr b hb).2.2⟩
    os := hk.os.trans h.os
    tape := hk.tape.trans h.tape
    output := hk.output.trans h.output
    size := Nat.le_trans h.size hk.size
    frame := fun b hb hf => by
      by_cases ht : T b
      · exact ((h0 b ht (Nat.lt_of_lt_of_le hb h.size)).elim (fun q => absurd q (by omega)) (fun q => absurd q hf))
      · exact (hk.block b (Nat.lt_of_lt_of_le hb h.size) ht).trans (h.frame b hb hf)
    keep := fun r cs hr arr0 et0 fr0 hb0 => by
      obtain ⟨arr, et, h1, h2⟩ := h.keep r cs hr arr0 et0 fr0 hb0
      exact ⟨arr, et, (hblk r _ hr _ (by simp [tfp])).trans h1, h2⟩ }

def upd (ρ : Nat → RC) (r : Nat) (c : RC) : Nat → RC := fun k => if k = r then c else ρ k

/-- A root more. -/
theorem Inv.add (h : Inv w0 F0 s a w I ρ) (o : Root) (c : RC) (hok : RootOk w I (upd ρ s.H.length c) (s.H ++ [some o]) s.H.length o)
    (hnd : (tfp (upd ρ s.H.length c) s.H.length o).Nodup)
    (hd : ∀ b ∈ tfp (upd ρ s.H.length c) s.H.length o, ¬ I b ∧ b < w.heap.size ∧ (w0.heap.size ≤ b ∨ F0.wr b) ∧ ∀ r o', hget s.H r = some o' → b ∉ tfp ρ r o')
    (hkeep : ∀ cs, o = .box cs → w0.heap.size ≤ c.b) :
    Inv w0 F0 ⟨s.fr, s.H ++ [some o]⟩ a w I (upd ρ s.H.length c) := by
  have hup : ∀ r, r < s.H.length → upd ρ s.H.length c r = ρ r := fun r hr => by simp [upd, Nat.ne_of_lt hr]
  have E : Ext w w I I ρ (upd ρ s.H.length c) s.H (s.H ++ [some o]) := ⟨fun _ _ => rfl, fun _ h => h, by simp, fun r hr => by simp [hup r hr], fun r hr v' e m xs hg => by
    rw [hget_app, if_neg (Nat.ne_of_lt hr)] at hg
    exact ⟨v', m, xs, hg, Nat.le_refl _, .inl fun p r h => h⟩⟩
  have cases2 : ∀ r o', hget (s.H ++ [some o]) r = some o' → (r = s.H.length ∧ o' = o) ∨ (r < s.H.length ∧ hget s.H r = some o' ∧ tfp (upd ρ s.H.length c) r o' = tfp ρ r o') := fun r o' hr => by
    rw [hget_app] at hr
    split at hr
    · rename_i e; cases hr; exact .inl ⟨e, rfl⟩
    · have hlt := hget_lt hr
      exact .inr ⟨hlt, hr, tfp_ext E hlt (by rw [hup r hlt])⟩
  exact { h with
    slots := fun i v hv => let ⟨u, h1, h2⟩ := h.slots i v hv; ⟨u, h1, h2.ext E⟩
    roots := fun r o' hr => by
      rcases cases2 r o' hr with ⟨rfl, rfl⟩ | ⟨hlt, hr', _⟩
      · exact hok
      · exact (h.roots r o' hr').ext E hlt (by rw [hup r hlt]) fun _ _ => rfl
    nodup := fun r o' hr => by
      rcases cases2 r o' hr with ⟨rfl, rfl⟩ | ⟨hlt, hr', e⟩
      · exact hnd
      · rw [e]; exact h.nodup r o' hr'
    disj := fun r o1 r' o2 hne hr hr' b hb hb' => by
      rcases cases2 r o1 hr with ⟨rfl, rfl⟩ | ⟨hlt, hr1, e⟩
      · rcases cases2 r' o2 hr' with ⟨rfl, rfl⟩ | ⟨hlt', hr2, e'⟩
        · exact hne rfl
        · exact (hd b hb).2.2.2 r' o2 hr2 (e' ▸ hb')
      · rcases cases2 r' o2 hr' with ⟨rfl, rfl⟩ | ⟨hlt', hr2, e'⟩
        · exact (hd b hb').2.2.2 r o1 hr1 (e ▸ hb)
        · exact h.disj r o1 r' o2 hne hr1 hr2 b (e ▸ hb) (e' ▸ hb')
    sep := fun r o' hr b hb => by
      rcases cases2 r o' hr with ⟨rfl, rfl⟩ | ⟨hlt, hr', e⟩
      · exact ⟨(hd b hb).1, (hd b hb).2.1, (hd b hb).2.2.1⟩
      · exact h.sep r o' hr' b (e ▸ hb)
    keep := fun r cs hr arr0 et0 fr0 hb0 => by
      rcases cases2 r _ hr with ⟨rfl, e⟩ | ⟨hlt, hr', e⟩
      · have := hkeep cs e.symm
        have h2 := (Array.getElem?_eq_some_iff.1 hb0).1
        simp only [upd, if_true] at h2
        omega
      · rw [hup r hlt] at hb0 ⊢
        exact h.keep r cs hr' arr0 et0 fr0 hb0 }

/-- A variable made. -/
theorem Inv.addBox (h : Inv w0 F0 s a w I ρ) (cs : List AV) (vs : List Value) (et : TypeId) (hl : cs.length = vs.length) (h1 : ∀ u ∈ vs, u.oneCell' = true)
    (hv : ∀ (i : Nat) (v : AV) (u : Value), cs[i]? = some v → vs[i]? = some u → VR w I ρ s.H v u) :
    ∃ ρ', Inv w0 F0 ⟨s.fr, s.H ++ [some (.box cs)]⟩ a (w.alloc (.cells vs.toArray et)) I ρ' ∧
      VR (w.alloc (.cells vs.toArray et)) I ρ' (s.H ++ [some (.box cs)]) (.bptr s.H.length 0) (.pointer (some ⟨w.heap.size, 0, none⟩)) := by
  have hw := h.world (Keeps.alloc (fun _ => False) w (.cells vs.toArray et)) (fun _ _ h => h) (fun _ _ _ _ _ h => h) (fun _ h => h.elim)
  have hnew : (w.alloc (.cells vs.toArray et)).heap[w.heap.size]? = some (.cells vs.toArray et (0, 0)) := heap_alloc_new w _
  have E : Ext w (w.alloc (.cells vs.toArray et)) I I ρ (upd ρ s.H.length ⟨w.heap.size, 0, .nilIface, []⟩) s.H (s.H ++ [some (.box cs)]) := ⟨fun b hb => heap_alloc_old w _ b (h.imm b hb), fun _ h => h, by simp,
    fun r hr => by simp [upd, Nat.ne_of_lt hr], fun r hr v' e m xs hg => by
      rw [hget_app, if_neg (Nat.ne_of_lt hr)] at hg
      exact ⟨v', m, xs, hg, RowStep.same (fun b hb => heap_alloc_old w _ b (h.imm b hb)) (h.roots r _ hg) fun b hb => heap_alloc_old w _ b (h.sep r _ hg b hb).2.1⟩⟩
  refine ⟨_, hw.add (.box cs) ⟨w.heap.size, 0, .nilIface, []⟩ ?_ (by simp [tfp]) ?_ (fun _ _ => h.size), ?_⟩
  · refine ⟨vs.toArray, et, by simpa [upd] using hnew, by simp [upd, hl], fun i v hi => ?_⟩
    have hi' : i < vs.length := by have := (List.getElem?_eq_some_iff.1 hi).1; omega
    refine ⟨vs[i], by simp [upd, hi'], h1 _ (List.getElem_mem hi'), (hv i v vs[i] hi (by simp [hi'])).ext E⟩
  · intro b hb
    simp [tfp, upd] at hb
    subst hb
    refine ⟨fun hh => absurd (h.imm _ hh) (by omega), by simp, .inl h.size, fun r o' hr hb => absurd (h.sep r o' hr _ hb).2.1 (by omega)⟩
  · have := VR.bptr (w := w.alloc (.cells vs.toArray et)) (I := I) (ρ := upd ρ s.H.length ⟨w.heap.size, 0, .nilIface, []⟩) (H := s.H ++ [some (.box cs)]) s.H.length 0 (by simp)
    simpa [upd] using this

/-- A row made; what it owns may have been written. -/
theorem Inv.addRow (h : Inv w0 F0 s a w I ρ) {w' : World} (e : Ty) (m : Md) (xs : List e.den) (hdr : Value) (fp : List Nat)
    (hk : Keeps (fun b => b ∈ fp) w w') (ho : Own w' I (.sl e) (.ow m) [hdr] xs fp) (hnd : fp.Nodup)
    (hf : ∀ b ∈ fp, ¬ I b ∧ (w0.heap.size ≤ b ∨ F0.wr b) ∧ ∀ r o, hget s.H r = some o → b ∉ tfp ρ r o) :
    ∃ ρ', Inv w0 F0 ⟨s.fr, s.H ++ [some (.row 0 e m xs)]⟩ a w' I ρ' ∧ VR w' I ρ' (s.H ++ [some (.row 0 e m xs)]) (.ref e s.H.length 0 [] 0 xs.length) hdr := by
  have hw := h.world hk (fun b hb hh => (hf b hh).1 hb) (fun r o hr b hb hh => (hf b hh).2.2 r o hr hb) (fun b hb _ => (hf b hb).2.1)
  have hlt := ho.lt
  refine ⟨_, hw.add (.row 0 e m xs) ⟨0, 0, hdr, fp⟩ (by simpa [RootOk, upd] using ho) (by simpa [tfp, upd] using hnd) ?_ (fun _ hh => by cases hh), ?_⟩
  · intro b hb
    have hb' : b ∈ fp := by simpa [tfp, upd] using hb
    exact ⟨(hf b hb').1, hlt b hb', (hf b hb').2.1, (hf b hb').2.2⟩
  · have hshape : ∃ A c, hdr = .slice A xs.length c ∧ xs.length ≤ c := by
      rcases ho.2 with ⟨he, hx, _⟩ | ⟨b, c, arr, et, fps, he, _, hc, _⟩
      · exact ⟨none, 0, by simp at he; simp [he, hx]⟩
      · exact ⟨_, c, by simpa using he, hc⟩
    obtain ⟨A, c, rfl, hnc⟩ := hshape
    refine .ref e s.H.length 0 [] 0 xs.length A c (by simp) ho.1 hnc fun v' e' m' xs' hg => ?_
    rw [hget_app, if_pos rfl] at hg
    cases hg
    refine ⟨Nat.le_refl _, fun _ => ⟨A, c, xs.length, none, by simp [walk, upd], by omega, fun _ => ?_, fun _ => ⟨rfl, rfl⟩⟩⟩
    cases A with
    | none => rfl
    | some a => simp [Addr.add]
end

end Go.Vee
