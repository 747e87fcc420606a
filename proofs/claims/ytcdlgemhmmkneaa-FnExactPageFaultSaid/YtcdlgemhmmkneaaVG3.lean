import Derived.Test.YtcdlgemhmmkneaaVG2
set_option linter.unusedSimpArgs false
set_option linter.unusedVariables false
namespace Go.Vee
open Go

theorem walk_flat {w w' : World} : ∀ (q : List Stp) {t : Ty} {cs cs2 : List Value} {l : Option (Nat × Nat)} {t' cs' l'}, hops q = 0 → walk w t cs l q = some (t', cs', l') → ∃ cs2', walk w' t cs2 l q = some (t', cs2', l')
  | [], t, cs, cs2, l, t', cs', l', _, h => by
    have : (t, cs, l) = (t', cs', l') := by cases t <;> simpa [walk] using h
    cases this
    exact ⟨cs2, by cases t <;> simp [walk]⟩
  | st :: q, t, cs, cs2, l, t', cs', l', h0, h => by
    cases t with
    | pair a b =>
      cases st with
      | fst => simp only [walk] at h ⊢; exact walk_flat q (by simpa [hops] using h0) h
      | snd => simp only [walk] at h ⊢; exact walk_flat q (by simpa [hops] using h0) h
      | idx i => simp [hops] at h0
    | sl e => cases st <;> simp [hops, walk] at h0 h
    | int k => simp [walk] at h
    | bool => simp [walk] at h
    | str => simp [walk] at h
    | unit => simp [walk] at h

section
variable {w0 w : World} {F0 : Bnd} {s : St} {a : Act} {I : Nat → Prop} {ρ : Nat → RC}

/-- A place in a row; the row when the place is written. -/
theorem Inv.rowAt (h : Inv w0 F0 s a w I ρ) {r v : Nat} {e : Ty} {m : Md} {xs : List e.den} {i : Nat} {q : List Stp} (hr : hget s.H r = some (.row v e m xs))
    {l' : Option (Nat × Nat)} {t' t2 : Ty} {m' : Md} {x' : t'.den} {cs' : List Value}
    (hg : getAt Alg.std (.sl e) (.ow m) xs (.idx i :: q) = some ⟨t', m', x'⟩) (hw : walk w (.sl e) [(ρ r).hdr] none (.idx i :: q) = some (t2, cs', l')) :
    ∃ b' off' fp1 arr0 et0, l' = some (b', off') ∧ t2 = t' ∧ Own w I t' m' cs' x' fp1 ∧ fp1.Nodup ∧ (∀ k ∈ fp1, k ∈ (ρ r).fp) ∧ b' ∉ fp1 ∧ b' ∈ (ρ r).fp ∧
      w.heap[b']? = some (.cells arr0 et0 (0, 0)) ∧ cs' = seg arr0 off' t'.sz ∧ off' + t'.sz ≤ arr0.size ∧
      ∀ (w' : World) (arr1 : Array Value) (et1 : TypeId) (y : t'.den) (fp2 : List Nat) (xs2 : List e.den),
        Keeps (fun k => k = b' ∨ k ∈ fp1) w w' → w'.heap[b']? = some (.cells arr1 et1 (0, 0)) → Near arr0 arr1 off' t'.sz → Own w' I t' m' (seg arr1 off' t'.sz) y fp2 → fp2.Nodup →
        (∀ k ∈ fp2, k ∈ fp1 ∨ (k ∉ (ρ r).fp ∧ ¬ I k ∧ (w0.heap.size ≤ k ∨ F0.wr k) ∧ ∀ r' o, r' ≠ r → hget s.H r' = some o → k ∉ tfp ρ r' o)) →
        setAt Alg.std (.sl e) (.ow m) xs (.idx i :: q) t' m' y = some xs2 →
        ∃ ρ', Inv w0 F0 ⟨s.fr, s.H.set r (some (.row (if e.hasSl then v + 1 else v) e m xs2))⟩ a w' I ρ' ∧ Ext w w' I I ρ ρ' s.H (s.H.set r (some (.row (if e.hasSl then v + 1 else v) e m xs2))) := by
  have hok : Own w I (.sl e) (.ow m) [(ρ r).hdr] xs (ρ r).fp := h.roots r _ hr
  have hnd : (ρ r).fp.Nodup := h.nodup r _ hr
  have hrl := hget_lt hr
  have hsep := h.sep r _ hr
  obtain ⟨b', off', fp1, arr0, et0, rfl, e2, ho, hnd1, hsub, hbn, hbin, hh0, hcs', hsz', hlens⟩ := Own.lensRow hnd hok hg hw
  refine ⟨b', off', fp1, arr0, et0, rfl, e2, ho, hnd1, hsub, hbn, hbin, hh0, hcs', hsz', ?_⟩
  intro w' arr1 et1 y fp2 xs2 hk hb1 hn ho2 hnd2 hfp2 hs
  have hTin : ∀ k, (k = b' ∨ k ∈ fp1) → k ∈ (ρ r).fp := fun k hk => hk.elim (fun e => e ▸ hbin) (hsub k)
  have hIb : ∀ b, I b → w'.heap[b]? = w.heap[b]? := fun b hb => hk.block b (h.imm b hb) fun ht => (hsep b (by simpa [tfp] using hTin b ht)).1 hb
  have hoth : ∀ r' o, r' ≠ r → hget s.H r' = some o → ∀ b ∈ tfp ρ r' o, w'.heap[b]? = w.heap[b]? := fun r' o hne hr' b hb =>
    hk.block b (h.sep r' o hr' b hb).2.1 fun ht => h.disj r' o r _ hne hr' hr b hb (by simpa [tfp] using hTin b ht)
  have hb'2 : b' ∉ fp2 := fun hh => (hfp2 b' hh).elim hbn (fun q => q.1 hbin)
  obtain ⟨fp3, g1, g2, g3, g4⟩ := hlens w' I arr1 et1 y fp2 xs2 hIb (fun _ h => h)
    (fun k hkb hkf => hk.block k (hok.lt k hkf.1) (fun ht => ht.elim hkb hkf.2)) hb1 hn ho2 hnd2 (fun k hk2 hkf => (hfp2 k hk2).elim id (fun q => absurd hkf q.1)) hb'2 hs
  have hup : ∀ k, k ≠ r → upd ρ r ⟨(ρ r).b, (ρ r).off, (ρ r).hdr, fp3⟩ k = ρ k := fun k hk => by simp [upd, hk]
  have hur : upd ρ r ⟨(ρ r).b, (ρ r).off, (ρ r).hdr, fp3⟩ r = ⟨(ρ r).b, (ρ r).off, (ρ r).hdr, fp3⟩ := by simp [upd]
  have hstep : RowStep w w' (ρ r).hdr e v (if e.hasSl then v + 1 else v) := by
    refine ⟨by split <;> omega, .inr ⟨fun hh => by simp [hh], fun p t cs l hp hwp => ?_⟩⟩
    rcases walk_sl hwp with ⟨rfl, he⟩ | ⟨j, q', b, off, n, c, arr, et, fr, rfl, hhd, hb, hlt, hwq⟩
    · cases he; exact ⟨[(ρ r).hdr], by simp [walk]⟩
    · obtain ⟨a1, a2, t1, t2', q1, q2⟩ := g4 b off n c _ hhd hb
      obtain ⟨cs2, hc2⟩ := walk_flat (w' := w') (cs2 := seg a2 (off + j * e.sz) e.sz) q' (by simp [hops] at hp; omega) hwq
      exact ⟨cs2, by rw [hhd]; simp only [walk, q2, hlt, if_true]; exact hc2⟩
  have E : Ext w w' I I ρ (upd ρ r ⟨(ρ r).b, (ρ r).off, (ρ r).hdr, fp3⟩) s.H (s.H.set r (some (.row (if e.hasSl then v + 1 else v) e m xs2))) := by
    refine ⟨hIb, fun _ h => h, by simp, fun k hk => ?_, fun r' hr' v' e' m' xs' hg' => ?_⟩
    · by_cases hkr : k = r
      · subst hkr; rw [hur]; exact ⟨rfl, rfl, rfl⟩
      · rw [hup k hkr]; exact ⟨rfl, rfl, rfl⟩
    · rw [hget_set hrl] at hg'
      split at hg'
      · rename_i hrr
        subst hrr
        cases hg'
        exact ⟨v, _, xs, hr, hstep⟩
      · rename_i hne
        exact ⟨v', m', xs', hg', RowStep.same hIb (h.roots r' _ hg') (hoth r' _ hne hg')⟩
  have cases2 : ∀ r' o, hget (s.H.set r (some (.row (if e.hasSl then v + 1 else v) e m xs2))) r' = some o → (r' = r ∧ o = .row (if e.hasSl then v + 1 else v) e m xs2) ∨ (r' ≠ r ∧ hget s.H r' = some o) := fun r' o hr' => by
    rw [hget_set hrl] at hr'
    split at hr'
    · rename_i e; cases hr'; exact .inl ⟨e, rfl⟩
    · rename_i e; exact .inr ⟨e, hr'⟩
  have htfp : ∀ r' o, r' ≠ r → hget s.H r' = some o → tfp (upd ρ r ⟨(ρ r).b, (ρ r).off, (ρ r).hdr, fp3⟩) r' o = tfp ρ r' o := fun r' o hne hr' => tfp_ext E (hget_lt hr') (by rw [hup r' hne])
  have h3 : ∀ k ∈ fp3, ¬ I k ∧ k < w'.heap.size ∧ (w0.heap.size ≤ k ∨ F0.wr k) ∧ ∀ r' o, r' ≠ r → hget s.H r' = some o → k ∉ tfp ρ r' o := fun k hk3 => by
    have hlt3 := g1.lt k hk3
    have base : k ∈ (ρ r).fp → _ := fun hkf => (⟨(hsep k (by simpa [tfp] using hkf)).1, hlt3, (hsep k (by simpa [tfp] using hkf)).2.2, fun r' o hne hr' hb => h.disj r' o r _ hne hr' hr k hb (by simpa [tfp] using hkf)⟩ :
      ¬ I k ∧ k < w'.heap.size ∧ (w0.heap.size ≤ k ∨ F0.wr k) ∧ ∀ r' o, r' ≠ r → hget s.H r' = some o → k ∉ tfp ρ r' o)
    rcases g3 k hk3 with q | q
    · exact base q.1
    · rcases hfp2 k q with q1 | q1
      · exact base (hsub k q1)
      · exact ⟨q1.2.1, hlt3, q1.2.2.1, q1.2.2.2⟩
  refine ⟨_, ?_, E⟩
  exact { h with
    slots := fun i v hv => let ⟨u, h1, h2⟩ := h.slots i v hv; ⟨u, h1, h2.ext E⟩
    roots := fun r' o hr' => by
      rcases cases2 r' o hr' with ⟨rfl, rfl⟩ | ⟨hne, hr2⟩
      · simp only [RootOk, hur]; exact g1
      · exact (h.roots r' o hr2).ext E (hget_lt hr2) (by rw [hup r' hne]) (hoth r' o hne hr2)
    nodup := fun r' o hr' => by
      rcases cases2 r' o hr' with ⟨rfl, rfl⟩ | ⟨hne, hr2⟩
      · simpa [tfp, hur] using g2
      · rw [htfp r' o hne hr2]; exact h.nodup r' o hr2
    disj := fun r1 o1 r2 o2 hne hr1 hr2 b hb1 hb2 => by
      rcases cases2 r1 o1 hr1 with ⟨rfl, rfl⟩ | ⟨hne1, hr1'⟩
      · rcases cases2 r2 o2 hr2 with ⟨rfl, rfl⟩ | ⟨hne2, hr2'⟩
        · exact hne rfl
        · rw [htfp _ _ hne2 hr2'] at hb2
          exact (h3 b (by simpa [tfp, hur] using hb1)).2.2.2 _ _ hne2 hr2' hb2
      · rw [htfp _ _ hne1 hr1'] at hb1
        rcases cases2 r2 o2 hr2 with ⟨rfl, rfl⟩ | ⟨hne2, hr2'⟩
        · exact (h3 b (by simpa [tfp, hur] using hb2)).2.2.2 _ _ hne1 hr1' hb1
        · rw [htfp _ _ hne2 hr2'] at hb2
          exact h.disj _ _ _ _ hne hr1' hr2' b hb1 hb2
    imm := fun b hb' => Nat.lt_of_lt_of_le (h.imm b hb') hk.size
    sep := fun r' o hr' b hb' => by
      rcases cases2 r' o hr' with ⟨rfl, rfl⟩ | ⟨hne, hr2⟩
      · have := h3 b (by simpa [tfp, hur] using hb')
        exact ⟨this.1, this.2.1, this.2.2.1⟩
      · rw [htfp _ _ hne hr2] at hb'
        have := h.sep r' o hr2 b hb'
        exact ⟨this.1, Nat.lt_of_lt_of_le this.2.1 hk.size, this.2.2⟩
    os := hk.os.trans h.os
    tape := hk.tape.trans h.tape
    output := hk.output.trans h.output
    size := Nat.le_trans h.size hk.size
    frame := fun b hb' hf => by
      by_cases ht : b = b' ∨ b ∈ fp1
      · have := (hsep b (by simpa [tfp] using hTin b ht)).2.2
        exact this.elim (fun q => absurd q (by omega)) (fun q => absurd q hf)
      · exact (hk.block b (Nat.lt_of_lt_of_le hb' h.size) ht).trans (h.frame b hb' hf)
    keep := fun r' cs' hr' arr0 et0 fr0 hb0 => by
      rcases cases2 r' _ hr' with ⟨rfl, e⟩ | ⟨hne, hr2⟩
      · cases e
      · rw [hup r' hne] at hb0 ⊢
        obtain ⟨arr', et', hb', hn⟩ := h.keep r' cs' hr2 arr0 et0 fr0 hb0
        exact ⟨arr', et', (hoth r' _ hne hr2 _ (by simp [tfp])).trans hb', hn⟩ }

end
end Go.Vee
