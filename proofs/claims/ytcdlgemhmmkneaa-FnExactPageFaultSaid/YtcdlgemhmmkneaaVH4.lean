import Derived.Test.YtcdlgemhmmkneaaVH3
set_option linter.unusedSimpArgs false
set_option linter.unusedVariables false
namespace Go.Vee
open Go

section
variable {P : Program} {w0 w : World} {F0 : Bnd} {s : St} {a : Act} {I : Nat → Prop} {ρ : Nat → RC} {H : Heap} {o : Oper} {K : St → Prop} {Q : Exit → Act → World → Prop} {C : World → Prop}

/-! ## Cells -/
/-- Cell for cell. -/
structure VRs (w : World) (I : Nat → Prop) (ρ : Nat → RC) (H : Heap) (vs : List AV) (us : List Value) : Prop where
  len : vs.length = us.length
  one : ∀ u ∈ us, u.oneCell' = true
  at_ : ∀ (i : Nat) (v : AV) (u : Value), vs[i]? = some v → us[i]? = some u → VR w I ρ H v u

theorem VRs.nil : VRs w I ρ H [] [] := ⟨rfl, by simp, by simp⟩
theorem VRs.app {vs vs' : List AV} {us us' : List Value} (h : VRs w I ρ H vs us) (k : VRs w I ρ H vs' us') : VRs w I ρ H (vs ++ vs') (us ++ us') :=
  ⟨by simp [h.len, k.len], fun u hu => (List.mem_append.1 hu).elim (h.one u) (k.one u), fun i v u hv hu => by
    by_cases hi : i < vs.length
    · rw [List.getElem?_append_left hi] at hv
      rw [List.getElem?_append_left (by rw [← h.len]; exact hi)] at hu
      exact h.at_ i v u hv hu
    · rw [List.getElem?_append_right (by omega)] at hv
      rw [List.getElem?_append_right (by rw [← h.len]; omega), ← h.len] at hu
      exact k.at_ _ v u hv hu⟩
theorem VRs.cons {v : AV} {u : Value} {vs : List AV} {us : List Value} (hv : VR w I ρ H v u) (h1 : u.oneCell' = true) (h : VRs w I ρ H vs us) : VRs w I ρ H (v :: vs) (u :: us) :=
  ⟨by simp [h.len], by simpa [h1] using h.one, fun i x y hx hy => by
    cases i with
    | zero => simp at hx hy; subst hx; subst hy; exact hv
    | succ i => exact h.at_ i x y (by simpa using hx) (by simpa using hy)⟩
theorem VRs.single {v : AV} {u : Value} (hv : VR w I ρ H v u) (h1 : u.oneCell' = true) : VRs w I ρ H [v] [u] := VRs.cons hv h1 VRs.nil
theorem VRs.drop {vs : List AV} {us : List Value} (h : VRs w I ρ H vs us) (k : Nat) : VRs w I ρ H (vs.drop k) (us.drop k) :=
  ⟨by simp [h.len], fun u hu => h.one u (List.mem_of_mem_drop hu), fun i v u hv hu => h.at_ (k + i) v u (by simpa [List.getElem?_drop] using hv) (by simpa [List.getElem?_drop] using hu)⟩
theorem VRs.take {vs : List AV} {us : List Value} (h : VRs w I ρ H vs us) (k : Nat) : VRs w I ρ H (vs.take k) (us.take k) :=
  ⟨by simp [h.len], fun u hu => h.one u (List.mem_of_mem_take hu), fun i v u hv hu => by
    rw [List.getElem?_take] at hv hu
    split at hv
    · exact h.at_ i v u hv (by rename_i hlt; simpa [hlt] using hu)
    · cases hv⟩
theorem VRs.ext {w' : World} {I' : Nat → Prop} {ρ' : Nat → RC} {H' : Heap} (E : Ext w w' I I' ρ ρ' H H') {vs : List AV} {us : List Value} (h : VRs w I ρ H vs us) : VRs w' I' ρ' H' vs us :=
  ⟨h.len, h.one, fun i v u hv hu => (h.at_ i v u hv hu).ext E⟩

theorem mkV_one {t : Ty} {c : Value} (h : t.isAgg = false) : mkV t [c] = c := by simp [mkV, h]

theorem VRs.expl : ∀ {t : Ty} {x : t.den} {cs : List Value}, Own w I t .sh cs x [] → VRs w I ρ H (Vee.expl t x) cs
  | .unit, _, _, h => by obtain ⟨rfl, _⟩ := h; exact VRs.nil
  | .pair a b, x, cs, h => by
    obtain ⟨c1, c2, f1, f2, rfl, hf, h1, h2⟩ := h
    obtain ⟨rfl, rfl⟩ := List.append_eq_nil_iff.1 hf.symm
    exact (VRs.expl h1).app (VRs.expl h2)
  | .int k, x, cs, h => by
    have h' := h; obtain ⟨rfl, _⟩ := h'
    have := VR.dat (ρ := ρ) (H := H) _ _ _ h
    exact VRs.single this rfl
  | .bool, x, cs, h => by
    have h' := h; obtain ⟨rfl, _⟩ := h'
    have := VR.dat (ρ := ρ) (H := H) _ _ _ h
    exact VRs.single this rfl
  | .str, x, cs, h => by
    have h' := h; obtain ⟨⟨b, rfl, _⟩, _⟩ := h'
    have := VR.dat (ρ := ρ) (H := H) _ _ _ h
    exact VRs.single this rfl
  | .sl e, x, cs, h => by
    have h' := h; obtain ⟨_, _, A, c, rfl, _, _⟩ := h'
    have := VR.dat (ρ := ρ) (H := H) _ _ _ h
    exact VRs.single this rfl

theorem fitC_spec : ∀ {t : Ty} {l l' : List AV}, fitC t l = some l' → ∃ pre, l = pre ++ l' ∧ pre.length = t.sz ∧ ∀ v ∈ pre, okc v = true
  | .unit, l, l', h => by simp [fitC] at h; subst h; exact ⟨[], by simp [Ty.sz]⟩
  | .pair a b, l, l', h => by
    simp only [fitC] at h
    split at h
    · rename_i l1 h1
      obtain ⟨p1, rfl, e1, o1⟩ := fitC_spec h1
      obtain ⟨p2, rfl, e2, o2⟩ := fitC_spec h
      exact ⟨p1 ++ p2, by simp, by simp [Ty.sz, e1, e2], fun v hv => (List.mem_append.1 hv).elim (o1 v) (o2 v)⟩
    · cases h
  | .sl e, [], l', h => by simp [fitC] at h
  | .sl e, v :: l, l', h => by
    simp only [fitC] at h
    split at h
    · split at h
      · cases h; exact ⟨[_], rfl, rfl, by simp [okc]⟩
      · cases h
    · split at h
      · cases h; exact ⟨[_], rfl, rfl, by simp [okc]⟩
      · cases h
    · cases h; exact ⟨[_], rfl, rfl, by simp [okc]⟩
    · cases h
  | .int k, [], l', h => by simp [fitC] at h
  | .int k, v :: l, l', h => by
    cases v <;> simp [fitC] at h
    case dat t x => obtain ⟨_, rfl⟩ := h; exact ⟨[_], rfl, rfl, by simp [okc]⟩
  | .bool, [], l', h => by simp [fitC] at h
  | .bool, v :: l, l', h => by
    cases v <;> simp [fitC] at h
    case dat t x => obtain ⟨_, rfl⟩ := h; exact ⟨[_], rfl, rfl, by simp [okc]⟩
    case lb b => subst h; exact ⟨[_], rfl, rfl, by simp [okc]⟩
  | .str, [], l', h => by simp [fitC] at h
  | .str, v :: l, l', h => by
    cases v <;> simp [fitC] at h
    case dat t x => obtain ⟨_, rfl⟩ := h; exact ⟨[_], rfl, rfl, by simp [okc]⟩

/-- A value's cells. -/
theorem VR.cells {v : AV} {u : Value} (h : VR w I ρ H v u) (hv : (cellsOf v).all okc = true) : ∃ us, u.cells = us.toArray ∧ VRs w I ρ H (cellsOf v) us := by
  cases h with
  | junk v => simp [cellsOf, okc] at hv
  | lb b => exact ⟨[.bool b], rfl, VRs.single VR.bool rfl⟩
  | dat t x cs ho => exact ⟨cs, mkV_cells ho.len ho.one, VRs.expl ho⟩
  | ref e r ver p lo n A c hr hn hnc h => exact ⟨[_], rfl, VRs.single (.ref e r ver p lo n A c hr hn hnc h) rfl⟩
  | ptr r ver p b off hr h => simp [cellsOf, okc] at hv
  | bptr r off hr => simp [cellsOf, okc] at hv
  | dptr t x b off arr et fr hb hi hs h => simp [cellsOf, okc] at hv
  | nilS => exact ⟨[_], rfl, VRs.single .nilS rfl⟩
  | nilP => simp [cellsOf, okc] at hv
  | agg vs cs hl h1 h => exact ⟨cs, rfl, hl, h1, h⟩
  | tup vs cs hl h => simp [cellsOf, okc] at hv
  | clo f vs cs hl h => simp [cellsOf, okc] at hv

theorem VR.fit {v : AV} {u : Value} {t : Ty} (h : VR w I ρ H v u) (hv : fitC t (cellsOf v) = some []) : ∃ us, u.cells = us.toArray ∧ us.length = t.sz ∧ VRs w I ρ H (cellsOf v) us := by
  obtain ⟨pre, hp, hl, ho⟩ := fitC_spec hv
  rw [List.append_nil] at hp
  obtain ⟨us, h1, h2⟩ := h.cells (by rw [hp]; simpa using ho)
  exact ⟨us, h1, by rw [← h2.len, hp, hl], h2⟩

/-- Cells put together again. -/
theorem VRs.ofCells {t : Ty} {vs : List AV} {us : List Value} (h : VRs w I ρ H vs us) (hl : us.length = t.sz) : VR w I ρ H (Vee.ofCells t vs) (mkV t us) := by
  by_cases ha : t.isAgg = true
  · have : Vee.ofCells t vs = .agg vs := by cases t <;> simp_all [Ty.isAgg, Vee.ofCells]
    rw [this]
    simp only [mkV, ha, if_true]
    exact .agg vs us h.len h.one h.at_
  · have hs := isAgg_sz (by simpa using ha)
    have hvl := h.len
    match us, vs, hl, hvl with
    | [u], [v], _, _ =>
      have : Vee.ofCells t [v] = v := by cases t <;> simp_all [Ty.isAgg, Vee.ofCells]
      rw [this, mkV_one (by simpa using ha)]
      exact h.at_ 0 v u rfl rfl
    | [], _, hl, _ => simp [hs] at hl
    | _ :: _ :: _, _, hl, _ => simp [hs] at hl
    | [_], [], _, hvl => simp at hvl
    | [_], _ :: _ :: _, _, hvl => simp at hvl

theorem VRs.zero : ∀ (t : Ty), VRs w I ρ H (zeroC t) (zeroCs t)
  | .unit => VRs.nil
  | .pair a b => (VRs.zero a).app (VRs.zero b)
  | .sl e => VRs.single .nilS rfl
  | .int k => VRs.single (VR.int (by cases k <;> simp [IntKind.min, IntKind.max, IntKind.signed, IntKind.bits, Ty.dflt])) rfl
  | .bool => VRs.single VR.bool rfl
  | .str => VRs.single (VR.dat .str _ [.string .empty] ⟨⟨.empty, rfl, rfl, Nat.zero_le _⟩, rfl⟩) rfl

/-! ## A variable made -/
theorem ok_addBox {cs : List AV} {us : List Value} {et : TypeId} (h : Inv w0 F0 s a w I ρ) (hc : VRs w I ρ s.H cs us)
    (hr : (execOp a.eval o).run P w = .ok (.value (.pointer (some ⟨w.heap.size, 0, none⟩))) (w.alloc (.cells us.toArray et)))
    (hs : sat (doneH s (s.H ++ [some (.box cs)]) o.dst (.bptr s.H.length 0)) (fun _ s' => K s')) : o.wp P a w (Post w0 F0 K) Q := by
  obtain ⟨ρ', h1, h2⟩ := h.addBox cs us et hc.len hc.one hc.at_
  exact wp_val hr ⟨_, I, ρ', h1.put h2 o.dst, hs⟩

theorem ok_alloc {t : TypeId} (τ : Env) (G : Gam) (hE : EnvOk P τ) (h : Inv w0 F0 s a w I ρ) (ho : o.op = .alloc t) (hs : sat (stepOp Alg.std τ G o s) (fun _ s' => K s')) : o.wp P a w (Post w0 F0 K) Q := by
  simp only [stepOp, ho] at hs
  split at hs
  · rename_i T hT
    have hF := hE.ty t T hT
    have h1 : ∀ u ∈ zeroCs T, u.oneCell' = true := (VRs.zero (w := w) (I := I) (ρ := ρ) (H := s.H) T).one
    refine ok_addBox (et := t) h (VRs.zero T) ?_ hs
    have hc := mkV_cells (zeroCs_length T) h1
    simp [execOp, ho, Instr.alloc, run_zeroValue (TyF.base hF), newVar, newRow, hc]
  · exact hs.elim

theorem ok_box {t : TypeId} {v : Operand} (τ : Env) (G : Gam) (hE : EnvOk P τ) (h : Inv w0 F0 s a w I ρ) (ho : o.op = .box t v) (hs : sat (stepOp Alg.std τ G o s) (fun _ s' => K s')) : o.wp P a w (Post w0 F0 K) Q := by
  simp only [stepOp, ho] at hs
  split at hs
  · rename_i T hT
    split at hs
    · rename_i hfit
      obtain ⟨us, hu, hl, hc⟩ := (h.ev v).fit hfit
      refine ok_addBox (et := t) h hc ?_ hs
      simp [execOp, ho, Instr.box, newVar, newRow, hu]
    · exact hs.elim
  · exact hs.elim

/-! ## Loads -/
theorem ok_load_box {t : TypeId} {x : Operand} {r off : Nat} (T : Ty) (hC : ∀ w', C w' → Keeps (fun _ => False) w w') (hF : (TyF P T).1 t) (h : Inv w0 F0 s a w I ρ) (ho : o.op = .load t x) (hx : Vee.ev Alg.std s x = .bptr r off)
    (hs : sat (loadOp Alg.std s o.dst T (.bptr r off)) (fun _ s' => K s')) : Quiet P o a C (fun a' => Post w0 F0 K a' w) := by
  have hv := h.ev x
  rw [hx] at hv
  simp only [loadOp] at hs
  split at hs
  · rename_i cs hr
    split at hs
    · rename_i hsz
      cases hu : a.eval x <;> rw [hu] at hv <;> cases hv
      obtain ⟨arr, et, hb, hfit, hcell⟩ := h.roots r _ hr
      have hin : (ρ r).off + off + T.sz ≤ arr.size := by omega
      have hrun := fun w' (hw' : C w') => run_loadVar' (P := P) hF (((hC w' hw').block _ (h.get_lt hb) (fun h => h)).trans hb) hin
      refine ok_done (u := mkV T (seg arr ((ρ r).off + off) T.sz)) h (fun w' hw' => by simp [execOp, ho, hu, Instr.loadAt, Instr.sureAddr, hrun w' hw']) ?_ hs
      refine VRs.ofCells ⟨?_, fun u hu => ?_, fun i v u hv hu => ?_⟩ (seg_length hin)
      · rw [seg_length hin]; simp; omega
      · obtain ⟨i, hi, rfl⟩ := List.getElem_of_mem hu
        rw [seg_length hin] at hi
        have hlt : off + i < cs.length := by omega
        obtain ⟨u', hu', h1, _⟩ := hcell (off + i) cs[off + i] (by simp [hlt])
        have : (seg arr ((ρ r).off + off) T.sz)[i]? = some u' := by rw [seg_get hi, ← hu']; congr 1; omega
        rw [List.getElem?_eq_getElem (by rw [seg_length hin]; exact hi)] at this
        cases this
        exact h1
      · have hi : i < T.sz := by have := (List.getElem?_eq_some_iff.1 hu).1; rwa [seg_length hin] at this
        rw [List.getElem?_take, if_pos hi, List.getElem?_drop] at hv
        obtain ⟨u', hu', _, h2⟩ := hcell (off + i) v hv
        rw [seg_get hi] at hu
        have : (ρ r).off + off + i = (ρ r).off + (off + i) := by omega
        rw [this, hu'] at hu
        cases hu
        exact h2
    · exact hs.elim
  · exact hs.elim

theorem ok_load_dptr {t : TypeId} {x : Operand} (T : Ty) (hC : ∀ w', C w' → Keeps (fun _ => False) w w') (hF : (TyF P T).1 t) {T' : Ty} {y : T'.den} (h : Inv w0 F0 s a w I ρ) (ho : o.op = .load t x) (hx : Vee.ev Alg.std s x = .dptr T' y)
    (hs : sat (loadOp Alg.std s o.dst T (.dptr T' y)) (fun _ s' => K s')) : Quiet P o a C (fun a' => Post w0 F0 K a' w) := by
  have hv := h.ev x
  rw [hx] at hv
  simp only [loadOp] at hs
  split at hs
  · rename_i e
    subst e
    cases hu : a.eval x <;> rw [hu] at hv <;> cases hv
    rename_i b off arr et fr hb hi hsz hown
    have hrun := fun w' (hw' : C w') => run_loadVar' (P := P) hF (((hC w' hw').block _ (h.get_lt hb) (fun h => h)).trans hb) hsz
    exact ok_done h (fun w' hw' => by simp [execOp, ho, hu, Instr.loadAt, Instr.sureAddr, hrun w' hw']) (.dat _ _ _ hown) hs
  · exact hs.elim


/-- What a load out of a row gives. -/
theorem VRs.loadC {r ver v : Nat} {e0 : Ty} {m0 : Md} {xs0 : List e0.den} (hr : hget H r = some (.row v e0 m0 xs0)) : ∀ {t : Ty} {m : Md} {x : t.den} {cs : List Value} {fp : List Nat} {p : List Stp} {l : Option (Nat × Nat)} {vs : List AV},
    Own w I t m cs x fp → (∀ b ∈ fp, True) → walk w (.sl e0) [(ρ r).hdr] none p = some (t, cs, l) → ver ≤ v → (hops p = 0 ∨ v = ver) → Vee.loadC Alg.std r ver t m x p = some vs → VRs w I ρ H vs cs
  | .unit, m, x, cs, fp, p, l, vs, h, _, hw, hv, hp, hl => by
    simp [Vee.loadC] at hl; subst hl
    obtain ⟨rfl, _⟩ := h
    exact VRs.nil
  | .pair a b, m, x, cs, fp, p, l, vs, h, hI, hw, hv, hp, hl => by
    simp only [Vee.loadC] at hl
    obtain ⟨c1, c2, f1, f2, rfl, rfl, h1, h2⟩ := h
    split at hl
    · rename_i l1 l2 e1 e2
      cases hl
      refine (VRs.loadC hr h1 (by simp) (p := p ++ [.fst]) (l := l) ?_ hv ?_ e1).app (VRs.loadC hr h2 (by simp) (p := p ++ [.snd]) (l := l.map fun q => (q.1, q.2 + a.sz)) ?_ hv ?_ e2)
      · rw [walk_append hw]; simp [walk, List.take_left' h1.len]
      · rw [hops_append]; simpa [hops] using hp
      · rw [walk_append hw]; simp [walk, List.drop_left' h1.len]
      · rw [hops_append]; simpa [hops] using hp
    · cases hl
  | .sl e, m, x, cs, fp, p, l, vs, h, hI, hw, hv, hp, hl => by
    cases m with
    | ow m' =>
      simp [Vee.loadC] at hl; subst hl
      have hshape : ∃ A c, cs = [.slice A (List.length x) c] ∧ List.length x ≤ c := by
        rcases h.2 with ⟨he, hx, _⟩ | ⟨b, c, arr, et, fps, he, _, hc, _⟩
        · exact ⟨none, 0, by simp [he, hx]⟩
        · exact ⟨_, c, he, hc⟩
      obtain ⟨A, c, rfl, hnc⟩ := hshape
      refine VRs.single (.ref e r ver p 0 (Alg.std.lenL x) A c (hget_lt hr) h.1 hnc fun v' e' m1 xs hg => ?_) rfl
      rw [hr] at hg
      cases hg
      refine ⟨hv, fun _ => ⟨A, c, _, l, hw, by simp [Alg.std], fun _ => ?_, fun _ => ⟨rfl, rfl⟩⟩⟩
      cases A with
      | none => rfl
      | some a => simp [Addr.add]
    | sh =>
      simp [Vee.loadC] at hl; subst hl
      have hfp : fp = [] := h.2.1
      subst hfp
      obtain ⟨_, _, A, c, rfl, _, _⟩ := id h
      exact VRs.single (VR.dat (.sl e) x _ h) rfl
    | no => exact h.2.elim
    | pr _ _ => exact h.2.elim
  | .int k, m, x, cs, fp, p, l, vs, h, hI, hw, hv, hp, hl => by
    simp [Vee.loadC] at hl; subst hl
    obtain ⟨rfl, h2, _⟩ := h
    exact VRs.single (VR.int h2) rfl
  | .bool, m, x, cs, fp, p, l, vs, h, hI, hw, hv, hp, hl => by
    simp [Vee.loadC] at hl; subst hl
    obtain ⟨rfl, _⟩ := h
    exact VRs.single VR.bool rfl
  | .str, m, x, cs, fp, p, l, vs, h, hI, hw, hv, hp, hl => by
    simp [Vee.loadC] at hl; subst hl
    obtain ⟨⟨b, rfl, h1⟩, h2⟩ := h
    exact VRs.single (VR.dat .str x [.string b] ⟨⟨b, rfl, h1⟩, rfl⟩) rfl

theorem rowAt_spec {r ver need : Nat} {e : Ty} {m : Md} {xs : List e.den} {v : Nat} (h : rowAt H r ver need = some ⟨e, m, xs, v⟩) : hget H r = some (.row v e m xs) ∧ (need = 0 ∨ v = ver) := by
  unfold rowAt at h
  split at h
  · rename_i hr
    split at h
    · cases h; exact ⟨hr, .inl (by assumption)⟩
    · split at h
      · cases h; exact ⟨hr, .inr (by assumption)⟩
      · cases h
  · cases h

theorem ok_load_ptr {t : TypeId} {x : Operand} {r ver : Nat} {p : List Stp} (T : Ty) (hC : ∀ w', C w' → Keeps (fun _ => False) w w') (hF : (TyF P T).1 t) (h : Inv w0 F0 s a w I ρ) (ho : o.op = .load t x) (hx : Vee.ev Alg.std s x = .ptr r ver p)
    (hs : sat (loadOp Alg.std s o.dst T (.ptr r ver p)) (fun _ s' => K s')) : Quiet P o a C (fun a' => Post w0 F0 K a' w) := by
  have hv := h.ev x
  rw [hx] at hv
  simp only [loadOp] at hs
  split at hs
  · rename_i e m xs v hrow
    split at hs
    · rename_i t' m' x' hg
      split at hs
      · rename_i ht
        subst ht
        split at hs
        · rename_i l hl
          obtain ⟨hr, hver⟩ := rowAt_spec hrow
          cases hu : a.eval x <;> rw [hu] at hv <;> cases hv
          rename_i b off hrl hc
          obtain ⟨hle, hw⟩ := hc _ _ _ _ hr
          obtain ⟨t2, cs, hw⟩ := hw hver
          rcases walk_sl hw with ⟨rfl, he⟩ | ⟨i, q, _, _, _, _, _, _, _, rfl, _⟩
          · cases he
          · obtain ⟨b', off', fp1, arr0, et0, e1, e2, hown, _, _, _, _, hh0, hcs, hsz, _⟩ := h.rowAt hr hg hw
            cases e1
            subst e2
            subst hcs
            have hrun := fun w' (hw' : C w') => run_loadVar' (P := P) hF (((hC w' hw').block _ (h.get_lt hh0) (fun h => h)).trans hh0) hsz
            refine ok_done (u := mkV t2 (seg arr0 off t2.sz)) h (fun w' hw' => by simp [execOp, ho, hu, Instr.loadAt, Instr.sureAddr, hrun w' hw']) ?_ hs
            exact VRs.ofCells (VRs.loadC (v := v) hr hown (by simp) hw (Nat.le_refl _) (.inr rfl) hl) (seg_length hsz)
        · exact hs.elim
      · exact hs.elim
    · exact hs.elim
  · exact hs.elim

end
end Go.Vee
