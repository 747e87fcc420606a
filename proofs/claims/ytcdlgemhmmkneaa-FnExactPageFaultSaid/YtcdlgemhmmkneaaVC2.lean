import Derived.Test.YtcdlgemhmmkneaaVC1
set_option linter.unusedSimpArgs false
set_option linter.unusedVariables false
namespace Go.Vee
open Go

section
variable {P : Program} {w0 w : World} {F0 : Bnd} {s : St} {a : Act} {I J : Nat → Prop} {ρ : Nat → RC} {H : Heap} {o : Oper} {K : St → Prop} {Q : Exit → Act → World → Prop}

theorem mkV_one_eq {t : Ty} {cs : List Value} (h : (mkV t cs).oneCell' = true) (hl : cs.length = t.sz) : ∃ u, cs = [u] ∧ mkV t cs = u ∧ t.sz = 1 := by
  by_cases ha : t.isAgg = true
  · simp [mkV, ha, Value.oneCell'] at h
  · have hs := isAgg_sz (by simpa using ha)
    match cs, hl with
    | [c], _ => exact ⟨c, rfl, by simp [mkV, ha], hs⟩
    | [], hl => simp [hs] at hl
    | _ :: _ :: _, hl => simp [hs] at hl

theorem capD_spec (h : Inv w0 F0 s a w I ρ) (hJ : ∀ b, I b → J b) {v v' : AV} {u : Value} (hv : VR w I ρ s.H v u) (hs : capD Alg.std s.H v = some v') (hroot : pureV v = false → ∀ r o, hget s.H r = some o → ∀ b ∈ tfp ρ r o, J b) : AR w J v' u := by
  unfold capD at hs
  split at hs
  · cases hs
    cases hv
    rename_i b off arr et fr hb hi hsz ho
    exact .dptr _ _ b off arr et fr hb (hJ b hi) hsz (Own.frame (fun _ _ => rfl) hJ ho (fun _ _ => rfl))
  · rename_i r off
    split at hs
    · rename_i cs hr
      obtain ⟨rfl, hrl⟩ := hv.bptr_inv
      have hlt : off < cs.length := by
        rcases Nat.lt_or_ge off cs.length with h | h
        · exact h
        · rw [List.getD_eq_getElem?_getD, List.getElem?_eq_none h] at hs
          simp at hs
      obtain ⟨arr, et, hb, hfit, hcell⟩ := h.roots r _ hr
      obtain ⟨u, hu, h1, h2⟩ := hcell off cs[off] (by simp [hlt])
      have hget : cs.getD off .junk = cs[off] := by simp [List.getD_eq_getElem?_getD, hlt]
      have hsg : seg arr ((ρ r).off + off) 1 = [u] := by
        have hh := (Array.getElem?_eq_some_iff.1 hu)
        obtain ⟨hh1, hh2⟩ := hh
        simp only [seg]
        rw [List.take_one, List.head?_drop]
        simp [hu]
      have hJb := hroot rfl r _ hr (ρ r).b (by simp [tfp])
      have fin : ∀ (t : Ty) (x : t.den), t.sz = 1 → Own w J t .sh [u] x [] → AR w J (.dptr t x) (.pointer (some ⟨(ρ r).b, (ρ r).off + off, none⟩)) := fun t x ht ho =>
        .dptr t x _ _ arr et (0, 0) hb hJb (by omega) (by rw [ht, hsg]; exact ho)
      rw [hget] at hs
      split at hs
      · rename_i t x hc
        cases hs
        rw [hc] at h2
        obtain ⟨cs', ho, rfl⟩ := h2.dat_inv
        obtain ⟨c, rfl, e2, e3⟩ := mkV_one_eq h1 ho.len
        rw [e2] at fin
        exact fin t x e3 (Own.frame (fun _ _ => rfl) hJ ho (fun _ _ => rfl))
      · rename_i b hc
        cases hs
        rw [hc] at h2
        have := lb_dat h2
        subst this
        exact fin .bool b rfl ⟨rfl, rfl⟩
      · rename_i e r' ver p lo n hc
        rw [hc] at h2
        split at hs
        · rename_i hrd
          cases hs
          exact fin (.sl e) _ rfl (h.refShare hJ h2 hrd (hroot rfl))
        · cases hs
      · cases hs
    · cases hs
  · cases hs

theorem capsD_spec (h : Inv w0 F0 s a w I ρ) (hJ : ∀ b, I b → J b) : ∀ {vs vs' : List AV} {us : List Value}, vs.length = us.length → (∀ (i : Nat) (v : AV) (u : Value), vs[i]? = some v → us[i]? = some u → VR w I ρ s.H v u) → capsD Alg.std s.H vs = some vs' →
    (vs.all pureV = false → ∀ r o, hget s.H r = some o → ∀ b ∈ tfp ρ r o, J b) → vs'.length = us.length ∧ ∀ (i : Nat) (v : AV) (u : Value), vs'[i]? = some v → us[i]? = some u → AR w J v u
  | [], vs', us, hl, hv, hs, hr => by simp [capsD] at hs; subst hs; exact ⟨hl, by simp⟩
  | v :: vs, vs', [], hl, hv, hs, hr => by simp at hl
  | v :: vs, vs', u :: us, hl, hv, hs, hr => by
    simp only [capsD] at hs
    split at hs
    · rename_i a1 as h1 h2
      cases hs
      have k1 := capD_spec h hJ (hv 0 v u rfl rfl) h1 (fun hp => hr (by simp [hp]))
      obtain ⟨k2, k3⟩ := capsD_spec h hJ (us := us) (by simpa using hl) (fun i v u hv' hu => hv (i + 1) v u (by simpa using hv') (by simpa using hu)) h2 (fun hp => hr (by simp [hp]))
      refine ⟨by simp [k2], fun i x y hx hy => ?_⟩
      cases i with
      | zero => simp at hx hy; subst hx; subst hy; exact k1
      | succ i => exact k3 i x y (by simpa using hx) (by simpa using hy)
    · cases hs

theorem argC_spec (h : Inv w0 F0 s a w I ρ) (hJ : ∀ b, I b → J b) {te pe : Option Ty} {v v' : AV} {lent : Bool} {u : Value} (hv : VR w I ρ s.H v u) (hs : argC Alg.std s.H te pe v = some (v', lent))
    (hroot : lent = true → ∀ r o, hget s.H r = some o → ∀ b ∈ tfp ρ r o, J b) : AR w J v' u := by
  unfold argC at hs
  split at hs
  · split at hs
    · rename_i k hk
      cases hs
      cases hv
      rename_i cs hl hc
      obtain ⟨k1, k2⟩ := capsD_spec h hJ hl hc hk (fun hp => hroot (by simp [hp]))
      exact .clo _ _ cs k1 k2
    · cases hs
  · exact argD_spec h hJ hv hs hroot

theorem argsD_spec (h : Inv w0 F0 s a w I ρ) (hJ : ∀ b, I b → J b) (τ : Env) : ∀ {os : List Operand} {ts : List TypeId} {al : List AV} {lent : Bool}, argsD Alg.std τ s os ts = some (al, lent) →
    (lent = true → ∀ r o, hget s.H r = some o → ∀ b ∈ tfp ρ r o, J b) → al.length = (os.map a.eval).length ∧ ∀ (i : Nat) (v : AV) (u : Value), al[i]? = some v → (os.map a.eval)[i]? = some u → AR w J v u
  | [], ts, al, lent, hs, hr => by simp [argsD] at hs; obtain ⟨rfl, _⟩ := hs; exact ⟨rfl, by simp⟩
  | o :: os, [], al, lent, hs, hr => by simp [argsD] at hs
  | o :: os, t :: ts, al, lent, hs, hr => by
    simp only [argsD] at hs
    split at hs
    · rename_i a1 b1 r1 c1 h1 h2
      cases hs
      have k1 := argC_spec h hJ (h.ev o) h1 (fun hp => hr (by simp [hp]))
      obtain ⟨k2, k3⟩ := argsD_spec h hJ τ h2 (fun hp => hr (by simp [hp]))
      refine ⟨by simpa using k2, fun i x y hx hy => ?_⟩
      cases i with
      | zero => simp at hx hy; subst hx; subst hy; exact k1
      | succ i => exact k3 i x y (by simpa using hx) (by simpa using hy)
    · cases hs

/-! ## Contracts -/
def retVal : List Value → Value
  | [v] => v
  | vs => .tuple vs.toArray

/-- What a function hands back. -/
structure Outs (w : World) (I : Nat → Prop) (outs : List ((t : Ty) × Md × t.den)) (us : List Value) (fps : List (List Nat)) : Prop where
  len : us.length = outs.length
  fl : fps.length = outs.length
  at_ : ∀ (i : Nat) (q : (t : Ty) × Md × t.den) (u : Value), outs[i]? = some q → us[i]? = some u → ∃ cs, u = mkV q.1 cs ∧ Own w I q.1 q.2.1 cs q.2.2 (fps.getD i [])

/-- What a call comes to: of nothing that was there a block turns; what comes back is new or shared. -/
def Back (w : World) (I : Nat → Prop) (outs : List ((t : Ty) × Md × t.den)) : Ending → World → Prop := fun e w' =>
  ∃ us I' fps, e = .returned (retVal us) ∧ Keeps (fun _ => False) w w' ∧ Outs w' I' outs us fps ∧ fps.flatten.Nodup ∧ (∀ b ∈ fps.flatten, w.heap.size ≤ b ∧ ¬ I' b) ∧ (∀ b, I b → I' b) ∧ (∀ b, I' b → b < w'.heap.size ∧ (I b ∨ w.heap.size ≤ b))

def CallN (P : Program) (f : FuncId) (args : Array Value) (w : World) (R : Ending → World → Prop) : Prop :=
  match (callFunc f args).run P w with
  | .ok (.enter f' args') w' => Calls P f' args' w' R
  | .ok (.value v) w' => R (.returned v) w'
  | _ => False

def Ct (P : Program) (f : FuncId) (al : List AV) (r : Ret) : Prop :=
  ∀ (w : World) (I : Nat → Prop) (us : List Value), (∀ p ∈ r.pre, p) → al.length = us.length → (∀ (i : Nat) (v : AV) (u : Value), al[i]? = some v → us[i]? = some u → AR w I v u) → (∀ b, I b → b < w.heap.size) →
    CallN P f us.toArray w (Back w I r.outs)

def GOk (P : Program) (G : Gam) : Prop := ∀ f al r, G.g f al = some r → Ct P f al r

/-! ## Results laid into the state -/
theorem Ext.add (o : Root) (c : RC) : Ext w w I I ρ (upd ρ H.length c) H (H ++ [some o]) :=
  ⟨fun _ _ => rfl, fun _ h => h, by simp, fun r hr => by simp [upd, Nat.ne_of_lt hr], fun r hr v' e m xs hg => by
    rw [hget_app, if_neg (Nat.ne_of_lt hr)] at hg
    exact ⟨v', m, xs, hg, Nat.le_refl _, .inl fun p r h => h⟩⟩

theorem RowStep.trans {w w' w'' : World} {hdr : Value} {e : Ty} {v v' v'' : Nat} (h : RowStep w w' hdr e v v') (k : RowStep w' w'' hdr e v' v'') : RowStep w w'' hdr e v v'' := by
  refine ⟨Nat.le_trans h.1 k.1, ?_⟩
  rcases h.2 with h2 | ⟨h2, h3⟩
  · rcases k.2 with k2 | ⟨k2, k3⟩
    · exact .inl fun p r hw => k2 p r (h2 p r hw)
    · exact .inr ⟨fun hs => Nat.lt_of_le_of_lt h.1 (k2 hs), fun p t cs l hp hw => k3 p t cs l hp (h2 p _ hw)⟩
  · refine .inr ⟨fun hs => Nat.lt_of_lt_of_le (h2 hs) k.1, fun p t cs l hp hw => ?_⟩
    obtain ⟨cs', hw'⟩ := h3 p t cs l hp hw
    rcases k.2 with k2 | ⟨_, k3⟩
    · exact ⟨cs', k2 p _ hw'⟩
    · exact k3 p t cs' l hp hw'

theorem Ext.trans {w w' w'' : World} {I I' I'' : Nat → Prop} {ρ ρ' ρ'' : Nat → RC} {H H' H'' : Heap} (h : Ext w w' I I' ρ ρ' H H') (k : Ext w' w'' I' I'' ρ' ρ'' H' H'') : Ext w w'' I I'' ρ ρ'' H H'' :=
  ⟨fun b hb => (k.hI b (h.hII b hb)).trans (h.hI b hb), fun b hb => k.hII b (h.hII b hb), Nat.le_trans h.len k.len, fun r hr => by
    obtain ⟨a1, a2, a3⟩ := h.rc r hr
    obtain ⟨b1, b2, b3⟩ := k.rc r (Nat.lt_of_lt_of_le hr h.len)
    exact ⟨b1.trans a1, b2.trans a2, b3.trans a3⟩, fun r hr v' e m xs hg => by
    obtain ⟨v1, m1, xs1, g1, s1⟩ := k.row r (Nat.lt_of_lt_of_le hr h.len) v' e m xs hg
    obtain ⟨v2, m2, xs2, g2, s2⟩ := h.row r hr v1 e m1 xs1 g1
    refine ⟨v2, m2, xs2, g2, s2.trans ?_⟩
    rw [← (h.rc r hr).2.2]
    exact s1⟩

theorem Ext.refl : Ext w w I I ρ ρ H H := ⟨fun _ _ => rfl, fun _ h => h, Nat.le_refl _, fun _ _ => ⟨rfl, rfl, rfl⟩, fun r hr v' e m xs hg => ⟨v', m, xs, hg, Nat.le_refl _, .inl fun p r h => h⟩⟩

/-- What may be made a root. -/
def Free (w0 : World) (F0 : Bnd) (I : Nat → Prop) (ρ : Nat → RC) (H : Heap) (fp : List Nat) : Prop := ∀ b ∈ fp, ¬ I b ∧ (w0.heap.size ≤ b ∨ F0.wr b) ∧ ∀ r o, hget H r = some o → b ∉ tfp ρ r o

/-- Cells laid into a state: each owned row a root. -/
theorem layC_spec : ∀ {t : Ty} {m : Md} {x : t.den} {H H' : Heap} {l : List AV} {cs : List Value} {fp : List Nat} {ρ : Nat → RC} {fr : List AV}, Inv w0 F0 ⟨fr, H⟩ a w I ρ → Own w I t m cs x fp → fp.Nodup → Free w0 F0 I ρ H fp → layC Alg.std t m x H = some (l, H') →
    ∃ ρ', Inv w0 F0 ⟨fr, H'⟩ a w I ρ' ∧ Ext w w I I ρ ρ' H H' ∧ VRs w I ρ' H' l cs ∧ ∀ r o, hget H' r = some o → (hget H r = some o ∧ tfp ρ' r o = tfp ρ r o) ∨ ∀ b ∈ tfp ρ' r o, b ∈ fp
  | .unit, m, x, H, H', l, cs, fp, ρ, fr, h, ho, hn, hf, hl => by
    simp [layC] at hl
    obtain ⟨rfl, rfl⟩ := hl
    obtain ⟨rfl, _⟩ := ho
    exact ⟨ρ, h, Ext.refl, VRs.nil, fun r o hr => .inl ⟨hr, rfl⟩⟩
  | .pair t1 t2, m, x, H, H', l, cs, fp, ρ, fr, h, ho, hn, hf, hl => by
    simp only [layC] at hl
    obtain ⟨c1, c2, f1, f2, rfl, rfl, h1, h2⟩ := ho
    rw [List.nodup_append] at hn
    obtain ⟨n1, n2, n12⟩ := hn
    split at hl
    · rename_i l1 H1 e1
      split at hl
      · rename_i l2 H2 e2
        cases hl
        obtain ⟨ρ1, k1, E1, v1, q1⟩ := layC_spec h h1 n1 (fun b hb => hf b (List.mem_append_left _ hb)) e1
        obtain ⟨ρ2, k2, E2, v2, q2⟩ := layC_spec k1 h2 n2 (fun b hb => by
          obtain ⟨g1, g2, g3⟩ := hf b (List.mem_append_right _ hb)
          refine ⟨g1, g2, fun r o hr hb' => ?_⟩
          rcases q1 r o hr with ⟨hr', e⟩ | hin
          · exact g3 r o hr' (e ▸ hb')
          · exact n12 b (hin b hb') b hb rfl) e2
        refine ⟨ρ2, k2, E1.trans E2, (v1.ext E2).app v2, fun r o hr => ?_⟩
        rcases q2 r o hr with ⟨hr', e⟩ | hin
        · rcases q1 r o hr' with ⟨hr2, e'⟩ | hin
          · exact .inl ⟨hr2, e.trans e'⟩
          · exact .inr fun b hb => List.mem_append_left _ (hin b (e ▸ hb))
        · exact .inr fun b hb => List.mem_append_right _ (hin b hb)
      · cases hl
    · cases hl
  | .sl e, m, x, H, H', l, cs, fp, ρ, fr, h, ho, hn, hf, hl => by
    cases m with
    | ow m' =>
      simp [layC] at hl
      obtain ⟨rfl, rfl⟩ := hl
      have hshape : ∃ A c, cs = [.slice A (List.length x) c] ∧ List.length x ≤ c := by
        rcases ho.2 with ⟨he, hx, _⟩ | ⟨b, c, arr, et, fps, he, _, hc, _⟩
        · exact ⟨none, 0, by simp [he, hx]⟩
        · exact ⟨_, c, he, hc⟩
      obtain ⟨A, c, rfl, hnc⟩ := hshape
      have hadd := h.add (.row 0 e m' x) ⟨0, 0, .slice A (List.length x) c, fp⟩ (by simpa [RootOk, upd] using ho) (by simpa [tfp, upd] using hn) (fun b hb => by
        have hb' : b ∈ fp := by simpa [tfp, upd] using hb
        exact ⟨(hf b hb').1, ho.lt b hb', (hf b hb').2.1, (hf b hb').2.2⟩) (fun _ hh => by cases hh)
      refine ⟨_, hadd, Ext.add _ _, VRs.single ?_ rfl, fun r o hr => ?_⟩
      · refine .ref e H.length 0 [] 0 (List.length x) A c (by simp) ho.1 hnc fun v' e' m1 xs' hg => ?_
        rw [hget_app, if_pos rfl] at hg
        cases hg
        refine ⟨Nat.le_refl _, fun _ => ⟨A, c, List.length x, none, by simp [walk, upd], by omega, fun _ => ?_, fun _ => ⟨rfl, rfl⟩⟩⟩
        cases A with
        | none => rfl
        | some a => simp [Addr.add]
      · rw [hget_app] at hr
        split at hr
        · rename_i e
          cases hr
          subst e
          right
          intro b hb
          simpa [tfp, upd] using hb
        · rename_i e
          exact .inl ⟨hr, by cases o <;> simp [tfp, upd, e]⟩
    | sh =>
      simp [layC] at hl
      obtain ⟨rfl, rfl⟩ := hl
      have hfp : fp = [] := ho.2.1
      subst hfp
      obtain ⟨_, _, A, c, rfl, _, _⟩ := id ho
      exact ⟨ρ, h, Ext.refl, VRs.single (VR.dat (.sl e) x _ ho) rfl, fun r o hr => .inl ⟨hr, rfl⟩⟩
    | no => exact ho.2.elim
    | pr _ _ => exact ho.2.elim
  | .int k, m, x, H, H', l, cs, fp, ρ, fr, h, ho, hn, hf, hl => by
    simp [layC] at hl
    obtain ⟨rfl, rfl⟩ := hl
    obtain ⟨rfl, h2, _⟩ := ho
    exact ⟨ρ, h, Ext.refl, VRs.single (VR.int h2) rfl, fun r o hr => .inl ⟨hr, rfl⟩⟩
  | .bool, m, x, H, H', l, cs, fp, ρ, fr, h, ho, hn, hf, hl => by
    simp [layC] at hl
    obtain ⟨rfl, rfl⟩ := hl
    obtain ⟨rfl, _⟩ := ho
    exact ⟨ρ, h, Ext.refl, VRs.single VR.bool rfl, fun r o hr => .inl ⟨hr, rfl⟩⟩
  | .str, m, x, H, H', l, cs, fp, ρ, fr, h, ho, hn, hf, hl => by
    simp [layC] at hl
    obtain ⟨rfl, rfl⟩ := hl
    obtain ⟨⟨b, rfl, h1⟩, h2⟩ := ho
    exact ⟨ρ, h, Ext.refl, VRs.single (VR.dat .str x [.string b] ⟨⟨b, rfl, h1⟩, rfl⟩) rfl, fun r o hr => .inl ⟨hr, rfl⟩⟩

end
end Go.Vee
