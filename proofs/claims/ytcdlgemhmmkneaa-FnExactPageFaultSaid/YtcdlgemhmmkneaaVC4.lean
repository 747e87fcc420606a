import Derived.Test.YtcdlgemhmmkneaaVC3
set_option linter.unusedSimpArgs false
set_option linter.unusedVariables false
namespace Go.Vee
open Go

theorem Own.flat_eq {w w' : World} {I I' : Nat → Prop} : ∀ {t : Ty} {m m' : Md} {cs cs' : List Value} {x : t.den} {fp fp' : List Nat}, t.hasSl = false → Own w I t m cs x fp → Own w' I' t m' cs' x fp' → cs = cs'
  | .int _, _, _, _, _, _, _, _, _, h, k => h.1.trans k.1.symm
  | .bool, _, _, _, _, _, _, _, _, h, k => h.1.trans k.1.symm
  | .str, _, _, _, _, _, _, _, _, h, k => by
    obtain ⟨⟨a, rfl, h1, _⟩, _⟩ := h
    obtain ⟨⟨b, rfl, k1, _⟩, _⟩ := k
    have inj : ∀ (l k : List UInt8), (l.map (fun b => (b.toNat : Int)) = k.map fun b => (b.toNat : Int)) → l = k := by
      intro l
      induction l with
      | nil => intro k h; simpa using h.symm
      | cons x l ih =>
        intro k h
        cases k with
        | nil => simp at h
        | cons y k =>
          simp only [List.map_cons, List.cons.injEq] at h
          rw [ih k h.2, UInt8.toNat_inj.1 (by omega : x.toNat = y.toNat)]
    have h2 := inj _ _ (h1.symm.trans k1)
    have h3 : a.data = b.data := Array.toList_inj.1 h2
    cases a; cases b; simp at h3; rw [h3]
  | .sl e, _, _, _, _, _, _, _, hs, h, _ => by simp [Ty.hasSl] at hs
  | .unit, _, _, _, _, _, _, _, _, h, k => h.1.trans k.1.symm
  | .pair a b, _, _, _, _, _, _, _, hs, h, k => by
    simp only [Ty.hasSl, Bool.or_eq_false_iff] at hs
    obtain ⟨c1, c2, f1, f2, rfl, rfl, h1, h2⟩ := h
    obtain ⟨d1, d2, g1, g2, rfl, rfl, k1, k2⟩ := k
    rw [Own.flat_eq hs.1 h1 k1, Own.flat_eq hs.2 h2 k2]

/-- A function with a body. -/
def Enters (P : Program) (f : FuncId) : Prop := ∀ args w, (callFunc f args).run P w = .ok (.enter f args) w
def EnOk (P : Program) (G : Gam) : Prop := ∀ f, G.en f = true → Enters P f

section
variable {P : Program} {w0 w : World} {F0 : Bnd} {s : St} {a : Act} {I J : Nat → Prop} {ρ : Nat → RC} {H : Heap} {o : Oper} {K : St → Prop} {Q : Exit → Act → World → Prop} {C : World → Prop}

theorem Outs.flat {w' : World} {I' : Nat → Prop} {outs : List ((t : Ty) × Md × t.den)} {us : List Value} {fps : List (List Nat)} (h : Outs w' I' outs us fps) (hf : ∀ q ∈ outs, q.1.hasSl = false) : Outs w I outs us (List.replicate outs.length []) :=
  ⟨h.len, by simp, fun i q u hq hu => by
    obtain ⟨cs, e1, e2⟩ := h.at_ i q u hq hu
    have := (e2.flat (hf q (List.mem_of_getElem? hq))).2 w I q.2.1
    have e3 : (List.replicate outs.length ([] : List Nat)).getD i [] = [] := by simp [List.getD_eq_getElem?_getD, List.getElem?_replicate]; split <;> rfl
    rw [e3]
    exact ⟨cs, e1, this⟩⟩

theorem Outs.same {w' : World} {I' : Nat → Prop} {outs : List ((t : Ty) × Md × t.den)} {us us' : List Value} {fps fps' : List (List Nat)} (h : Outs w I outs us fps) (k : Outs w' I' outs us' fps') (hf : ∀ q ∈ outs, q.1.hasSl = false) : us = us' := by
  apply List.ext_getElem?
  intro i
  by_cases hi : i < outs.length
  · have h1 : us[i]? = some (us[i]'(by rw [h.len]; exact hi)) := by simp
    have h2 : us'[i]? = some (us'[i]'(by rw [k.len]; exact hi)) := by simp
    have h3 : outs[i]? = some outs[i] := by simp
    obtain ⟨cs, e1, e2⟩ := h.at_ i _ _ h3 h1
    obtain ⟨cs', e1', e2'⟩ := k.at_ i _ _ h3 h2
    rw [h1, h2, e1, e1', Own.flat_eq (hf _ (List.getElem_mem hi)) e2 e2']
  · rw [List.getElem?_eq_none (by rw [h.len]; omega), List.getElem?_eq_none (by rw [k.len]; omega)]

/-- The operation is quiet in the class, or a call that is. -/
theorem Quiet.to {N : Act → Prop} (h : Quiet P o a C N) : o.quiet P a C N := by
  obtain ⟨u, h1, h2⟩ := h
  refine ⟨u, fun w' hw' => ?_, h2⟩
  unfold Oper.quietAt
  rw [h1 w' hw']
  exact ⟨rfl, rfl⟩

theorem quiet_call {f : Operand} {args : Array Operand} {ts : Array TypeId} (τ : Env) (G : Gam) (hG : GOk P G) (hEn : EnOk P G) (hq : G.q = true) (h : Inv w0 F0 s a w I ρ) (ho : o.op = .call { callee := .value f, args := args, argTypes := ts }) (hs : sat (stepOp Alg.std τ G o s) (fun _ s' => K s')) :
    o.quiet P a (Keeps (fun _ => False) w) (fun a' => Post w0 F0 K a' w) := by
  have hfv := h.ev f
  simp only [stepOp, ho] at hs
  unfold callOp at hs
  split at hs
  · rename_i fid caps hfe
    rw [hfe] at hfv
    split at hs
    · rename_i al lent cs hargs hcaps
      split at hs
      · rename_i r hr
        split at hs
        · exact hs.elim
        · rename_i hlent
          split at hs
          · exact hs.elim
          rename_i hqq
          split at hs
          · rename_i vs H' hlay
            rw [sat_needs] at hs
            obtain ⟨hpre, hs⟩ := hs
            have hqq' : G.en fid = true ∧ ∀ q ∈ r.outs, q.1.hasSl = false := by simpa [hq] using hqq
            have hent := hEn fid hqq'.1
            have hct := hG fid _ r hr
            obtain ⟨cvs, hu, hcl, hcc⟩ : ∃ cvs : List Value, a.eval f = .func (.func fid) #[] cvs.toArray ∧ caps.length = cvs.length ∧ ∀ (i : Nat) (v : AV) (u : Value), caps[i]? = some v → cvs[i]? = some u → VR w I ρ s.H v u := by
              cases hu : a.eval f <;> rw [hu] at hfv <;> cases hfv
              rename_i cs hl hc
              exact ⟨cs, rfl, hl, hc⟩
            have hcall : ∀ w', Keeps (fun _ => False) w w' → Calls P fid ((args.toList.map a.eval) ++ cvs).toArray w' (Back w' (fun b => I b ∨ ∃ r o, hget s.H r = some o ∧ b ∈ tfp ρ r o) r.outs) := fun w' hk => by
              have h' := h.world hk (fun _ _ h => h) (fun _ _ _ _ _ h => h) (fun _ h => h.elim)
              have hJ : ∀ b, I b → (I b ∨ ∃ r o, hget s.H r = some o ∧ b ∈ tfp ρ r o) := fun b hb => .inl hb
              have hroot : ∀ r o, hget s.H r = some o → ∀ b ∈ tfp ρ r o, (I b ∨ ∃ r o, hget s.H r = some o ∧ b ∈ tfp ρ r o) := fun r o hr b hb => .inr ⟨r, o, hr, hb⟩
              have E : Ext w w' I I ρ ρ s.H s.H := ⟨fun b hb => hk.block b (h.imm b hb) (fun h => h), fun _ h => h, Nat.le_refl _, fun _ _ => ⟨rfl, rfl, rfl⟩, fun r _ v' e m xs hg =>
                ⟨v', m, xs, hg, RowStep.same (fun b hb => hk.block b (h.imm b hb) (fun h => h)) (h.roots r _ hg) (fun b hb => hk.block b (h.sep r _ hg b hb).2.1 (fun h => h))⟩⟩
              obtain ⟨k1, k2⟩ := argsD_spec h' hJ τ hargs (fun _ => hroot)
              obtain ⟨k3, k4⟩ := capsD_spec h' hJ hcl (fun i v u hv hu => (hcc i v u hv hu).ext E) hcaps (fun _ => hroot)
              have hcall := hct w' _ ((args.toList.map a.eval) ++ cvs) hpre (by simp [k1, k3]) (fun i v u hv hu => by
                by_cases hi : i < al.length
                · rw [List.getElem?_append_left hi] at hv
                  rw [List.getElem?_append_left (by rw [← k1]; exact hi)] at hu
                  exact k2 i v u hv hu
                · rw [List.getElem?_append_right (by omega)] at hv
                  rw [List.getElem?_append_right (by rw [← k1]; omega), ← k1] at hu
                  exact k4 _ v u hv hu) (fun b hb => by
                rcases hb with hb | ⟨r, o, hr, hb⟩
                · exact h'.imm b hb
                · exact (h'.sep r o hr b hb).2.1)
              unfold CallN at hcall
              rw [hent] at hcall
              exact hcall
            obtain ⟨e, w1, fr, hback, _⟩ := hcall w (Keeps.refl _ _) []
            obtain ⟨us, I', fps, rfl, hk1, hout, _⟩ := hback
            have hout0 : Outs w I r.outs us (List.replicate r.outs.length []) := hout.flat hqq'.2
            have hnil : (List.replicate r.outs.length ([] : List Nat)).flatten = [] := by simp
            obtain ⟨ρ', h', E, hl, hv⟩ := layVs_spec h hout0 (by rw [hnil]; simp) (fun b hb => by rw [hnil] at hb; simp at hb) hlay
            refine ⟨retVal us, fun w' hw' => ?_, _, I, ρ', h'.put (retV_spec hl hv) o.dst, hs⟩
            unfold Oper.quietAt
            rw [exec_call ho hu, hent]
            refine ⟨rfl, (hcall w' hw').mono fun e w'' hb => ?_⟩
            obtain ⟨us', I'', fps', rfl, hk2, hout', _⟩ := hb
            exact ⟨by rw [Outs.same hout0 hout' hqq'.2], hw'.trans hk2⟩
          · exact hs.elim
      · exact hs.elim
    · exact hs.elim
  · exact hs.elim

theorem one_of_list {α : Type} {a : Array α} {x : α} (h : a.toList = [x]) : a = #[x] := by apply Array.ext'; simpa using h
theorem two_of_list {α : Type} {a : Array α} {x y : α} (h : a.toList = [x, y]) : a = #[x, y] := by apply Array.ext'; simpa using h

/-- What looks at no memory yields its value in every world. -/
theorem pure_ok (τ : Env) (G : Gam) (hE : EnvOk P τ) (hk : pureK o = true) (h : Inv w0 F0 s a w I ρ) (hs : sat (stepOp Alg.std τ G o s) (fun _ s' => K s')) : Quiet P o a C (fun a' => Post w0 F0 K a' w) := by
  cases ho : o.op with
  | move x => exact ok_move h (.inl ho) (by simpa [stepOp, ho] using hs)
  | assign x => exact ok_move h (.inr ho) (by simpa [stepOp, ho] using hs)
  | pick c x y => exact ok_pick h ho τ G hs
  | build t ps => exact ok_build τ G hE h ho hs
  | nilCheck x => exact ok_nilCheck h ho τ G hs
  | fieldAddr t x n => exact ok_fieldAddr τ G hE h ho hs
  | field t x n => exact ok_field τ G hE h ho hs
  | indexAddr t x i => exact ok_indexAddr τ G hE h ho hs
  | index t x i => exact ok_index τ G hE h ho hs
  | binOp op t x y yt => exact ok_binOp τ G hE h ho hs
  | unOp op t x => exact ok_unOp h ho τ G hs
  | extract x i => exact ok_extract τ G h ho hs
  | makeFunc f first caps =>
    cases f with
    | func f => exact ok_makeFunc τ G h ho hs
    | _ => simp [pureK, ho] at hk
  | slice t x lo hi mx =>
    cases mx with
    | none => exact ok_slice τ G hE h ho hs
    | some _ => simp [pureK, ho] at hk
  | call c =>
    obtain ⟨callee, args, ts⟩ := c
    cases callee with
    | builtin b =>
      cases b with
      | len =>
        have hs' := hs
        simp only [stepOp, ho] at hs'
        split at hs'
        · rename_i x t h1 h2
          have e1 := one_of_list h1
          have e2 := one_of_list h2
          subst e1
          subst e2
          exact ok_len τ G hE h ho hs
        · exact hs'.elim
      | _ => simp [pureK, ho] at hk
    | _ => simp [pureK, ho] at hk
  | _ => simp [pureK, ho] at hk

theorem quiet_ok (τ : Env) (G : Gam) (hE : EnvOk P τ) (hG : GOk P G) (hEn : EnOk P G) (hq : G.q = true) (hk : quietK o = true) (h : Inv w0 F0 s a w I ρ) (hs : sat (stepOp Alg.std τ G o s) (fun _ s' => K s')) :
    o.quiet P a (Keeps (fun _ => False) w) (fun a' => Post w0 F0 K a' w) := by
  by_cases hp : pureK o = true
  · exact (pure_ok τ G hE hp h hs).to
  · cases ho : o.op with
    | load t x => exact (ok_load τ G hE (fun _ h => h) h ho hs).to
    | convert t0 t x => exact (ok_convert τ G hE (fun _ h => h) h ho hs).to
    | call c =>
      obtain ⟨callee, args, ts⟩ := c
      cases callee with
      | value f => exact quiet_call τ G hG hEn hq h ho hs
      | builtin b => cases b <;> simp [quietK, pureK, ho] at hk hp
      | invoke r n => simp [quietK, ho] at hk
    | makeFunc f first caps => cases f <;> simp [quietK, pureK, ho] at hk hp
    | slice t x lo hi mx => cases mx <;> simp [quietK, pureK, ho] at hk hp
    | _ => simp [quietK, pureK, ho] at hk hp

theorem step_ok (τ : Env) (G : Gam) (hE : EnvOk P τ) (hG : GOk P G) (h : Inv w0 F0 s a w I ρ) (hs : sat (stepOp Alg.std τ G o s) (fun _ s' => K s')) : o.wp P a w (Post w0 F0 K) Q := by
  by_cases hp : pureK o = true
  · exact (pure_ok τ G hE hp h hs).wp
  · cases ho : o.op with
    | load t x => exact (ok_load (C := fun w' => w' = w) τ G hE (fun _ h => h ▸ Keeps.refl _ _) h ho hs).wp
    | convert t0 t x => exact (ok_convert (C := fun w' => w' = w) τ G hE (fun _ h => h ▸ Keeps.refl _ _) h ho hs).wp
    | alloc t => exact ok_alloc τ G hE h ho hs
    | box t v => exact ok_box τ G hE h ho hs
    | buildSlice t n ps => exact ok_buildSlice τ G hE h ho hs
    | makeSlice t n c => exact ok_makeSlice τ G hE h ho hs
    | store t x v => exact ok_store τ G hE h ho hs
    | call c =>
      obtain ⟨callee, args, ts⟩ := c
      cases callee with
      | value f => exact ok_call τ G hG h ho hs
      | builtin b =>
        cases b with
        | append =>
          have hs' := hs
          simp only [stepOp, ho] at hs'
          split at hs'
          · rename_i x y t t2 h1 h2
            have e1 := two_of_list h1
            have e2 := two_of_list h2
            subst e1
            subst e2
            exact ok_append τ G hE h ho hs
          · exact hs'.elim
        | len => simp [pureK, ho] at hp
        | _ => simp only [stepOp, ho] at hs; exact hs.elim
      | invoke r n => simp only [stepOp, ho] at hs; exact hs.elim
    | makeFunc f first caps =>
      cases f with
      | func f => simp [pureK, ho] at hp
      | _ => simp only [stepOp, ho] at hs; exact hs.elim
    | slice t x lo hi mx =>
      cases mx with
      | none => simp [pureK, ho] at hp
      | some _ => simp only [stepOp, ho] at hs; exact hs.elim
    | _ => first | (simp [pureK, ho] at hp; done) | (simp only [stepOp, ho] at hs; exact hs.elim)

end
end Go.Vee
