/-
  A whole body is shown to do what the evaluator says; a contract follows from a computed claim.
-/
import Derived.Test.YtjlojjkfdidkiaaV5
import Derived.Deep.LoopGhost
set_option linter.unusedSimpArgs false
set_option linter.unusedVariables false
namespace Go.Vee
open Go

theorem Own.flat_eq {w w' : World} {I I' : Nat → Prop} : ∀ {t : Ty} {m m' : Md} {cs cs' : List Value} {x : t.den} {fp fp' : List Nat}, t.hasSl = false → Own w I t m cs x fp → Own w' I' t m' cs' x fp' → cs = cs'
  | .int _, _, _, _, _, _, _, _, _, h, k => h.1.trans k.1.symm
  | .bool, _, _, _, _, _, _, _, _, h, k => h.1.trans k.1.symm
  | .str, _, _, _, _, _, _, _, _, h, k => by
    obtain ⟨⟨a, rfl, h1, _⟩, _⟩ := h
    obtain ⟨⟨b, rfl, k1, _⟩, _⟩ := k
    have inj : ∀ (l k : List UInt8), (l.map (fun b => (b.toNat : Int)) = k.map fun b => (b.toNat : Int)) → l = k := by
      intro l
      induction l with
      | nil => intro k h; simpa using h.symm
      | cons x l ih =>
        intro k h
        cases k with
        | nil => simp at h
        | cons y k =>
          simp only [List.map_cons, List.cons.injEq] at h
          rw [ih k h.2, UInt8.toNat_inj.1 (by omega : x.toNat = y.toNat)]
    have h2 := inj _ _ (h1.symm.trans k1)
    have h3 : a.data = b.data := Array.toList_inj.1 h2
    cases a; cases b; simp at h3; rw [h3]
  | .sl e, _, _, _, _, _, _, _, hs, h, _ => by simp [Ty.hasSl] at hs
  | .unit, _, _, _, _, _, _, _, _, h, k => h.1.trans k.1.symm
  | .pair a b, _, _, _, _, _, _, _, hs, h, k => by
    simp only [Ty.hasSl, Bool.or_eq_false_iff] at hs
    obtain ⟨c1, c2, f1, f2, rfl, rfl, h1, h2⟩ := h
    obtain ⟨d1, d2, g1, g2, rfl, rfl, k1, k2⟩ := k
    rw [Own.flat_eq hs.1 h1 k1, Own.flat_eq hs.2 h2 k2]

/-- A function with a body. -/
def Enters (P : Program) (f : FuncId) : Prop := ∀ args w, (callFunc f args).run P w = .ok (.enter f args) w
def EnOk (P : Program) (G : Gam) : Prop := ∀ f, G.en f = true → Enters P f

section
variable {P : Program} {w0 w : World} {F0 : Bnd} {s : St} {a : Act} {I J : Nat → Prop} {ρ : Nat → RC} {H : Heap} {o : Oper} {K : St → Prop} {Q : Exit → Act → World → Prop} {C : World → Prop}

theorem Outs.flat {w' : World} {I' : Nat → Prop} {outs : List ((t : Ty) × Md × t.den)} {us : List Value} {fps : List (List Nat)} {n : Nat} (h : Outs w' I' n outs us fps) (hf : ∀ q ∈ outs, q.1.hasSl = false ∧ npOf q.2.1 = none) : Outs w I n outs us (List.replicate outs.length []) :=
  ⟨h.len, by simp, fun i q u hq hu => by
    have hf2 := hf q (List.mem_of_getElem? hq)
    obtain ⟨cs, e1, e2⟩ := (OutOk.dat hf2.2).1 (h.at_ i q u hq hu)
    have := (e2.flat hf2.1).2 w I q.2.1
    have e3 : (List.replicate outs.length ([] : List Nat)).getD i [] = [] := by simp [List.getD_eq_getElem?_getD, List.getElem?_replicate]; split <;> rfl
    rw [e3]
    exact (OutOk.dat hf2.2).2 ⟨cs, e1, this⟩⟩

theorem Outs.same {w' : World} {I' : Nat → Prop} {outs : List ((t : Ty) × Md × t.den)} {us us' : List Value} {fps fps' : List (List Nat)} {n n' : Nat} (h : Outs w I n outs us fps) (k : Outs w' I' n' outs us' fps') (hf : ∀ q ∈ outs, q.1.hasSl = false ∧ npOf q.2.1 = none) : us = us' := by
  apply List.ext_getElem?
  intro i
  by_cases hi : i < outs.length
  · have h1 : us[i]? = some (us[i]'(by rw [h.len]; exact hi)) := by simp
    have h2 : us'[i]? = some (us'[i]'(by rw [k.len]; exact hi)) := by simp
    have h3 : outs[i]? = some outs[i] := by simp
    have hf2 := hf _ (List.getElem_mem hi)
    obtain ⟨cs, e1, e2⟩ := (OutOk.dat hf2.2).1 (h.at_ i _ _ h3 h1)
    obtain ⟨cs', e1', e2'⟩ := (OutOk.dat hf2.2).1 (k.at_ i _ _ h3 h2)
    rw [h1, h2, e1, e1', Own.flat_eq hf2.1 e2 e2']
  · rw [List.getElem?_eq_none (by rw [h.len]; omega), List.getElem?_eq_none (by rw [k.len]; omega)]

/-- The operation is quiet in the class, or a call that is. -/
theorem Quiet.to {N : Act → Prop} (h : Quiet P o a C N) : o.quiet P a C N := by
  obtain ⟨u, h1, h2⟩ := h
  refine ⟨u, fun w' hw' => ?_, h2⟩
  unfold Oper.quietAt
  rw [h1 w' hw']
  exact ⟨rfl, rfl⟩

theorem quiet_call {f : Operand} {args : Array Operand} {ts : Array TypeId} (τ : Env) (G : Gam) (hG : GOk P G) (hEn : EnOk P G) (hq : G.q = true) (h : Inv w0 F0 s a w I ρ) (ho : o.op = .call { callee := .value f, args := args, argTypes := ts }) (hs : sat (stepOp Alg.std τ G o s) (fun _ s' => K s')) :
    o.quiet P a (Keeps (fun _ => False) w) (fun a' => Post w0 F0 K a' w) := by
  have hfv := h.ev f
  simp only [stepOp, ho] at hs
  unfold callOp at hs
  split at hs
  · rename_i fid caps hfe
    rw [hfe] at hfv
    split at hs
    · split at hs
      · rename_i al lent cs hargs hcaps
        cases hr : G.g fid (al ++ cs) with
        | none => rw [hr] at hs; exact hs.elim
        | some rx =>
          rw [hr] at hs
          cases rx with
          | any t pre p r => rw [hq] at hs; exact hs.elim
          | one r =>
          simp only [exG] at hs
          split at hs
          · exact hs.elim
          · rename_i hlent
            split at hs
            · exact hs.elim
            rename_i hqq
            have hpre := end_pre hs
            have hqq' : G.en fid = true ∧ ∀ q ∈ r.outs, q.1.hasSl = false ∧ npOf q.2.1 = none := by
              have h1 : G.en fid = true ∧ ∀ q ∈ r.outs, flatO q = true := by simpa [hq] using hqq
              exact ⟨h1.1, fun q hq => flatO_iff.1 (h1.2 q hq)⟩
            have hent := hEn fid hqq'.1
            have hct := hG fid _ _ hr
            obtain ⟨cvs, hu, hcl, hcc⟩ := hfv.clo_inv
            have hcall : ∀ w', Keeps (fun _ => False) w w' → Calls P fid ((args.toList.map a.eval) ++ cvs).toArray w' (Back w' (fun b => I b ∨ (true = true ∧ ∃ r o, hget s.H r = some o ∧ b ∈ tfp ρ r o)) ([] ++ ((args.toList.map a.eval) ++ cvs)) (fun b => b ∈ ([] : List (List Nat)).flatten) r) := fun w' hk => by
              have h' := h.world hk (fun _ _ h => h) (fun _ _ _ _ _ h => h) (fun _ h => h.elim)
              have hJ : ∀ b, I b → (I b ∨ (true = true ∧ ∃ r o, hget s.H r = some o ∧ b ∈ tfp ρ r o)) := fun b hb => .inl hb
              have hroot : ∀ r o, hget s.H r = some o → ∀ b ∈ tfp ρ r o, (I b ∨ (true = true ∧ ∃ r o, hget s.H r = some o ∧ b ∈ tfp ρ r o)) := fun r o hr b hb => .inr ⟨rfl, r, o, hr, hb⟩
              have E : Ext w w' I I ρ ρ s.H s.H := ⟨fun b hb => hk.block b (h.imm b hb) (fun h => h), fun _ h => h, Nat.le_refl _, fun _ _ => ⟨rfl, rfl, rfl⟩, fun r _ v' e m xs hg =>
                ⟨v', m, xs, hg, RowStep.same (fun b hb => hk.block b (h.imm b hb) (fun h => h)) (h.roots r _ hg) (fun b hb => hk.block b (h.sep r _ hg b hb).2.1 (fun h => h))⟩⟩
              obtain ⟨k1, k2⟩ := argsD_spec h' hJ τ hargs (fun _ => hroot)
              obtain ⟨k3, k4⟩ := capsD_spec h' hJ hcl (fun i v u hv hu => (hcc i v u hv hu).ext E) hcaps (fun _ => hroot)
              have hcall := CtS.call (vm := []) (al := al ++ cs) (um := []) (fpm := []) (us := (args.toList.map a.eval) ++ cvs) (Ct.to hct hpre) rfl rfl (by simp) (by simp [k1, k3]) (fun i v u hv hu => by
                by_cases hi : i < al.length
                · rw [List.getElem?_append_left hi] at hv
                  rw [List.getElem?_append_left (by rw [← k1]; exact hi)] at hu
                  exact k2 i v u hv hu
                · rw [List.getElem?_append_right (by omega)] at hv
                  rw [List.getElem?_append_right (by rw [← k1]; omega), ← k1] at hu
                  exact k4 _ v u hv hu) (by simp) (by simp) h'.lentLt
              unfold CallN at hcall
              rw [hent] at hcall
              exact Calls.mono hcall fun e w' ⟨_, e1, hb⟩ => e1 ▸ hb
            obtain ⟨e, w1, fr, hback, _⟩ := hcall w (Keeps.refl _ _) []
            obtain ⟨us, I', fps, fpb, rfl, hk1, hout, _⟩ := hback
            have hout0 : Outs w I w.heap.size r.outs us (List.replicate r.outs.length []) := hout.flat hqq'.2
            have hnil : (List.replicate r.outs.length ([] : List Nat)).flatten = [] := by simp
            refine ⟨retVal us, fun w' hw' => ?_, end_ok h h.size hout0 (by rw [hnil]; simp) (fun b hb => by rw [hnil] at hb; simp at hb) hs⟩
            unfold Oper.quietAt
            rw [exec_call ho hu, hent]
            refine ⟨rfl, (hcall w' hw').mono fun e w'' hb => ?_⟩
            obtain ⟨us', I'', fps', fpb', rfl, hk2, hout', _⟩ := hb
            exact ⟨by rw [Outs.same hout0 hout' hqq'.2], hw'.trans (hk2.mono fun b _ hb => by simp at hb)⟩
      · exact hs.elim
    · rw [if_pos hq] at hs; exact hs.elim
  · exact hs.elim

theorem one_of_list {α : Type} {a : Array α} {x : α} (h : a.toList = [x]) : a = #[x] := by apply Array.ext'; simpa using h
theorem two_of_list {α : Type} {a : Array α} {x y : α} (h : a.toList = [x, y]) : a = #[x, y] := by apply Array.ext'; simpa using h

/-- What looks at no memory yields its value in every world. -/
theorem pure_ok (τ : Env) (G : Gam) (hE : EnvOk P τ) (hk : pureK o = true) (h : Inv w0 F0 s a w I ρ) (hs : sat (stepOp Alg.std τ G o s) (fun _ s' => K s')) : Quiet P o a C (fun a' => Post w0 F0 K a' w) := by
  cases ho : o.op with
  | move x => exact ok_move h (.inl ho) (by simpa [stepOp, ho] using hs)
  | assign x => exact ok_move h (.inr ho) (by simpa [stepOp, ho] using hs)
  | pick c x y => exact ok_pick h ho τ G hs
  | build t ps => exact ok_build τ G hE h ho hs
  | nilCheck x => exact ok_nilCheck h ho τ G hs
  | fieldAddr t x n => exact ok_fieldAddr τ G hE h ho hs
  | field t x n => exact ok_field τ G hE h ho hs
  | indexAddr t x i => exact ok_indexAddr τ G hE h ho hs
  | index t x i => exact ok_index τ G hE h ho hs
  | binOp op t x y yt =>
    cases hq : τ.eq t with
    | true => exact ok_eqOp τ G hE h ho hq hs
    | false => exact ok_binOp τ G hE h ho hq hs
  | unOp op t x => exact ok_unOp h ho τ G hs
  | extract x i => exact ok_extract τ G h ho hs
  | makeFunc f first caps =>
    cases f with
    | func f => exact ok_makeFunc τ G h ho hs
    | _ => simp [pureK, ho] at hk
  | slice t x lo hi mx =>
    cases mx with
    | none => exact ok_slice τ G hE h ho hs
    | some _ => simp [pureK, ho] at hk
  | call c =>
    obtain ⟨callee, args, ts⟩ := c
    cases callee with
    | builtin b =>
      cases b with
      | len =>
        have hs' := hs
        simp only [stepOp, ho] at hs'
        split at hs'
        · rename_i x t h1 h2
          have e1 := one_of_list h1
          have e2 := one_of_list h2
          subst e1
          subst e2
          exact ok_len τ G hE h ho hs
        · exact hs'.elim
      | _ => simp [pureK, ho] at hk
    | _ => simp [pureK, ho] at hk
  | _ => simp [pureK, ho] at hk

theorem first_ok (τ : Env) (G : Gam) (hE : EnvOk P τ) (hk : firstK τ o = true) (h : Inv w0 F0 s a w I ρ) (hs : sat (stepOp Alg.std τ G o s) (fun _ s' => K s')) : Quiet P o a C (fun a' => Post w0 F0 K a' w) := by
  unfold firstK at hk
  rw [Bool.or_eq_true] at hk
  rcases hk with hk | hk
  · exact pure_ok τ G hE hk h hs
  · cases ho : o.op with
    | convert t0 t x =>
      rw [ho] at hk
      simp only at hk
      split at hk
      · rename_i k0 k1 hT0 hT
        exact ok_convertI τ G hE hT0 hT h ho hs
      · cases hk
    | _ => rw [ho] at hk; cases hk

theorem quiet_ok (τ : Env) (G : Gam) (hE : EnvOk P τ) (hG : GOk P G) (hEn : EnOk P G) (hq : G.q = true) (hk : quietK o = true) (h : Inv w0 F0 s a w I ρ) (hs : sat (stepOp Alg.std τ G o s) (fun _ s' => K s')) :
    o.quiet P a (Keeps (fun _ => False) w) (fun a' => Post w0 F0 K a' w) := by
  by_cases hp : pureK o = true
  · exact (pure_ok τ G hE hp h hs).to
  · cases ho : o.op with
    | load t x => exact (ok_load τ G hE (fun _ h => h) h ho hs).to
    | convert t0 t x => exact (ok_convert τ G hE (fun _ h => h) h ho hs).to
    | call c =>
      obtain ⟨callee, args, ts⟩ := c
      cases callee with
      | value f => exact quiet_call τ G hG hEn hq h ho hs
      | builtin b => cases b <;> simp [quietK, pureK, ho] at hk hp
      | invoke r n => simp [quietK, ho] at hk
    | makeFunc f first caps => cases f <;> simp [quietK, pureK, ho] at hk hp
    | slice t x lo hi mx => cases mx <;> simp [quietK, pureK, ho] at hk hp
    | _ => simp [quietK, pureK, ho] at hk hp

theorem step_ok (τ : Env) (G : Gam) (hE : EnvOk P τ) (hG : GOk P G) (h : Inv w0 F0 s a w I ρ) (hs : sat (stepOp Alg.std τ G o s) (fun _ s' => K s')) : o.wp P a w (Post w0 F0 K) Q := by
  by_cases hp : pureK o = true
  · exact (pure_ok τ G hE hp h hs).wp
  · cases ho : o.op with
    | load t x => exact (ok_load (C := fun w' => w' = w) τ G hE (fun _ h => h ▸ Keeps.refl _ _) h ho hs).wp
    | convert t0 t x => exact (ok_convert (C := fun w' => w' = w) τ G hE (fun _ h => h ▸ Keeps.refl _ _) h ho hs).wp
    | alloc t => exact ok_alloc τ G hE h ho hs
    | box t v => exact ok_box τ G hE h ho hs
    | buildSlice t n ps => exact ok_buildSlice τ G hE h ho hs
    | makeSlice t n c => exact ok_makeSlice τ G hE h ho hs
    | store t x v => exact ok_store τ G hE h ho hs
    | call c =>
      obtain ⟨callee, args, ts⟩ := c
      cases callee with
      | value f => exact ok_call τ G hG h ho hs
      | builtin b =>
        cases b with
        | append =>
          have hs' := hs
          simp only [stepOp, ho] at hs'
          split at hs'
          · rename_i x y t t2 h1 h2
            have e1 := two_of_list h1
            have e2 := two_of_list h2
            subst e1
            subst e2
            exact ok_append τ G hE h ho hs
          · exact hs'.elim
        | copy =>
          have hs' := hs
          simp only [stepOp, ho] at hs'
          split at hs'
          · rename_i x y t t2 h1 h2
            have e1 := two_of_list h1
            have e2 := two_of_list h2
            subst e1
            subst e2
            exact ok_copy τ G hE h ho hs
          · exact hs'.elim
        | len => simp [pureK, ho] at hp
        | _ => simp only [stepOp, ho] at hs; exact hs.elim
      | invoke r n => simp only [stepOp, ho] at hs; exact hs.elim
    | makeFunc f first caps =>
      cases f with
      | func f => simp [pureK, ho] at hp
      | _ => simp only [stepOp, ho] at hs; exact hs.elim
    | slice t x lo hi mx =>
      cases mx with
      | none => simp [pureK, ho] at hp
      | some _ => simp only [stepOp, ho] at hs; exact hs.elim
    | _ => first | (simp [pureK, ho] at hp; done) | (simp only [stepOp, ho] at hs; exact hs.elim)

/-- Operations that change nothing that was there. -/
theorem keep_ok (τ : Env) (G : Gam) (hE : EnvOk P τ) (hk : keepK o = true) (h : Inv w0 F0 s a w I ρ) (hs : sat (stepOp Alg.std τ G o s) (fun _ s' => K s')) : o.wp P a w (fun a' w' => Post w0 F0 K a' w' ∧ Keeps (fun _ => False) w w') Q := by
  have q : Quiet P o a (fun w' => w' = w) (fun a' => Post w0 F0 K a' w) → o.wp P a w (fun a' w' => Post w0 F0 K a' w' ∧ Keeps (fun _ => False) w w') Q := fun ⟨u, h1, h2⟩ => Quiet.wp (N := fun a' w' => Post w0 F0 K a' w' ∧ Keeps (fun _ => False) w w') ⟨u, h1, h2, Keeps.refl _ _⟩
  unfold keepK at hk
  rw [Bool.or_eq_true] at hk
  rcases hk with hk | hk
  · exact q (pure_ok τ G hE hk h hs)
  · cases ho : o.op with
    | load t x => exact q (ok_load τ G hE (fun _ h => h ▸ Keeps.refl _ _) h ho hs)
    | convert t0 t x => exact q (ok_convert τ G hE (fun _ h => h ▸ Keeps.refl _ _) h ho hs)
    | alloc t =>
      simp only [stepOp, ho] at hs
      split at hs
      · rename_i T hT
        have hF := hE.ty t T hT
        have hz := VRs.zero (w := w) (I := I) (ρ := ρ) (H := s.H) T
        have hc := mkV_cells (zeroCs_length T) hz.one
        obtain ⟨ρ', h1, h2⟩ := h.addBox (zeroC T) (zeroCs T) t hz.len hz.one hz.at_
        have hr : (execOp a.eval o).run P w = .ok (.value (.pointer (some ⟨w.heap.size, 0, none⟩))) (w.alloc (.cells (zeroCs T).toArray t)) := by simp [execOp, ho, Instr.alloc, run_zeroValue (TyF.base hF), newVar, newRow, hc]
        unfold Oper.wp
        rw [hr]
        exact ⟨⟨_, I, ρ', h1.put h2 o.dst, hs⟩, Keeps.alloc _ _ _⟩
      · exact hs.elim
    | _ => rw [ho] at hk; cases hk
theorem step_okC (τ : Env) (G : Gam) (hE : EnvOk P τ) (hG : GOk P G) (h : Inv w0 F0 s a w I ρ) (hs : sat (stepOp Alg.std τ G o s) (fun _ s' => K s')) : o.wp P a w (fun a' w' => Post w0 F0 K a' w' ∧ (keepK o = true → Keeps (fun _ => False) w w')) Q := by
  by_cases hk : keepK o = true
  · exact Oper.wp_mono (fun a w hp => ⟨hp.1, fun _ => hp.2⟩) (keep_ok τ G hE hk h hs)
  · exact Oper.wp_mono (fun a w hp => ⟨hp, fun hh => absurd hh hk⟩) (step_ok τ G hE hG h hs)
/-- One that may come first yields its value in every world in which what was there is as it was. -/
theorem firstL_ok {ops : Array Oper} {l : List Bool} {i : Nat} (τ : Env) (G : Gam) (hE : EnvOk P τ) (hk : firstL τ ops l i o = true) (h : Inv w0 F0 s a w I ρ) (hs : sat (stepOp Alg.std τ G o s) (fun _ s' => K s')) :
    keepK o = true ∧ ∃ R : World → World → Prop, (∀ a b c, R a b → R b c → R a c) ∧ (∀ a, R a a) ∧ (∀ j oj, ops[j]? = some oj → j ≠ i → l.getD j true = false → (∀ e ∈ oj.after, Region.binds .any e = true → e.on ≠ i) → ∀ w w', (keepK oj = true → Keeps (fun _ => False) w w') → R w w') ∧
      Quiet P o a (R w) (fun a' => Post w0 F0 K a' w) := by
  unfold firstL at hk
  rw [Bool.or_eq_true] at hk
  rcases hk with hk | hk
  · refine ⟨?_, fun _ _ => True, fun _ _ _ _ _ => trivial, fun _ => trivial, fun _ _ _ _ _ _ _ _ _ => trivial, first_ok τ G hE hk h hs⟩
    unfold firstK at hk
    unfold keepK
    rw [Bool.or_eq_true] at hk ⊢
    rcases hk with hk | hk
    · exact .inl hk
    · right
      cases ho : o.op <;> rw [ho] at hk <;> first | rfl | cases hk
  · rw [Bool.and_eq_true] at hk
    obtain ⟨hk, hb⟩ := hk
    have hkk : keepK o = true := by
      unfold keepK
      rw [Bool.or_eq_true]
      right
      cases ho : o.op <;> rw [ho] at hk <;> first | rfl | cases hk
    refine ⟨hkk, Keeps (fun _ => False), fun _ _ _ h k => h.trans k, fun _ => Keeps.refl _ _, fun j oj hj hji hun hno w w' hh => hh ?_, ?_⟩
    · simp only [besideK, List.all_eq_true, List.mem_range] at hb
      have h1 := hb j (Array.getElem?_eq_some_iff.1 hj).1
      simp only [hj, Bool.or_eq_true, beq_iff_eq, hji, false_or, hun, Bool.false_eq_true] at h1
      rcases h1 with h1 | h1
      · obtain ⟨e, he, hb⟩ := Array.any_eq_true'.1 h1
        simp only [Bool.and_eq_true, beq_iff_eq] at hb
        exact absurd hb.2 (hno e he hb.1)
      · exact h1
    · cases ho : o.op with
      | load t x => exact ok_load τ G hE (fun _ h => h) h ho hs
      | convert t0 t x => exact ok_convert τ G hE (fun _ h => h) h ho hs
      | _ => rw [ho] at hk; cases hk

end
end Go.Vee

set_option linter.unusedSimpArgs false
set_option linter.unusedVariables false
namespace Go.Vee
open Go

theorem liveL_spec : ∀ {H : Heap} {k i r : Nat}, (liveL H k)[i]? = some r → ∃ j, r = k + j ∧ (hget H j).isSome = true
  | [], k, i, r, h => by simp [liveL] at h
  | none :: H, k, i, r, h => by
    simp only [liveL] at h
    obtain ⟨j, rfl, h2⟩ := liveL_spec h
    exact ⟨j + 1, by omega, by simpa [hget] using h2⟩
  | some o :: H, k, i, r, h => by
    simp only [liveL] at h
    cases i with
    | zero => simp at h; subst h; exact ⟨0, rfl, by simp [hget]⟩
    | succ i =>
      obtain ⟨j, rfl, h2⟩ := liveL_spec (by simpa using h)
      exact ⟨j + 1, by omega, by simpa [hget] using h2⟩
theorem liveL_nodup : ∀ (H : Heap) (k : Nat), (liveL H k).Nodup
  | [], k => by simp [liveL]
  | none :: H, k => by simp only [liveL]; exact liveL_nodup H (k + 1)
  | some o :: H, k => by
    simp only [liveL, List.nodup_cons]
    refine ⟨fun h => ?_, liveL_nodup H (k + 1)⟩
    obtain ⟨i, hi, he⟩ := List.getElem_of_mem h
    obtain ⟨j, h1, _⟩ := liveL_spec (H := H) (k := k + 1) (i := i) (r := k) (by simp [hi, he])
    omega
theorem posOf_spec : ∀ {L : List Nat} {r j k : Nat}, posOf L r j = some k → ∃ i, k = j + i ∧ L[i]? = some r
  | [], r, j, k, h => by simp [posOf] at h
  | x :: L, r, j, k, h => by
    simp only [posOf] at h
    split at h
    · rename_i e; cases h; subst e; exact ⟨0, rfl, rfl⟩
    · obtain ⟨i, rfl, h2⟩ := posOf_spec h
      exact ⟨i + 1, by omega, by simpa using h2⟩

def swH (L : List Nat) (H : Heap) : Heap := L.map fun r => rnR H L (H.getD r none)
def swρ (L : List Nat) (ρ : Nat → RC) : Nat → RC := fun k => ρ (L.getD k 0)
theorem swH_len (L : List Nat) (H : Heap) : (swH L H).length = L.length := by simp [swH]
theorem swH_get {L : List Nat} {H : Heap} {k : Nat} {o : Root} (h : hget (swH L H) k = some o) : ∃ r o0, L[k]? = some r ∧ hget H r = some o0 ∧ rnR H L (some o0) = some o := by
  rw [hget_some] at h
  simp only [swH, List.getElem?_map] at h
  cases hr : L[k]? with
  | none => simp [hr] at h
  | some r =>
    simp only [hr, Option.map_some, Option.some.injEq] at h
    cases ho : hget H r with
    | none => rw [show H.getD r none = none from ho] at h; simp [rnR] at h
    | some o0 => rw [show H.getD r none = some o0 from ho] at h; exact ⟨r, o0, rfl, ho, h⟩
theorem swρ_at {L : List Nat} {ρ : Nat → RC} {k r : Nat} (h : L[k]? = some r) : swρ L ρ k = ρ r := by
  simp [swρ, List.getD_eq_getElem?_getD, h]

section
variable {P : Program} {w0 w : World} {F0 : Bnd} {s : St} {a : Act} {I : Nat → Prop} {ρ : Nat → RC} {H : Heap} {L : List Nat}

theorem VR.rn1 {v : AV} {u : Value} (h : VR w I ρ H v u) : VR w I (swρ L ρ) (swH L H) (Vee.rn1 H L v) u := by
  cases h with
  | junk => exact .junk _
  | lb b => exact .lb b
  | dat t x cs h => exact .dat t x cs h
  | ref e r ver p lo n A c hr hn hnc h =>
    simp only [Vee.rn1]
    split
    · rename_i k hk
      obtain ⟨i, hi, hL⟩ := posOf_spec hk
      have : k = i := by omega
      subst this
      have hlt := (List.getElem?_eq_some_iff.1 hL).1
      split
      · rename_i v0 e0 m0 xs0 hg
        obtain ⟨h1, h2⟩ := h v0 e0 m0 xs0 hg
        have fin : (hops p = 0 ∨ v0 = ver) → VR w I (swρ L ρ) (swH L H) (.ref e k 0 p lo n) (.slice A n c) := fun hc => by
          refine .ref e k 0 p lo n A c (by rw [swH_len]; exact hlt) hn hnc fun v' e' m xs hg' => ⟨Nat.zero_le _, fun hc' => ?_⟩
          obtain ⟨r', o0, g1, g2, g3⟩ := swH_get hg'
          rw [hL] at g1
          cases g1
          rw [hg] at g2
          cases g2
          simp only [rnR, Option.some.injEq, Root.row.injEq] at g3
          obtain ⟨_, rfl, rfl, _⟩ := g3
          rw [swρ_at hL]
          exact h2 (hc'.elim .inl fun q => hc.elim .inl fun hv => .inr ⟨hv, q.2⟩)
        split
        · rename_i h0; exact fin (.inl h0)
        · split
          · rename_i hv; exact fin (.inr hv.symm)
          · exact .junk _
      · exact .junk _
    · exact .junk _
  | ptr r ver p b off hr h =>
    simp only [Vee.rn1]
    split
    · rename_i k hk
      obtain ⟨i, hi, hL⟩ := posOf_spec hk
      have : k = i := by omega
      subst this
      have hlt := (List.getElem?_eq_some_iff.1 hL).1
      split
      · rename_i v0 e0 m0 xs0 hg
        obtain ⟨h1, h2⟩ := h v0 e0 m0 xs0 hg
        have fin : (hops p - 1 = 0 ∨ v0 = ver) → VR w I (swρ L ρ) (swH L H) (.ptr k 0 p) (.pointer (some ⟨b, off, none⟩)) := fun hc => by
          refine .ptr k 0 p b off (by rw [swH_len]; exact hlt) fun v' e' m xs hg' => ⟨Nat.zero_le _, fun hc' => ?_⟩
          obtain ⟨r', o0, g1, g2, g3⟩ := swH_get hg'
          rw [hL] at g1
          cases g1
          rw [hg] at g2
          cases g2
          simp only [rnR, Option.some.injEq, Root.row.injEq] at g3
          obtain ⟨_, rfl, rfl, _⟩ := g3
          rw [swρ_at hL]
          exact h2 (hc'.elim .inl fun q => hc.elim .inl fun hv => .inr ⟨hv, q.2⟩)
        split
        · rename_i h0; exact fin (.inl h0)
        · split
          · rename_i hv; exact fin (.inr hv.symm)
          · exact .junk _
      · exact .junk _
    · exact .junk _
  | bptr r off hr =>
    simp only [Vee.rn1]
    split
    · rename_i k hk
      obtain ⟨i, hi, hL⟩ := posOf_spec hk
      have : k = i := by omega
      subst this
      have := VR.bptr (w := w) (I := I) (ρ := swρ L ρ) (H := swH L H) k off (by rw [swH_len]; exact (List.getElem?_eq_some_iff.1 hL).1)
      rwa [swρ_at hL] at this
    · exact .junk _
  | dptr t x b off arr et fr hb hi hs h => exact .dptr t x b off arr et fr hb hi hs h
  | nilS => exact .nilS
  | nilP => exact .nilP
  | agg vs => exact .junk _
  | tup vs => exact .junk _
  | clo f vs cs hl h =>
    cases vs with
    | nil => exact .clo f [] cs hl (by simp)
    | cons v vs => exact .junk _

theorem VR.rnV {v : AV} {u : Value} (h : VR w I ρ H v u) : VR w I (swρ L ρ) (swH L H) (Vee.rnV H L v) u := by
  have hh1 := h.rn1 (L := L)
  cases h with
  | agg vs cs hl h1 h =>
    refine .agg _ cs (by simpa using hl) h1 fun i v u hv hu => ?_
    rw [List.getElem?_map] at hv
    cases hvi : vs[i]? with
    | none => rw [hvi] at hv; cases hv
    | some v0 => rw [hvi] at hv; cases hv; exact (h i v0 u hvi hu).rn1
  | clo f vs cs hl h =>
    refine .clo f _ cs (by simpa using hl) fun i v u hv hu => ?_
    rw [List.getElem?_map] at hv
    cases hvi : vs[i]? with
    | none => rw [hvi] at hv; cases hv
    | some v0 => rw [hvi] at hv; cases hv; exact (h i v0 u hvi hu).rn1
  | _ => exact hh1

theorem Inv.sweepL (h : Inv w0 F0 s a w I ρ) (hn : L.Nodup) : Inv w0 F0 (Vee.sweepL L s) a w I (swρ L ρ) := by
  have hinj : ∀ k k' r, L[k]? = some r → L[k']? = some r → k = k' := fun k k' r h1 h2 => by
    obtain ⟨a1, b1⟩ := List.getElem?_eq_some_iff.1 h1
    obtain ⟨a2, b2⟩ := List.getElem?_eq_some_iff.1 h2
    exact (List.getElem_inj hn).1 (b1.trans b2.symm)
  have key : ∀ k o, hget (swH L s.H) k = some o → ∃ r o0, L[k]? = some r ∧ hget s.H r = some o0 ∧ rnR s.H L (some o0) = some o ∧ swρ L ρ k = ρ r ∧ tfp (swρ L ρ) k o = tfp ρ r o0 := fun k o hk => by
    obtain ⟨r, o0, g1, g2, g3⟩ := swH_get hk
    refine ⟨r, o0, g1, g2, g3, swρ_at g1, ?_⟩
    cases o0 <;> (simp only [rnR, Option.some.injEq] at g3; subst g3; simp [tfp, swρ_at g1])
  have hs : Vee.sweepL L s = ⟨s.fr.map (Vee.rnV s.H L), swH L s.H⟩ := rfl
  rw [hs]
  exact {
    defers := h.defers
    len := by simpa using h.len
    slots := fun i v hv => by
      rw [List.getElem?_map] at hv
      cases hvi : s.fr[i]? with
      | none => rw [hvi] at hv; cases hv
      | some v0 =>
        rw [hvi] at hv
        cases hv
        obtain ⟨u, h1, h2⟩ := h.slots i v0 hvi
        exact ⟨u, h1, h2.rnV⟩
    roots := fun k o hk => by
      obtain ⟨r, o0, g1, g2, g3, g4, g5⟩ := key k o hk
      have hok := h.roots r o0 g2
      cases o0 with
      | box cs =>
        simp only [rnR, Option.some.injEq] at g3
        subst g3
        obtain ⟨arr, et, h1, h2, h3⟩ := hok
        refine ⟨arr, et, by rw [g4]; exact h1, by rw [g4]; simpa using h2, fun i v hv => ?_⟩
        rw [List.getElem?_map] at hv
        cases hvi : cs[i]? with
        | none => rw [hvi] at hv; cases hv
        | some v0 =>
          rw [hvi] at hv
          cases hv
          obtain ⟨u, u1, u2, u3⟩ := h3 i v0 hvi
          exact ⟨u, by rw [g4]; exact u1, u2, u3.rn1⟩
      | row v e m xs =>
        simp only [rnR, Option.some.injEq] at g3
        subst g3
        simp only [RootOk, g4]
        exact hok
      | gh cs =>
        simp only [rnR, Option.some.injEq] at g3
        subst g3
        obtain ⟨us, h1, h2, h3⟩ := hok
        refine ⟨us, by rw [g4]; exact h1, by simpa using h2, fun i v u hv hu => ?_⟩
        rw [List.getElem?_map] at hv
        cases hvi : cs[i]? with
        | none => rw [hvi] at hv; cases hv
        | some v0 =>
          rw [hvi] at hv
          cases hv
          exact ⟨(h3 i v0 u hvi hu).1, (h3 i v0 u hvi hu).2.rn1⟩
    nodup := fun k o hk => by
      obtain ⟨r, o0, g1, g2, g3, g4, g5⟩ := key k o hk
      rw [g5]; exact h.nodup r o0 g2
    disj := fun k o k' o' hne hk hk' b hb hb' => by
      obtain ⟨r, o0, g1, g2, g3, g4, g5⟩ := key k o hk
      obtain ⟨r', o0', g1', g2', g3', g4', g5'⟩ := key k' o' hk'
      rw [g5] at hb
      rw [g5'] at hb'
      exact h.disj r o0 r' o0' (fun e => hne (hinj k k' r g1 (e ▸ g1'))) g2 g2' b hb hb'
    imm := h.imm
    immF := h.immF
    sep := fun k o hk b hb => by
      obtain ⟨r, o0, g1, g2, g3, g4, g5⟩ := key k o hk
      rw [g5] at hb
      exact h.sep r o0 g2 b hb
    os := h.os
    tape := h.tape
    output := h.output
    size := h.size
    frame := h.frame
    keep := fun k cs hk arr0 et0 fr0 hb0 => by
      obtain ⟨r, o0, g1, g2, g3, g4, g5⟩ := key k _ hk
      cases o0 with
      | box cs0 =>
        simp only [rnR, Option.some.injEq, Root.box.injEq] at g3
        subst g3
        rw [g4] at hb0 ⊢
        rw [List.length_map]
        exact h.keep r cs0 g2 arr0 et0 fr0 hb0
      | row => simp [rnR] at g3
      | gh => simp [rnR] at g3
    ghost := fun k cs hk => by
      obtain ⟨r, o0, g1, g2, g3, g4, g5⟩ := key k _ hk
      cases o0 with
      | gh cs0 => rw [g4]; exact h.ghost r cs0 g2
      | row => simp [rnR] at g3
      | box => simp [rnR] at g3 }

theorem Inv.sweep (h : Inv w0 F0 s a w I ρ) : Inv w0 F0 (Vee.sweep s) a w I (swρ (liveL s.H 0) ρ) := h.sweepL (liveL_nodup s.H 0)
theorem posOf_none : ∀ {L : List Nat} {r j : Nat}, posOf L r j = none → r ∉ L
  | [], r, j, _ => by simp
  | x :: L, r, j, h => by
    simp only [posOf] at h
    split at h
    · cases h
    · rename_i hx
      have := posOf_none h
      simp only [List.mem_cons, not_or]
      exact ⟨fun e => hx e.symm, this⟩
theorem nub_nodup : ∀ (l acc : List Nat), acc.Nodup → (nub l acc).Nodup
  | [], acc, h => h
  | r :: l, acc, h => by
    simp only [nub]
    split
    · exact nub_nodup l acc h
    · rename_i hp
      exact nub_nodup l _ (List.nodup_cons.2 ⟨posOf_none hp, h⟩)

theorem clrB_get : ∀ {k : List Bool} {fr : List AV} {i : Nat} {v : AV}, (clrB k fr)[i]? = some v → ∃ v0, fr[i]? = some v0 ∧ (v = v0 ∨ v = .junk)
  | [], [], i, v, h => ⟨v, h, .inl rfl⟩
  | [], x :: fr, i, v, h => ⟨v, h, .inl rfl⟩
  | b :: k, [], i, v, h => by simp [clrB] at h
  | b :: k, x :: fr, i, v, h => by
    cases i with
    | zero =>
      cases b <;> (simp [clrB] at h; subst h)
      · exact ⟨x, rfl, .inr rfl⟩
      · exact ⟨x, rfl, .inl rfl⟩
    | succ i =>
      obtain ⟨v0, h1, h2⟩ := clrB_get (k := k) (fr := fr) (i := i) (v := v) (by simpa [clrB] using h)
      exact ⟨v0, by simpa using h1, h2⟩
theorem clrB_len : ∀ {k : List Bool} {fr : List AV}, (clrB k fr).length = fr.length
  | [], fr => by cases fr <;> simp [clrB]
  | b :: k, [] => by simp [clrB]
  | b :: k, x :: fr => by simp [clrB, clrB_len]
theorem keepH_get {seen : List Nat} : ∀ {H : Heap} {n r : Nat} {o : Root}, hget (keepH seen n H) r = some o → hget H r = some o
  | [], n, r, o, h => by simp [keepH, hget] at h
  | x :: H, n, r, o, h => by
    cases r with
    | zero =>
      match x with
      | some (.gh cs) => simpa [keepH, hget] using h
      | some (.box cs) =>
        simp only [keepH, hget, List.getD_cons_zero] at h ⊢
        split at h
        · exact h
        · cases h
      | some (.row v e m xs) =>
        simp only [keepH, hget, List.getD_cons_zero] at h ⊢
        split at h
        · exact h
        · cases h
      | none =>
        simp only [keepH, hget, List.getD_cons_zero] at h
        split at h <;> cases h
    | succ r =>
      have key : hget (keepH seen n (x :: H)) (r + 1) = hget (keepH seen (n + 1) H) r := by
        match x with
        | some (.gh cs) => simp [keepH, hget]
        | some (.box cs) => simp [keepH, hget]
        | some (.row v e m xs) => simp [keepH, hget]
        | none => simp [keepH, hget]
      rw [key] at h
      have := keepH_get h
      simpa [hget] using this
theorem keepH_len {seen : List Nat} : ∀ {H : Heap} {n : Nat}, (keepH seen n H).length = H.length
  | [], n => rfl
  | x :: H, n => by
    match x with
    | some (.gh cs) => simp [keepH, keepH_len]
    | some (.box cs) => simp [keepH, keepH_len]
    | some (.row v e m xs) => simp [keepH, keepH_len]
    | none => simp [keepH, keepH_len]
theorem Inv.gc (h : Inv w0 F0 s a w I ρ) : Inv w0 F0 (gcS s) a w I ρ := h.sub (fun _ _ hr => keepH_get hr) (by rw [keepH_len]; exact Nat.le_refl _)
theorem Inv.clr (h : Inv w0 F0 s a w I ρ) (k : List Bool) : Inv w0 F0 ⟨clrB k s.fr, s.H⟩ a w I ρ := by
  have h1 : Inv w0 F0 ⟨clrB k s.fr, s.H⟩ a w I ρ := { h with
    len := by simpa [clrB_len] using h.len
    slots := fun i v hv => by
      obtain ⟨v0, g1, g2⟩ := clrB_get hv
      obtain ⟨u, u1, u2⟩ := h.slots i v0 g1
      rcases g2 with rfl | rfl
      · exact ⟨u, u1, u2⟩
      · exact ⟨u, u1, .junk _⟩
    roots := h.roots
    nodup := h.nodup
    disj := h.disj
    sep := h.sep
    keep := h.keep
    ghost := h.ghost }
  exact h1
theorem Inv.join (h : Inv w0 F0 s a w I ρ) (k : List Bool) : ∃ ρ', Inv w0 F0 (joinS k s) a w I ρ' := ⟨_, (h.clr k).sweepL (nub_nodup _ _ List.nodup_nil)⟩

end
end Go.Vee

set_option linter.unusedSimpArgs false
set_option linter.unusedVariables false
namespace Go.Vee
open Go

section
variable {P : Program} {w0 w : World} {F0 : Bnd} {s : St} {a : Act} {I : Nat → Prop} {ρ : Nat → RC} {H : Heap}

/-- Roots of one kind. -/
def likeR : Root → Root → Prop
  | .box cs, .box ds => cs.length = ds.length
  | .row _ e m xs, .row _ e' m' xs' => e = e' ∧ m = m'
  | .gh cs, .gh ds => cs.length = ds.length
  | _, _ => False

/-- The same memory, seen otherwise. -/
theorem Inv.recast (h : Inv w0 F0 s a w I ρ) {s' : St} {J : Nat → Prop} (hlen : s'.fr.length = s.fr.length) (hJ : ∀ b, J b → b < w.heap.size ∧ (w0.heap.size ≤ b ∨ F0.rd b ∨ F0.wr b))
    (slots : ∀ (i : Nat) (v : AV), s'.fr[i]? = some v → ∃ u, a.tmps[i]? = some u ∧ VR w J ρ s'.H v u)
    (roots : ∀ k o, hget s'.H k = some o → ∃ o0, hget s.H k = some o0 ∧ likeR o0 o ∧ RootOk w J ρ s'.H k o ∧ ∀ b ∈ tfp ρ k o, ¬ J b) : Inv w0 F0 s' a w J ρ := by
  have htfp : ∀ {o0 o : Root} {k : Nat}, likeR o0 o → tfp ρ k o = tfp ρ k o0 := fun {o0 o k} hl => by
    cases o0 <;> cases o <;> first | rfl | exact hl.elim
  exact {
    defers := h.defers
    len := h.len.trans hlen.symm
    slots := slots
    roots := fun k o hk => by obtain ⟨o0, h1, h2, h3, h4⟩ := roots k o hk; exact h3
    nodup := fun k o hk => by obtain ⟨o0, h1, h2, h3, h4⟩ := roots k o hk; rw [htfp h2]; exact h.nodup k o0 h1
    disj := fun k o k' o' hne hk hk' b hb hb' => by
      obtain ⟨o0, h1, h2, h3, h4⟩ := roots k o hk
      obtain ⟨o0', h1', h2', h3', h4'⟩ := roots k' o' hk'
      rw [htfp h2] at hb
      rw [htfp h2'] at hb'
      exact h.disj k o0 k' o0' hne h1 h1' b hb hb'
    imm := fun b hb => (hJ b hb).1
    immF := fun b hb => (hJ b hb).2
    sep := fun k o hk b hb => by
      obtain ⟨o0, h1, h2, h3, h4⟩ := roots k o hk
      refine ⟨h4 b hb, ?_⟩
      rw [htfp h2] at hb
      exact (h.sep k o0 h1 b hb).2
    os := h.os
    tape := h.tape
    output := h.output
    size := h.size
    frame := h.frame
    keep := fun k cs hk arr0 et0 fr0 hb0 => by
      obtain ⟨o0, h1, h2, h3, h4⟩ := roots k _ hk
      cases o0 with
      | box cs0 =>
        have : cs0.length = cs.length := h2
        rw [← this]
        exact h.keep k cs0 h1 arr0 et0 fr0 hb0
      | row => exact h2.elim
      | gh => exact h2.elim
    ghost := fun k cs hk => by
      obtain ⟨o0, h1, h2, h3, h4⟩ := roots k _ hk
      cases o0 with
      | gh cs0 => exact h.ghost k cs0 h1
      | row => exact h2.elim
      | box => exact h2.elim }

theorem hget_map {f : Root → Root} {k : Nat} : hget (H.map fun o => o.map f) k = (hget H k).map f := by
  unfold hget
  simp only [List.getD_eq_getElem?_getD, List.getElem?_map]
  cases H[k]? with
  | none => rfl
  | some o => rfl

/-- A row is given up as shared. -/
theorem Inv.fz (h : Inv w0 F0 s a w I ρ) (r : Nat) : ∃ J, Inv w0 F0 (fzS Alg.std r s) a w J ρ := by
  unfold fzS
  split
  rotate_left
  · exact ⟨I, h⟩
  rename_i v e m xs hr
  have hsep := h.sep r _ hr
  have key : ∀ k o, hget ((s.H.map fun o => o.map (fzR Alg.std s.H r)).set r none) k = some o → k ≠ r ∧ ∃ o0, hget s.H k = some o0 ∧ o = fzR Alg.std s.H r o0 := fun k o hk => by
    rw [hget_set_none] at hk
    split at hk
    · cases hk
    · rename_i hne
      rw [hget_map] at hk
      cases h0 : hget s.H k with
      | none => rw [h0] at hk; cases hk
      | some o0 => rw [h0] at hk; exact ⟨hne, o0, rfl, by simpa [eq_comm] using hk⟩
  have E : Ext w w I (fun b => I b ∨ b ∈ (ρ r).fp) ρ ρ s.H ((s.H.map fun o => o.map (fzR Alg.std s.H r)).set r none) := by
    refine ⟨fun _ _ => rfl, fun _ h => .inl h, by simp, fun _ _ => ⟨rfl, rfl, rfl⟩, fun k hk v' e' m' xs' hg => ?_⟩
    obtain ⟨_, o0, h0, he⟩ := key k _ hg
    cases o0 with
    | row v0 e0 m0 xs0 => cases he; exact ⟨v', m', xs', h0, RowStep.refl⟩
    | box => cases he
    | gh => cases he
  have f1 : ∀ {x : AV} {u : Value}, VR w I ρ s.H x u → VR w (fun b => I b ∨ b ∈ (ρ r).fp) ρ ((s.H.map fun o => o.map (fzR Alg.std s.H r)).set r none) (fz1 Alg.std s.H r x) u := fun {x u} hx => by
    cases x with
    | ref e' r' ver p lo n =>
      simp only [fz1]
      split
      · rename_i hrr
        subst hrr
        split
        · rename_i m1 y hrd
          obtain ⟨A, c, B, c0, l, fp', e1, m', xs', v', rfl, hnc, hg, hle, hver, hw, q1, q2, q3, hown, hsub, hget0⟩ := h.ref hx hrd
          have h1 : Own w (fun b => I b ∨ b ∈ (ρ r').fp) (.sl e') (.ow m1) [.slice B y.length c0] y fp' := Own.frame (fun _ _ => rfl) (fun _ h => .inl h) hown (fun _ _ => rfl)
          exact VR.dat (.sl e') _ [.slice A n c] ((h1.share (by simpa [okM] using (readRef_0 hrd).2) fun b hb => .inr (hsub b hb)).cut q1 hnc q2)
        · exact .junk _
      · exact hx.ext E
    | ptr r' ver p =>
      simp only [fz1]
      split
      · exact .junk _
      · exact hx.ext E
    | clo f vs =>
      cases vs with
      | nil => exact hx.ext E
      | cons _ _ => exact .junk _
    | agg vs => exact .junk _
    | tup vs => exact .junk _
    | junk => exact hx.ext E
    | lb b => exact hx.ext E
    | dat t y => exact hx.ext E
    | bptr r' off => exact hx.ext E
    | dptr t y => exact hx.ext E
    | nilS => exact hx.ext E
    | nilP => exact hx.ext E
    | mv t m y => exact hx.ext E
    | mp t m y => exact hx.ext E
  have fV : ∀ {x : AV} {u : Value}, VR w I ρ s.H x u → VR w (fun b => I b ∨ b ∈ (ρ r).fp) ρ ((s.H.map fun o => o.map (fzR Alg.std s.H r)).set r none) (fzV Alg.std s.H r x) u := fun {x u} hx => by
    have g1 := f1 hx
    cases hx with
    | agg vs cs hl h1 hc =>
      refine .agg _ cs (by simpa using hl) h1 fun i v u hv hu => ?_
      rw [List.getElem?_map] at hv
      cases hvi : vs[i]? with
      | none => rw [hvi] at hv; cases hv
      | some v0 => rw [hvi] at hv; cases hv; exact f1 (hc i v0 u hvi hu)
    | tup vs cs hl hc =>
      refine .tup _ cs (by simpa using hl) fun i v u hv hu => ?_
      rw [List.getElem?_map] at hv
      cases hvi : vs[i]? with
      | none => rw [hvi] at hv; cases hv
      | some v0 => rw [hvi] at hv; cases hv; exact f1 (hc i v0 u hvi hu)
    | clo f vs cs hl hc =>
      refine .clo f _ cs (by simpa using hl) fun i v u hv hu => ?_
      rw [List.getElem?_map] at hv
      cases hvi : vs[i]? with
      | none => rw [hvi] at hv; cases hv
      | some v0 => rw [hvi] at hv; cases hv; exact f1 (hc i v0 u hvi hu)
    | _ => exact g1
  refine ⟨fun b => I b ∨ b ∈ (ρ r).fp, h.recast (by simp) (fun b hb => ?_) (fun i x hx => ?_) (fun k o hk => ?_)⟩
  · rcases hb with hb | hb
    · exact ⟨h.imm b hb, h.immF b hb⟩
    · have := hsep b (by simpa [tfp] using hb)
      exact ⟨this.2.1, this.2.2.imp id .inr⟩
  · rw [List.getElem?_map] at hx
    cases hxi : s.fr[i]? with
    | none => rw [hxi] at hx; cases hx
    | some x0 =>
      rw [hxi] at hx
      cases hx
      obtain ⟨u, u1, u2⟩ := h.slots i x0 hxi
      exact ⟨u, u1, fV u2⟩
  · obtain ⟨hne, o0, h0, rfl⟩ := key k o hk
    have hok := h.roots k o0 h0
    refine ⟨o0, h0, ?_, ?_, fun b hb hj => ?_⟩
    · cases o0 <;> simp [likeR, fzR]
    · cases o0 with
      | box cs =>
        obtain ⟨arr, et, h1, h2, h3⟩ := hok
        refine ⟨arr, et, h1, by simpa using h2, fun i x hx => ?_⟩
        rw [List.getElem?_map] at hx
        cases hxi : cs[i]? with
        | none => rw [hxi] at hx; cases hx
        | some x0 =>
          rw [hxi] at hx
          cases hx
          obtain ⟨u, u1, u2, u3⟩ := h3 i x0 hxi
          exact ⟨u, u1, u2, f1 u3⟩
      | row v0 e0 m0 xs0 => exact Own.frame (fun _ _ => rfl) (fun _ h => .inl h) hok (fun _ _ => rfl)
      | gh cs =>
        obtain ⟨us, h1, h2, h3⟩ := hok
        refine ⟨us, h1, by simpa using h2, fun i x u hx hu => ?_⟩
        rw [List.getElem?_map] at hx
        cases hxi : cs[i]? with
        | none => rw [hxi] at hx; cases hx
        | some x0 =>
          rw [hxi] at hx
          cases hx
          exact ⟨(h3 i x0 u hxi hu).1, f1 (h3 i x0 u hxi hu).2⟩
    · have hb' : b ∈ tfp ρ k o0 := by
        cases o0 with
        | gh cs => simp [tfp, fzR] at hb
        | box cs => simpa [tfp, fzR] using hb
        | row v0 e0 m0 xs0 => simpa [tfp, fzR] using hb
      rcases hj with hj | hj
      · exact (h.sep k o0 h0 b hb').1 hj
      · exact h.disj k o0 r _ hne h0 hr b hb' (by simpa [tfp] using hj)

theorem Inv.fzL : ∀ (l : List Nat) {s : St} {I : Nat → Prop}, Inv w0 F0 s a w I ρ → ∃ J, Inv w0 F0 (Vee.fzL Alg.std l s) a w J ρ
  | [], s, I, h => ⟨I, h⟩
  | r :: l, s, I, h => by
    obtain ⟨J, h1⟩ := h.fz r
    exact Inv.fzL l h1

theorem Inv.preC (h : Inv w0 F0 s a w I ρ) (τ : Env) (G : Gam) (f : AV) (os : List Operand) (ts : List TypeId) : ∃ J, Inv w0 F0 (Vee.preC Alg.std τ G f os ts s) a w J ρ := by
  unfold Vee.preC
  repeat' split
  all_goals first | exact ⟨I, h⟩ | exact Inv.fzL _ h
theorem Inv.preS (h : Inv w0 F0 s a w I ρ) (τ : Env) (G : Gam) (o : Oper) : ∃ J, Inv w0 F0 (Vee.preS Alg.std τ G o s) a w J ρ := by
  unfold Vee.preS
  repeat' split
  all_goals first | exact ⟨I, h⟩ | exact h.preC _ _ _ _ _
theorem preS_first {τ : Env} {G : Gam} {ops : Array Oper} {l : List Bool} {i : Nat} {o : Oper} (hk : firstL τ ops l i o = true) (s : St) : Vee.preS Alg.std τ G o s = s := by
  unfold Vee.preS
  split
  · rename_i c ho
    split
    · rename_i f hc
      simp [firstL, firstK, pureK, ho, hc] at hk
    · rfl
  · rfl
theorem Inv.exitZ (h : Inv w0 F0 s a w I ρ) (τ : Env) (vs : List ResultVar) (al : List AV) (r : Ret) : ∃ J, Inv w0 F0 (Vee.exitZ Alg.std τ s vs al r) a w J ρ := by
  unfold Vee.exitZ
  split
  · exact Inv.fzL _ h
  · split
    · exact ⟨I, h⟩
    · exact Inv.fzL _ h

theorem weakM_ok : ∀ {t : Ty} {m m' : Md}, weakM t m m' = true → okM t m' = true → okM t m = true
  | .int _, _, _, _, _ => rfl
  | .bool, _, _, _, _ => rfl
  | .str, _, _, _, _ => rfl
  | .unit, _, _, _, _ => rfl
  | .sl e, m, m', hw, ho => by
    simp only [weakM, Bool.or_eq_true, Bool.and_eq_true, decide_eq_true_eq] at hw
    rcases hw with rfl | ⟨rfl, rfl⟩
    · exact ho
    · simp [okM] at ho
  | .pair a b, m, m', hw, ho => by
    simp only [weakM, okM, Bool.and_eq_true] at hw ho ⊢
    exact ⟨weakM_ok hw.1 ho.1, weakM_ok hw.2 ho.2⟩
theorem Own.weakRow {e : Ty} {m m' : Md} {cs : List Value} {xs : List e.den} {fp : List Nat} (hw : weakM e m m' = true) (h : Own w I (.sl e) (.ow m) cs xs fp) (hn : fp.Nodup) :
    ∃ fp', Own w I (.sl e) (.ow m') cs xs fp' ∧ fp'.Nodup ∧ ∀ b ∈ fp', b ∈ fp := by
  rcases h.2 with ⟨rfl, rfl, rfl⟩ | ⟨b, c, arr, et, fps, rfl, hb, h1, h2, h3, h4, rfl, hel⟩
  · exact ⟨[], ⟨h.1, .inl ⟨rfl, rfl, rfl⟩⟩, by simp, by simp⟩
  · rw [List.nodup_cons] at hn
    obtain ⟨hb1, hnf⟩ := hn
    obtain ⟨hnj, hdj⟩ := nodup_flatten.1 hnf
    have hex : ∀ j, ∃ f, (∀ hj : j < xs.length, Own w I e m' (seg arr (j * e.sz) e.sz) (xs[j]'hj) f) ∧ f.Nodup ∧ ∀ b ∈ f, b ∈ fps.getD j [] := fun j => by
      by_cases hj : j < xs.length
      · obtain ⟨f, k1, k2, k3⟩ := Own.weak hw (hel j hj) (hnj j)
        exact ⟨f, fun _ => k1, k2, k3⟩
      · exact ⟨[], fun h => absurd h hj, by simp, by simp⟩
    let F := fun j => Classical.choose (hex j)
    have hF := fun j => Classical.choose_spec (hex j)
    have hg : ∀ j, ((List.range xs.length).map F).getD j [] = if j < xs.length then F j else [] := fun j => by
      by_cases hj : j < xs.length
      · simp [List.getD_eq_getElem?_getD, hj]
      · simp [List.getD_eq_getElem?_getD, hj]
    have hs : ∀ j q, q ∈ ((List.range xs.length).map F).getD j [] → q ∈ fps.getD j [] := fun j q hq => by
      rw [hg] at hq
      split at hq
      · exact (hF j).2.2 q hq
      · simp at hq
    refine ⟨b :: ((List.range xs.length).map F).flatten, ⟨h.1, .inr ⟨b, c, arr, et, (List.range xs.length).map F, rfl, hb, h1, h2, h3, by simp, rfl, fun j hj => ?_⟩⟩, ?_, ?_⟩
    · rw [hg, if_pos hj]; exact (hF j).1 hj
    · rw [List.nodup_cons]
      refine ⟨fun hh => ?_, nodup_flatten.2 ⟨fun j => ?_, fun j k hjk q hq hq2 => hdj j k hjk q (hs j q hq) (hs k q hq2)⟩⟩
      · obtain ⟨j, hj⟩ := mem_flatten_getD.1 hh
        exact hb1 (mem_flatten_getD.2 ⟨j, hs j _ hj⟩)
      · rw [hg]
        split
        · exact (hF j).2.1
        · simp
    · intro q hq
      rcases List.mem_cons.1 hq with rfl | hq
      · simp
      · obtain ⟨j, hj⟩ := mem_flatten_getD.1 hq
        exact List.mem_cons_of_mem _ (mem_flatten_getD.2 ⟨j, hs j q hj⟩)
/-- A row whose elements' slices may go from now on. -/
theorem Inv.modeRow (h : Inv w0 F0 s a w I ρ) {r v : Nat} {e : Ty} {m m' : Md} {xs : List e.den} (hr : hget s.H r = some (.row v e m xs))
    (hO : ∀ cs fp, Own w I (.sl e) (.ow m) cs xs fp → fp.Nodup → ∃ fp', Own w I (.sl e) (.ow m') cs xs fp' ∧ fp'.Nodup ∧ ∀ b ∈ fp', b ∈ fp) (hk : okM e m' = true → okM e m = true) :
    ∃ ρ', Inv w0 F0 ⟨s.fr, s.H.set r (some (.row v e m' xs))⟩ a w I ρ' := by
  have hrl := hget_lt hr
  have hok : Own w I (.sl e) (.ow m) [(ρ r).hdr] xs (ρ r).fp := h.roots r _ hr
  obtain ⟨fp3, g1, g2, g3⟩ := hO _ _ hok (h.nodup r _ hr)
  have hup : ∀ k, k ≠ r → upd ρ r ⟨(ρ r).b, (ρ r).off, (ρ r).hdr, fp3⟩ k = ρ k := fun k hk => by simp [upd, hk]
  have hur : upd ρ r ⟨(ρ r).b, (ρ r).off, (ρ r).hdr, fp3⟩ r = ⟨(ρ r).b, (ρ r).off, (ρ r).hdr, fp3⟩ := by simp [upd]
  have E : Ext w w I I ρ (upd ρ r ⟨(ρ r).b, (ρ r).off, (ρ r).hdr, fp3⟩) s.H (s.H.set r (some (.row v e m' xs))) := by
    refine ⟨fun _ _ => rfl, fun _ h => h, by simp, fun k hk => ?_, fun r' hr' v' e' m1 xs' hg' => ?_⟩
    · by_cases hkr : k = r
      · subst hkr; rw [hur]; exact ⟨rfl, rfl, rfl⟩
      · rw [hup k hkr]; exact ⟨rfl, rfl, rfl⟩
    · rw [hget_set hrl] at hg'
      split at hg'
      · rename_i hrr
        subst hrr
        cases hg'
        exact ⟨v, _, xs, hr, Nat.le_refl _, hk, .inl fun p r h => h⟩
      · exact ⟨v', m1, xs', hg', RowStep.refl⟩
  have cases2 : ∀ r' o, hget (s.H.set r (some (.row v e m' xs))) r' = some o → (r' = r ∧ o = .row v e m' xs) ∨ (r' ≠ r ∧ hget s.H r' = some o) := fun r' o hr' => by
    rw [hget_set hrl] at hr'
    split at hr'
    · rename_i e1; cases hr'; exact .inl ⟨e1, rfl⟩
    · rename_i e1; exact .inr ⟨e1, hr'⟩
  have htfp : ∀ r' o, r' ≠ r → hget s.H r' = some o → tfp (upd ρ r ⟨(ρ r).b, (ρ r).off, (ρ r).hdr, fp3⟩) r' o = tfp ρ r' o := fun r' o hne hr' => tfp_ext E (hget_lt hr') (by rw [hup r' hne])
  have hin : ∀ k ∈ fp3, k ∈ tfp ρ r (.row v e m xs) := fun k hk => g3 k hk
  refine ⟨upd ρ r ⟨(ρ r).b, (ρ r).off, (ρ r).hdr, fp3⟩, ?_⟩
  exact { h with
    slots := fun i v hv => let ⟨u, h1, h2⟩ := h.slots i v hv; ⟨u, h1, h2.ext E⟩
    roots := fun r' o hr' => by
      rcases cases2 r' o hr' with ⟨rfl, rfl⟩ | ⟨hne, hr2⟩
      · simp only [RootOk, hur]; exact g1
      · exact (h.roots r' o hr2).ext E (hget_lt hr2) (by rw [hup r' hne]) (fun _ _ => rfl)
    nodup := fun r' o hr' => by
      rcases cases2 r' o hr' with ⟨rfl, rfl⟩ | ⟨hne, hr2⟩
      · simpa [tfp, hur] using g2
      · rw [htfp r' o hne hr2]; exact h.nodup r' o hr2
    disj := fun r1 o1 r2 o2 hne hr1 hr2 b hb1 hb2 => by
      rcases cases2 r1 o1 hr1 with ⟨rfl, rfl⟩ | ⟨hne1, hr1'⟩
      · rcases cases2 r2 o2 hr2 with ⟨rfl, rfl⟩ | ⟨hne2, hr2'⟩
        · exact hne rfl
        · rw [htfp _ _ hne2 hr2'] at hb2
          exact h.disj _ _ _ _ hne hr hr2' b (hin b (by simpa [tfp, hur] using hb1)) hb2
      · rw [htfp _ _ hne1 hr1'] at hb1
        rcases cases2 r2 o2 hr2 with ⟨rfl, rfl⟩ | ⟨hne2, hr2'⟩
        · exact h.disj _ _ _ _ hne hr1' hr b hb1 (hin b (by simpa [tfp, hur] using hb2))
        · rw [htfp _ _ hne2 hr2'] at hb2
          exact h.disj _ _ _ _ hne hr1' hr2' b hb1 hb2
    sep := fun r' o hr' b hb' => by
      rcases cases2 r' o hr' with ⟨rfl, rfl⟩ | ⟨hne, hr2⟩
      · exact h.sep _ _ hr b (hin b (by simpa [tfp, hur] using hb'))
      · rw [htfp _ _ hne hr2] at hb'
        exact h.sep r' o hr2 b hb'
    keep := fun r' cs' hr' arr0 et0 fr0 hb0 => by
      rcases cases2 r' _ hr' with ⟨rfl, e⟩ | ⟨hne, hr2⟩
      · cases e
      · rw [hup r' hne] at hb0 ⊢
        exact h.keep r' cs' hr2 arr0 et0 fr0 hb0
    ghost := fun r' cs' hr' => by
      rcases cases2 r' _ hr' with ⟨rfl, e⟩ | ⟨hne, hr2⟩
      · cases e
      · rw [hup r' hne]
        exact h.ghost r' cs' hr2 }
theorem Inv.weakRow (h : Inv w0 F0 s a w I ρ) {r v : Nat} {e : Ty} {m m' : Md} {xs : List e.den} (hr : hget s.H r = some (.row v e m xs)) (hw : weakM e m m' = true) :
    ∃ ρ', Inv w0 F0 ⟨s.fr, s.H.set r (some (.row v e m' xs))⟩ a w I ρ' := h.modeRow hr (fun _ _ ho hn => ho.weakRow hw hn) (weakM_ok hw)
theorem Inv.emptyRow (h : Inv w0 F0 s a w I ρ) {r v : Nat} {e : Ty} {m m' : Md} (hr : hget s.H r = some (.row v e m [])) (hw : okM e m = true) :
    ∃ ρ', Inv w0 F0 ⟨s.fr, s.H.set r (some (.row v e m' []))⟩ a w I ρ' := h.modeRow hr (fun cs fp ho hn => by
      rcases ho.2 with ⟨rfl, _, rfl⟩ | ⟨b, c, arr, et, fps, h0, hb, h1, h2, h3, h4, h5, hel⟩
      · exact ⟨[], ⟨ho.1, .inl ⟨rfl, rfl, rfl⟩⟩, by simp, by simp⟩
      · exact ⟨fp, ⟨ho.1, .inr ⟨b, c, arr, et, fps, h0, hb, h1, h2, h3, h4, h5, fun j hj => absurd hj (by simp)⟩⟩, hn, fun _ h => h⟩) (fun _ => hw)
theorem Inv.weakR (h : Inv w0 F0 s a w I ρ) (m' : Md) (r : Nat) : ∃ ρ', Inv w0 F0 ⟨s.fr, Vee.weakR m' r s.H⟩ a w I ρ' := by
  unfold Vee.weakR
  split
  · rename_i v e m xs hr
    split
    · rename_i hw
      exact h.weakRow hr hw
    · split
      · split
        · rename_i hm
          exact h.emptyRow hr hm
        · exact ⟨ρ, h⟩
      · exact ⟨ρ, h⟩
  · exact ⟨ρ, h⟩

/-- nil counts as an empty row. -/
theorem Inv.lift0 (h : Inv w0 F0 s a w I ρ) (q : Nat × Option Nat × Ty × Md) : ∃ ρ', Inv w0 F0 (Vee.lift0 q s) a w I ρ' := by
  obtain ⟨j, ok, e, m⟩ := q
  have hadd := h.add (.row 0 e m []) ⟨0, 0, .slice none 0 0, []⟩ (by
    simp only [RootOk, upd, if_true]
    exact ⟨Nat.zero_le _, .inl ⟨rfl, rfl, rfl⟩⟩) (by simp [tfp, upd]) (fun b hb => by simp [tfp, upd] at hb) (fun _ hh => by cases hh) (fun _ hh => by cases hh)
  have hnew : VR w I (upd ρ s.H.length ⟨0, 0, .slice none 0 0, []⟩) (s.H ++ [some (.row 0 e m [])]) (.ref e s.H.length 0 [] 0 0) (.slice none 0 0) := by
    refine .ref e s.H.length 0 [] 0 0 none 0 (by simp) (by omega) (Nat.le_refl _) fun v' e' m' xs' hg => ?_
    rw [hget_app, if_pos rfl] at hg
    cases hg
    exact ⟨Nat.le_refl _, fun _ => ⟨none, 0, 0, none, by simp [walk, upd], by omega, fun h => by omega, fun _ => ⟨rfl, rfl⟩⟩⟩
  have nilv : ∀ {w1 : World} {I1 : Nat → Prop} {ρ1 : Nat → RC} {H1 : Heap} {u : Value}, VR w1 I1 ρ1 H1 .nilS u → u = .slice none 0 0 := fun h => by cases h; rfl
  unfold Vee.lift0
  split
  · simp only
    split
    · rename_i hn
      refine ⟨_, hadd.recast (s' := ⟨s.fr.set j (.ref e s.H.length 0 [] 0 0), s.H ++ [some (.row 0 e m [])]⟩) (by simp) (fun b hb => ⟨h.imm b hb, h.immF b hb⟩) (fun i x hx => ?_) (fun k o hk => ?_)⟩
      · simp only [List.getElem?_set] at hx
        split at hx
        · rename_i hji
          subst hji
          split at hx
          · rename_i hlt
            cases hx
            obtain ⟨u, u1, u2⟩ := h.slots j s.fr[j] (by simp [hlt])
            have : s.fr[j] = .nilS := by simpa [List.getD_eq_getElem?_getD, hlt] using hn
            rw [this] at u2
            exact ⟨u, u1, by rw [nilv u2]; exact hnew⟩
          · cases hx
        · exact hadd.slots i x hx
      · refine ⟨o, hk, ?_, hadd.roots k o hk, fun b hb => (hadd.sep k o hk b hb).1⟩
        cases o <;> simp [likeR]
    · exact h.weakR _ _
    · rename_i b0 hb0
      refine ⟨ρ, h.recast (s' := ⟨s.fr.set j (.dat .bool b0), s.H⟩) (by simp) (fun b hb => ⟨h.imm b hb, h.immF b hb⟩) (fun i x hx => ?_) (fun k o hk => ?_)⟩
      · simp only [List.getElem?_set] at hx
        split at hx
        · rename_i hji
          subst hji
          split at hx
          · rename_i hlt
            cases hx
            obtain ⟨u, u1, u2⟩ := h.slots j s.fr[j] (by simp [hlt])
            have : s.fr[j] = .lb b0 := by simpa [List.getD_eq_getElem?_getD, hlt] using hb0
            rw [this] at u2
            exact ⟨u, u1, by rw [lb_dat u2]; exact VR.bool⟩
          · cases hx
        · exact h.slots i x hx
      · refine ⟨o, hk, ?_, h.roots k o hk, fun b hb => (h.sep k o hk b hb).1⟩
        cases o <;> simp [likeR]
    · exact ⟨ρ, h⟩
  · rename_i k0 hk0
    simp only at hk0
    split
    · rename_i r off hr
      split
      · rename_i cs hcs
        split
        · rename_i hn
          have hrl := hget_lt hcs
          have hlt : off + k0 < cs.length := by
            rcases Nat.lt_or_ge (off + k0) cs.length with h | h
            · exact h
            · simp [List.getD_eq_getElem?_getD, List.getElem?_eq_none h] at hn
          have hH : ∀ k o, hget ((s.H ++ [some (Root.row 0 e m [])]).set r (some (.box (cs.set (off + k0) (.ref e s.H.length 0 [] 0 0))))) k = some o →
              (k = r ∧ o = .box (cs.set (off + k0) (.ref e s.H.length 0 [] 0 0))) ∨ (k ≠ r ∧ hget (s.H ++ [some (Root.row 0 e m [])]) k = some o) := fun k o hk => by
            rw [hget_set (by simp; omega)] at hk
            split at hk
            · rename_i e1; cases hk; exact .inl ⟨e1, rfl⟩
            · rename_i e1; exact .inr ⟨e1, hk⟩
          have hcs' : hget (s.H ++ [some (Root.row 0 e m [])]) r = some (.box cs) := by
            rw [hget_app, if_neg (by omega)]; exact hcs
          have E : Ext w w I I (upd ρ s.H.length ⟨0, 0, .slice none 0 0, []⟩) (upd ρ s.H.length ⟨0, 0, .slice none 0 0, []⟩) (s.H ++ [some (Root.row 0 e m [])]) ((s.H ++ [some (Root.row 0 e m [])]).set r (some (.box (cs.set (off + k0) (.ref e s.H.length 0 [] 0 0))))) :=
            ⟨fun _ _ => rfl, fun _ h => h, by simp, fun _ _ => ⟨rfl, rfl, rfl⟩, fun k _ v' e' m' xs' hg => by
              rcases hH k _ hg with ⟨_, he⟩ | ⟨_, hg'⟩
              · cases he
              · exact ⟨v', m', xs', hg', RowStep.refl⟩⟩
          refine ⟨_, hadd.recast (s' := ⟨s.fr, (s.H ++ [some (Root.row 0 e m [])]).set r (some (.box (cs.set (off + k0) (.ref e s.H.length 0 [] 0 0))))⟩) rfl (fun b hb => ⟨h.imm b hb, h.immF b hb⟩) (fun i x hx => ?_) (fun k o hk => ?_)⟩
          · obtain ⟨u, u1, u2⟩ := hadd.slots i x hx
            exact ⟨u, u1, u2.ext E⟩
          · rcases hH k o hk with ⟨rfl, rfl⟩ | ⟨hne, hk'⟩
            · refine ⟨.box cs, hcs', by simp [likeR], ?_, fun b hb => (hadd.sep k _ hcs' b hb).1⟩
              obtain ⟨arr, et, h1, h2, h3⟩ := hadd.roots k _ hcs'
              refine ⟨arr, et, h1, by simpa using h2, fun i x hx => ?_⟩
              simp only [List.getElem?_set] at hx
              split at hx
              · rename_i hji
                subst hji
                cases hx
                obtain ⟨u, u1, u2, u3⟩ := h3 (off + k0) cs[off + k0] (by simp [hlt])
                have : cs[off + k0] = .nilS := by simpa [List.getD_eq_getElem?_getD, hlt] using hn
                rw [this] at u3
                have hu := nilv u3
                subst hu
                exact ⟨_, u1, u2, hnew.ext E⟩
              · obtain ⟨u, u1, u2, u3⟩ := h3 i x hx
                exact ⟨u, u1, u2, u3.ext E⟩
            · refine ⟨o, hk', ?_, (hadd.roots k o hk').ext E (hget_lt hk') rfl (fun _ _ => rfl), fun b hb => (hadd.sep k o hk' b hb).1⟩
              cases o <;> simp [likeR]
        · exact h.weakR _ _
        · rename_i b0 hb0
          have hrl := hget_lt hcs
          have hlt : off + k0 < cs.length := by
            rcases Nat.lt_or_ge (off + k0) cs.length with h | h
            · exact h
            · simp [List.getD_eq_getElem?_getD, List.getElem?_eq_none h] at hb0
          have hH : ∀ k o, hget (s.H.set r (some (.box (cs.set (off + k0) (.dat .bool b0))))) k = some o → (k = r ∧ o = .box (cs.set (off + k0) (.dat .bool b0))) ∨ (k ≠ r ∧ hget s.H k = some o) := fun k o hk => by
            rw [hget_set hrl] at hk
            split at hk
            · rename_i e1; cases hk; exact .inl ⟨e1, rfl⟩
            · rename_i e1; exact .inr ⟨e1, hk⟩
          have E : Ext w w I I ρ ρ s.H (s.H.set r (some (.box (cs.set (off + k0) (.dat .bool b0))))) :=
            ⟨fun _ _ => rfl, fun _ h => h, by simp, fun _ _ => ⟨rfl, rfl, rfl⟩, fun k _ v' e' m' xs' hg => by
              rcases hH k _ hg with ⟨_, he⟩ | ⟨_, hg'⟩
              · cases he
              · exact ⟨v', m', xs', hg', RowStep.refl⟩⟩
          refine ⟨_, h.recast (s' := ⟨s.fr, s.H.set r (some (.box (cs.set (off + k0) (.dat .bool b0))))⟩) rfl (fun b hb => ⟨h.imm b hb, h.immF b hb⟩) (fun i x hx => ?_) (fun k o hk => ?_)⟩
          · obtain ⟨u, u1, u2⟩ := h.slots i x hx
            exact ⟨u, u1, u2.ext E⟩
          · rcases hH k o hk with ⟨rfl, rfl⟩ | ⟨hne, hk'⟩
            · refine ⟨.box cs, hcs, by simp [likeR], ?_, fun b hb => (h.sep k _ hcs b hb).1⟩
              obtain ⟨arr, et, h1, h2, h3⟩ := h.roots k _ hcs
              refine ⟨arr, et, h1, by simpa using h2, fun i x hx => ?_⟩
              simp only [List.getElem?_set] at hx
              split at hx
              · rename_i hji
                subst hji
                first | simp only [hlt, if_true] at hx | skip
                cases hx
                obtain ⟨u, u1, u2, u3⟩ := h3 (off + k0) cs[off + k0] (by simp [hlt])
                have : cs[off + k0] = .lb b0 := by simpa [List.getD_eq_getElem?_getD, hlt] using hb0
                rw [this] at u3
                exact ⟨u, u1, u2, by rw [lb_dat u3]; exact VR.bool⟩
              · obtain ⟨u, u1, u2, u3⟩ := h3 i x hx
                exact ⟨u, u1, u2, u3.ext E⟩
            · refine ⟨o, hk', ?_, (h.roots k o hk').ext E (hget_lt hk') rfl (fun _ _ => rfl), fun b hb => (h.sep k o hk' b hb).1⟩
              cases o <;> simp [likeR]
        · exact ⟨ρ, h⟩
      · exact ⟨ρ, h⟩
    · exact ⟨ρ, h⟩

theorem Inv.lift1 (h : Inv w0 F0 s a w I ρ) (q : Nat × Option Nat × Ty × Md) : ∃ J ρ', Inv w0 F0 (Vee.lift1 Alg.std q s) a w J ρ' := by
  unfold Vee.lift1
  split
  · split
    · obtain ⟨J, h1⟩ := h.fz _
      exact ⟨J, ρ, h1⟩
    · exact ⟨I, ρ, h⟩
  · obtain ⟨ρ', h1⟩ := h.lift0 q
    exact ⟨I, ρ', h1⟩
theorem Inv.liftL : ∀ (l : List (Nat × Option Nat × Ty × Md)) {s : St} {I : Nat → Prop} {ρ : Nat → RC}, Inv w0 F0 s a w I ρ → ∃ J ρ', Inv w0 F0 (Vee.liftL Alg.std l s) a w J ρ'
  | [], s, I, ρ, h => ⟨I, ρ, h⟩
  | q :: l, s, I, ρ, h => by
    obtain ⟨J, ρ', h1⟩ := h.lift1 q
    exact Inv.liftL l h1

theorem Inv.head (h : Inv w0 F0 s a w I ρ) (k : List Bool) (oh : Bool) (lf : List (Nat × Option Nat × Ty × Md)) : ∃ J ρ', Inv w0 F0 (headS Alg.std k oh lf s) a w J ρ' := by
  obtain ⟨J, ρ1, h1⟩ := Inv.liftL lf (h.clr k)
  unfold headS
  cases oh with
  | true => exact ⟨J, _, h1.sweepL (nub_nodup _ _ List.nodup_nil)⟩
  | false => exact ⟨J, _, h1.gc.sweep⟩

end
end Go.Vee

set_option linter.unusedSimpArgs false
set_option linter.unusedVariables false
namespace Go.Vee
open Go

theorem sat_mono {Q Q' : Ex → St → Prop} {t : Tr} (h : ∀ e s, Q e s → Q' e s) : sat t Q → sat t Q' := by
  induction t generalizing Q Q' with
  | fin e s => exact h e s
  | need p k ih => exact fun ⟨a, b⟩ => ⟨a, ih h b⟩
  | br b y n ih1 ih2 => exact fun ⟨a, b⟩ => ⟨fun e => ih1 h (a e), fun e => ih2 h (b e)⟩
  | lp b s k ih1 ih2 =>
    rintro ⟨I, h0, h1⟩
    refine ⟨I, h0, fun n s hI => ih1 _ (fun e s' => ?_) (h1 n s hI)⟩
    cases e with
    | nrm => exact id
    | exit j => exact ih2 _ _ h
    | ret => exact ih2 _ _ h
  | both x y ih1 ih2 => exact fun ⟨a, b⟩ => ⟨ih1 h a, ih2 h b⟩
  | hyp p k ih => exact fun a hp => ih h (a hp)
  | ex t k ih => exact fun a y => ih y h (a y)
  | bad => exact id

theorem sat_bind {t : Tr} {f : Ex → St → Tr} {Q : Ex → St → Prop} : sat (t.bind f) Q ↔ sat t (fun e s => sat (f e s) Q) := by
  induction t generalizing f Q with
  | fin e s => exact Iff.rfl
  | need p k ih => simp only [Tr.bind, sat, ih]
  | br b y n ih1 ih2 => simp only [Tr.bind, sat, ih1, ih2]
  | lp b s k ih1 ih2 =>
    simp only [Tr.bind, sat]
    constructor
    · rintro ⟨I, h0, h1⟩
      refine ⟨I, h0, fun n s hI => ?_⟩
      refine (sat_mono ?_ (h1 n s hI))
      intro e s'
      cases e with
      | nrm => exact id
      | exit j => exact (ih2 _ _).1
      | ret => exact (ih2 _ _).1
    · rintro ⟨I, h0, h1⟩
      refine ⟨I, h0, fun n s hI => ?_⟩
      refine (sat_mono ?_ (h1 n s hI))
      intro e s'
      cases e with
      | nrm => exact id
      | exit j => exact (ih2 _ _).2
      | ret => exact (ih2 _ _).2
  | both x y ih1 ih2 => simp only [Tr.bind, sat, ih1, ih2]
  | hyp p k ih => simp only [Tr.bind, sat, ih]
  | ex t k ih => simp only [Tr.bind, sat, ih]
  | bad => exact Iff.rfl

theorem wpQuiet_mono {P : Program} {ops : Array Oper} {C : World → Prop} {Q Q' : Act → Prop} (h : ∀ a, Q a → Q' a) : ∀ (l : List Oper) (a : Act), wpQuiet P ops C Q l a → wpQuiet P ops C Q' l a
  | [], a, hh => h a hh
  | o :: l, a, hh => by
    unfold wpQuiet at hh ⊢
    split
    · rename_i hw
      rw [if_pos hw] at hh
      exact Oper.quiet_mono (fun a => wpQuiet_mono h l a) hh
    · rename_i hw
      rw [if_neg hw] at hh
      exact wpQuiet_mono h l _ hh

section
variable {P : Program} {w0 w : World} {F0 : Bnd} {s : St} {a : Act} {I J : Nat → Prop} {ρ : Nat → RC} {H : Heap} {o : Oper} {K : St → Prop} {Q : Exit → Act → World → Prop} {C : World → Prop}

/-- A slot's Bool, known from here on. -/
theorem Inv.known (h : Inv w0 F0 s a w I ρ) {t : Nat} {b : Bool} (hu : a.tmps[t]? = some (.bool b)) : Inv w0 F0 (s.put (some t) (.lb b)) a w I ρ := by
  refine { h with len := by simp [St.put, h.len], slots := fun i v hv => ?_, roots := h.roots, nodup := h.nodup, disj := h.disj, sep := h.sep, keep := h.keep, ghost := h.ghost }
  simp only [St.put, List.getElem?_set] at hv
  split at hv
  · rename_i e
    subst e
    split at hv
    · cases hv; exact ⟨_, hu, .lb b⟩
    · cases hv
  · exact h.slots i v hv

theorem Inv.slot (h : Inv w0 F0 s a w I ρ) (t : Nat) : s.fr.getD t .junk = .junk ∨ ∃ u, a.tmps[t]? = some u ∧ VR w I ρ s.H (s.fr.getD t .junk) u := by
  by_cases ht : t < s.fr.length
  · right
    obtain ⟨u, h1, h2⟩ := h.slots t s.fr[t] (by simp [ht])
    exact ⟨u, h1, by simpa [List.getD_eq_getElem?_getD, ht] using h2⟩
  · left
    simp [List.getD_eq_getElem?_getD, List.getElem?_eq_none (Nat.le_of_not_lt ht)]

theorem undefVR {w : World} {I : Nat → Prop} {ρ : Nat → RC} {H : Heap} : VR w I ρ H (.tup []) undef := VR.tup [] [] rfl (fun _ _ _ h _ => by simp at h)

/-- One operation with its guard: what 'step' says of operations, said of it. -/
theorem oneOp_ok {ops : Array Oper} {k : St → Tr} {S : Ex → St → Prop} (τ : Env) (G : Gam) {D : Prop} (h : Inv w0 F0 s a w I ρ) (hs : sat (oneOp Alg.std τ G ops.toList o s k) S)
    (hyes : ∀ s' (I' : Nat → Prop), Inv w0 F0 s' a w I' ρ → Region.wanted o (yielded ops a.tmps) = true → sat (stepOp Alg.std τ G o s') (fun _ s => sat (k s) S) → D)
    (hno : Region.wanted o (yielded ops a.tmps) = false → Post w0 F0 (fun s => sat (k s) S) (a.put o.dst undef) w → D) : D := by
  unfold oneOp at hs
  cases hg : o.guard with
  | none =>
    rw [hg] at hs
    simp only [sat_bind] at hs
    obtain ⟨J, hJ⟩ := h.preS τ G o
    exact hyes _ J hJ (by simp [Region.wanted, hg]) hs
  | some g =>
    obtain ⟨j, want⟩ := g
    rw [hg] at hs
    simp only at hs
    cases ht : (ops.toList[j]?).bind (·.dst) with
    | none => rw [ht] at hs; exact hs.elim
    | some t =>
      rw [ht] at hs
      simp only at hs
      have hj : (ops[j]?).bind (·.dst) = some t := by simpa using ht
      have hw : ∀ b, a.tmps[t]? = some (.bool b) → Region.wanted o (yielded ops a.tmps) = (b == want) := fun b hb => by
        simp only [Region.wanted, hg, yielded, hj, Option.bind_some, hb]
        cases b <;> cases want <;> rfl
      rcases h.slot t with hjunk | ⟨u, hu, hv⟩
      · rw [hjunk] at hs; exact hs.elim
      · split at hs
        · rename_i b hb
          rw [hb] at hv
          have := lb_dat hv
          subst this
          split at hs
          · rename_i e
            rw [sat_bind] at hs
            obtain ⟨J, hJ⟩ := h.preS τ G o
            exact hyes _ J hJ (by rw [hw b hu]; simp [e]) hs
          · rename_i e
            exact hno (by rw [hw b hu]; simp [e]) ⟨_, I, ρ, h.put undefVR o.dst, hs⟩
        · rename_i hb
          rw [hb] at hv
          have hud : u = .tuple #[] := by
            cases hv with
            | tup vs cs hl _ => cases cs with
              | nil => rfl
              | cons _ _ => simp at hl
          subst hud
          exact hno (by simp only [Region.wanted, hg, yielded, hj, Option.bind_some, hu]; rfl) ⟨_, I, ρ, h.put undefVR o.dst, hs⟩
        · rename_i b hb
          rw [hb] at hv
          have := hv.bool_inv
          subst this
          have two : (b = want → sat ((stepOp Alg.std τ G o (preS Alg.std τ G o (s.put (some t) (.lb want)))).bind fun _ s => k s) S) ∧ (b ≠ want → sat (k ((s.put (some t) (.lb (!want))).put o.dst (.tup []))) S) := by
            cases want with
            | true =>
              simp only [if_true, sat] at hs
              exact ⟨fun e => hs.1 e, fun e => hs.2 (by simpa using e)⟩
            | false =>
              simp only [Bool.false_eq_true, if_false, sat] at hs
              exact ⟨fun e => hs.2 e, fun e => hs.1 (by simpa using e)⟩
          by_cases e : b = want
          · have h1 := two.1 e
            rw [sat_bind] at h1
            subst e
            obtain ⟨J, hJ⟩ := (h.known hu).preS τ G o
            exact hyes _ J hJ (by rw [hw b hu]; simp) h1
          · have e2 : b = !want := by cases b <;> cases want <;> simp_all
            have h1 := two.2 e
            refine hno (by rw [hw b hu]; simp [e]) ⟨_, I, ρ, Inv.put (s := s.put (some t) (.lb (!want))) (h.known (by rw [← e2]; exact hu)) undefVR o.dst, h1⟩
        · exact hs.elim

/-- Where a code ends. -/
def QQ (w0 : World) (F0 : Bnd) (S : Ex → St → Prop) : Exit → Act → World → Prop
  | .normal, a, w => Post w0 F0 (S .nrm) a w
  | .exit id, a, w => Post w0 F0 (S (.exit id)) a w
  | .ret, a, w => Post w0 F0 (S .ret) a w
  | _, _, _ => False

theorem runOps_ok {ops : Array Oper} {S : Ex → St → Prop} (τ : Env) (G : Gam) (hE : EnvOk P τ) (hG : GOk P G) : ∀ (os : List Oper) {s : St} {a : Act} {w : World} {I : Nat → Prop} {ρ : Nat → RC}, Inv w0 F0 s a w I ρ → sat (runOps Alg.std τ G ops.toList os s) S → wpList P ops (QQ w0 F0 S) os a w
  | [], s, a, w, I, ρ, h, hs => ⟨s, I, ρ, h, hs⟩
  | o :: os, s, a, w, I, ρ, h, hs => by
    simp only [runOps] at hs
    unfold wpList
    refine oneOp_ok τ G h hs (fun s' I' h' hw hs' => ?_) (fun hw hp => ?_)
    · rw [if_pos hw]
      left
      refine Oper.wp_mono (fun a w hp => ?_) (step_ok (Q := QQ w0 F0 S) τ G hE hG h' hs')
      obtain ⟨s2, I2, ρ2, h2, k2⟩ := hp
      exact runOps_ok τ G hE hG os h2 k2
    · rw [hw]
      simp only [Bool.false_eq_true, if_false]
      obtain ⟨s2, I2, ρ2, h2, k2⟩ := hp
      exact runOps_ok τ G hE hG os h2 k2

theorem runQ_ok {ops : Array Oper} {S : Ex → St → Prop} (τ : Env) (G : Gam) (hE : EnvOk P τ) (hG : GOk P G) (hEn : EnOk P G) (hq : G.q = true) : ∀ (os : List Oper) {s : St} {a : Act} {I : Nat → Prop} {ρ : Nat → RC}, (∀ o ∈ os, quietK o = true) → Inv w0 F0 s a w I ρ → sat (runOps Alg.std τ G ops.toList os s) S →
      wpQuiet P ops (Keeps (fun _ => False) w) (fun a' => Post w0 F0 (S .nrm) a' w) os a
  | [], s, a, I, ρ, hk, h, hs => ⟨s, I, ρ, h, hs⟩
  | o :: os, s, a, I, ρ, hk, h, hs => by
    simp only [runOps] at hs
    unfold wpQuiet
    refine oneOp_ok τ G h hs (fun s' I' h' hw hs' => ?_) (fun hw hp => ?_)
    · rw [if_pos hw]
      refine Oper.quiet_mono (fun a hp => ?_) (quiet_ok τ G hE hG hEn hq (hk o (by simp)) h' hs')
      obtain ⟨s2, I2, ρ2, h2, k2⟩ := hp
      exact runQ_ok τ G hE hG hEn hq os (fun o ho => hk o (by simp [ho])) h2 k2
    · rw [hw]
      simp only [Bool.false_eq_true, if_false]
      obtain ⟨s2, I2, ρ2, h2, k2⟩ := hp
      exact runQ_ok τ G hE hG hEn hq os (fun o ho => hk o (by simp [ho])) h2 k2

theorem Post.world {a : Act} {w w' : World} (h : Post w0 F0 K a w) (hk : Keeps (fun _ => False) w w') : Post w0 F0 K a w' := by
  obtain ⟨s, I, ρ, h, k⟩ := h
  exact ⟨s, I, ρ, h.world hk (fun _ _ h => h) (fun _ _ _ _ _ h => h) (fun _ h => h.elim), k⟩

theorem sch_alts {τ : Env} {ops : Array Oper} {S : Ex → St → Prop} {G : Gam} {n : Nat} {l : List Bool} {s : St} : ∀ {r : Sch}, chkSch τ ops r (n + 1) l false = true → sat (runSch Alg.std τ G ops r s) S → ∀ i ∈ r.alts, ∃ k o, ops[i]? = some o ∧ chkSch τ ops k n (l.set i true) true = true ∧ SizeOf.sizeOf k < SizeOf.sizeOf r ∧ sat (oneOp Alg.std τ G ops.toList o s fun s => runSch Alg.std τ G ops k s) S
  | .done, _, _, i, hi => by simp [Sch.alts] at hi
  | .take _ _, _, _, i, hi => by simp [Sch.alts] at hi
  | .no, _, _, i, hi => by simp [Sch.alts] at hi
  | .alt i0 k r, hc, hs, i, hi => by
    simp only [chkSch, Bool.not_false, Bool.true_or, Bool.true_and, Bool.and_eq_true] at hc
    obtain ⟨⟨hsome, hk⟩, hr⟩ := hc
    obtain ⟨o, ho⟩ := Option.isSome_iff_exists.1 hsome
    simp only [Sch.alts, List.mem_cons] at hi
    by_cases hrn : r = .no
    · subst hrn
      simp only [runSch, ho] at hs
      rcases hi with rfl | hi
      · exact ⟨k, o, ho, hk, by simp; omega, hs⟩
      · simp [Sch.alts] at hi
    · have hs' : sat (.both (oneOp Alg.std τ G ops.toList o s fun s => runSch Alg.std τ G ops k s) (runSch Alg.std τ G ops r s)) S := by
        cases r with
        | no => exact absurd rfl hrn
        | done => simpa only [runSch, ho] using hs
        | take _ _ => simpa only [runSch, ho] using hs
        | alt _ _ _ => simpa only [runSch, ho] using hs
      rcases hi with rfl | hi
      · exact ⟨k, o, ho, hk, by simp; omega, hs'.1⟩
      · obtain ⟨k', o', g1, g2, g3, g4⟩ := sch_alts hr hs'.2 i hi
        exact ⟨k', o', g1, g2, by simp; omega, g4⟩

/-- Orders of a region; operations that change nothing that was there do so. -/
def wpAnyC (P : Program) (ops : Array Oper) (Q : Exit → Act → World → Prop) : Nat → Array Bool → Act → World → Prop
  | 0, listed, a, w => Region.ready .any ops listed = [] ∧ Q .normal a w
  | n + 1, listed, a, w => (Region.ready .any ops listed = [] → Q .normal a w) ∧ ∀ j ∈ Region.ready .any ops listed,
      wpOp P ops Q j (fun a' w' => (∀ oj, ops[j]? = some oj → keepK oj = true → Keeps (fun _ => False) w w') ∧ wpAnyC P ops Q n (listed.setIfInBounds j true) a' w') a w
theorem wpAnyC.any {ops : Array Oper} {Q : Exit → Act → World → Prop} : ∀ {n : Nat} {listed : Array Bool} {a : Act} {w : World}, wpAnyC P ops Q n listed a w → wpAny P .any ops Q n listed a w
  | 0, _, _, _, h => h
  | _ + 1, _, _, _, h => ⟨h.1, fun j hj => wpOp_mono (fun _ _ h => wpAnyC.any h.2) (h.2 j hj)⟩
theorem wpOp_putR {ops : Array Oper} {Q : Exit → Act → World → Prop} {j : Nat} {oi oj : Oper} {v : Value} (hj : ops[j]? = some oj) (hap : oi.apart ops oj = true)
    (hsi : ∀ cs b, oi.op ≠ .select cs b) (hsj : ∀ cs b, oj.op ≠ .select cs b) (hQ : ∀ c a w, Q (.panic c) (a.put oi.dst v) w → Q (.panic c) a w) {K : Act → World → Prop} {a : Act} {w : World}
    (h : wpOp P ops Q j K (a.put oi.dst v) w) : wpOp P ops Q j (fun a' w' => (execOp a'.eval oi = execOp a.eval oi ∧ Region.wanted oi (yielded ops a'.tmps) = Region.wanted oi (yielded ops a.tmps)) ∧ K (a'.put oi.dst v) w') a w := by
  obtain ⟨h1, h2, h3⟩ := Oper.apart_spec hap
  have keep : ∀ (a : Act) u, execOp (a.put oj.dst u).eval oi = execOp a.eval oi ∧ Region.wanted oi (yielded ops (a.put oj.dst u).tmps) = Region.wanted oi (yielded ops a.tmps) := fun a u => ⟨execOp_put oi hsi a oj.dst u h3, wanted_put oi a oj.dst u h3⟩
  unfold wpOp at *
  simp only [hj] at *
  rw [wanted_put oj a oi.dst v h1] at h
  split
  · rename_i hw
    simp only [hw, if_true] at h
    rcases h with h | ⟨hasks, hlets⟩
    case inr => exact .inr ⟨by unfold Oper.asks at *; rw [execOp_put oj hsj a oi.dst v h1] at hasks; exact hasks, hlets⟩
    refine .inl ?_
    unfold Oper.wp at *
    rw [execOp_put oj hsj a oi.dst v h1] at h
    generalize (execOp a.eval oj).run P w = r at *
    cases r with
    | ok n w' =>
      cases n <;> simp only [Oper.upon] at h ⊢
      case value u => exact ⟨keep a u, by rw [← Act.put_comm a v u h2]; exact h⟩
      case skip => exact ⟨keep a _, by rw [← Act.put_comm a v undef h2]; exact h⟩
      case defer d =>
        refine ⟨keep { a with defers := d :: a.defers } _, ?_⟩
        rw [← Act.put_comm _ v undef h2, ← Act.put_defers]
        exact h
      case enter f args =>
        refine Calls.mono h fun e w'' he => ?_
        cases e with
        | returned u => exact ⟨keep a u, by rw [← Act.put_comm a v u h2]; exact he⟩
        | panicked c => exact hQ _ _ _ he
        | outgrown => exact he
      case row row args => exact Rows.mono h fun u w'' he => ⟨keep a u, by rw [← Act.put_comm a v u h2]; exact he⟩
    | halt x w' =>
      cases x <;> simp only [Oper.upon] at h ⊢
      case panic u => exact hQ _ _ _ h
  · rename_i hw
    simp only [hw] at h
    exact ⟨keep a _, by rw [← Act.put_comm a v undef h2]; exact h⟩
theorem wpAnyC_first {ops : Array Oper} {Q : Exit → Act → World → Prop} {R : World → World → Prop} (hR : ∀ a b c, R a b → R b c → R a c) (hR0 : ∀ a, R a a) {i : Nat} {oi : Oper} {v : Value} (hi : ops[i]? = some oi) (hsel : ∀ (j : Nat) (o : Oper) cs b, ops[j]? = some o → o.op ≠ .select cs b)
    (hQ : ∀ c a w, Q (.panic c) (a.put oi.dst v) w → Q (.panic c) a w) :
    ∀ (fuel : Nat) (listed : Array Bool) (a : Act) (w : World),
      (∀ j oj, ops[j]? = some oj → j ≠ i → listed.getD j true = false → (∀ e ∈ oj.after, Region.binds .any e = true → e.on ≠ i) → oi.apart ops oj = true ∧ ∀ w w', (keepK oj = true → Keeps (fun _ => False) w w') → R w w') →
      i ∈ Region.ready .any ops listed → Region.wanted oi (yielded ops a.tmps) = true → (∀ w', R w w' → (execOp a.eval oi).run P w' = .ok (.value v) w') →
      wpAnyC P ops Q fuel (listed.setIfInBounds i true) (a.put oi.dst v) w → wpAnyC P ops Q (fuel + 1) listed a w := by
  have self : ∀ {K : Act → World → Prop} {a : Act} {w : World}, Region.wanted oi (yielded ops a.tmps) = true → (∀ w', R w w' → (execOp a.eval oi).run P w' = .ok (.value v) w') → K (a.put oi.dst v) w → wpOp P ops Q i K a w := fun {K a w} hwt hy h => by
    unfold wpOp
    simp only [hi]
    rw [if_pos hwt]
    left
    unfold Oper.wp
    rw [hy w (hR0 w)]
    exact h
  intro fuel
  induction fuel with
  | zero =>
    intro listed a w _ hr hwt hy H
    refine ⟨fun h => (by rw [h] at hr; cases hr), fun j hj => ?_⟩
    by_cases hji : j = i
    · subst hji; exact self hwt hy ⟨fun _ _ _ => Keeps.refl _ _, H⟩
    · have := ready_mono hj hji
      rw [H.1] at this
      cases this
  | succ fuel ih =>
    intro listed a w hfree hr hwt hy H
    refine ⟨fun h => (by rw [h] at hr; cases hr), fun j hj => ?_⟩
    by_cases hji : j = i
    · subst hji; exact self hwt hy ⟨fun _ _ _ => Keeps.refl _ _, H⟩
    · have h1 := H.2 j (ready_mono hj hji)
      obtain ⟨hjun, oj, hoj, hall⟩ := mem_ready.1 hj
      have hnot : ∀ e ∈ oj.after, Region.binds .any e = true → e.on ≠ i := fun e he hb heq => by
        have h1 := hall e he hb
        have h0 := (mem_ready.1 hr).1
        rw [heq] at h1
        rcases Nat.lt_or_ge i listed.size with h' | h'
        · simp [h'] at h0 h1; rw [h0] at h1; cases h1
        · simp [Array.getElem?_eq_none h'] at h1
      obtain ⟨hap, hrel⟩ := hfree j oj hoj hji hjun hnot
      have h2 := wpOp_putR hoj hap (fun cs b => hsel i oi cs b hi) (fun cs b => hsel j oj cs b hoj) hQ h1
      have hfree' : ∀ k ok, ops[k]? = some ok → k ≠ i → (listed.setIfInBounds j true).getD k true = false →
          (∀ e ∈ ok.after, Region.binds .any e = true → e.on ≠ i) → oi.apart ops ok = true ∧ ∀ w w', (keepK ok = true → Keeps (fun _ => False) w w') → R w w' := fun k ok hk hki hun hno => by
        refine hfree k ok hk hki ?_ hno
        by_cases hjk : j = k
        · subst hjk; exact hjun
        · rw [getD_set_ne true hjk] at hun; exact hun
      refine wpOp_mono (fun a' w' h3 => ⟨h3.2.1, ?_⟩) h2
      refine ih (listed.setIfInBounds j true) a' w' hfree' (ready_mono hr (Ne.symm hji)) (by rw [h3.1.2]; exact hwt) (fun w2 hw2 => ?_) ?_
      · rw [h3.1.1]
        exact hy w2 (hR _ _ _ (hrel w w' (h3.2.1 oj hoj)) hw2)
      · rw [Array.setIfInBounds_comm _ _ hji]
        exact h3.2.2

theorem wpAnyC_skip {ops : Array Oper} {Q : Exit → Act → World → Prop} {i : Nat} {oi : Oper} (hi : ops[i]? = some oi) (hsel : ∀ (j : Nat) (o : Oper) cs b, ops[j]? = some o → o.op ≠ .select cs b)
    (hQ : ∀ c a w, Q (.panic c) (a.put oi.dst undef) w → Q (.panic c) a w) :
    ∀ (fuel : Nat) (listed : Array Bool) (a : Act) (w : World),
      (∀ j oj, ops[j]? = some oj → j ≠ i → listed.getD j true = false → (∀ e ∈ oj.after, Region.binds .any e = true → e.on ≠ i) → oi.apart ops oj = true) →
      i ∈ Region.ready .any ops listed → Region.wanted oi (yielded ops a.tmps) = false →
      wpAnyC P ops Q fuel (listed.setIfInBounds i true) (a.put oi.dst undef) w → wpAnyC P ops Q (fuel + 1) listed a w := by
  have self : ∀ {K : Act → World → Prop} {a : Act} {w : World}, Region.wanted oi (yielded ops a.tmps) = false → K (a.put oi.dst undef) w → wpOp P ops Q i K a w := fun {K a w} hwt h => by
    unfold wpOp
    simp only [hi]
    rw [hwt]
    simp only [Bool.false_eq_true, if_false]
    exact h
  intro fuel
  induction fuel with
  | zero =>
    intro listed a w _ hr hwt H
    refine ⟨fun h => (by rw [h] at hr; cases hr), fun j hj => ?_⟩
    by_cases hji : j = i
    · subst hji; exact self hwt ⟨fun _ _ _ => Keeps.refl _ _, H⟩
    · have := ready_mono hj hji
      rw [H.1] at this
      cases this
  | succ fuel ih =>
    intro listed a w hfree hr hwt H
    refine ⟨fun h => (by rw [h] at hr; cases hr), fun j hj => ?_⟩
    by_cases hji : j = i
    · subst hji; exact self hwt ⟨fun _ _ _ => Keeps.refl _ _, H⟩
    · have h1 := H.2 j (ready_mono hj hji)
      obtain ⟨hjun, oj, hoj, hall⟩ := mem_ready.1 hj
      have hnot : ∀ e ∈ oj.after, Region.binds .any e = true → e.on ≠ i := fun e he hb heq => by
        have h1 := hall e he hb
        have h0 := (mem_ready.1 hr).1
        rw [heq] at h1
        rcases Nat.lt_or_ge i listed.size with h' | h'
        · simp [h'] at h0 h1; rw [h0] at h1; cases h1
        · simp [Array.getElem?_eq_none h'] at h1
      have hap := hfree j oj hoj hji hjun hnot
      have h2 := wpOp_putR hoj hap (fun cs b => hsel i oi cs b hi) (fun cs b => hsel j oj cs b hoj) hQ h1
      have hfree' : ∀ k ok, ops[k]? = some ok → k ≠ i → (listed.setIfInBounds j true).getD k true = false →
          (∀ e ∈ ok.after, Region.binds .any e = true → e.on ≠ i) → oi.apart ops ok = true := fun k ok hk hki hun hno => by
        refine hfree k ok hk hki ?_ hno
        by_cases hjk : j = k
        · subst hjk; exact hjun
        · rw [getD_set_ne true hjk] at hun; exact hun
      refine wpOp_mono (fun a' w' h3 => ⟨h3.2.1, ?_⟩) h2
      refine ih (listed.setIfInBounds j true) a' w' hfree' (ready_mono hr (Ne.symm hji)) (by rw [h3.1.2]; exact hwt) ?_
      · rw [Array.setIfInBounds_comm _ _ hji]
        exact h3.2.2

theorem runSch_ok {ops : Array Oper} {S : Ex → St → Prop} (τ : Env) (G : Gam) (hE : EnvOk P τ) (hG : GOk P G) (hsel : Region.noSelect ops = true) : ∀ (sc : Sch) {n : Nat} {l : List Bool} {s : St} {a : Act} {w : World} {I : Nat → Prop} {ρ : Nat → RC}, chkSch τ ops sc n l true = true → Inv w0 F0 s a w I ρ → sat (runSch Alg.std τ G ops sc s) S →
      wpAnyC P ops (QQ w0 F0 S) n l.toArray a w
  | .done, n, l, s, a, w, I, ρ, hc, h, hs => by
    have hr : Region.ready .any ops l.toArray = [] := by simpa [chkSch] using hc
    cases n with
    | zero => exact ⟨hr, s, I, ρ, h, hs⟩
    | succ n => exact ⟨fun _ => ⟨s, I, ρ, h, hs⟩, fun i hi => by rw [hr] at hi; simp at hi⟩
  | .take i k, n, l, s, a, w, I, ρ, hc, h, hs => by
    cases n with
    | zero => simp [chkSch] at hc
    | succ n =>
      simp only [chkSch, Bool.and_eq_true] at hc
      obtain ⟨⟨⟨hp, hfree⟩, hmem⟩, hk⟩ := hc
      simp only [runSch] at hs
      split at hs
      · rename_i o ho
        rw [ho] at hp
        have hpure : firstL τ ops l i o = true := hp
        have hset : (l.set i true).toArray = l.toArray.setIfInBounds i true := by simp
        refine oneOp_ok τ G h hs (fun s' I' h' hw hs' => ?_) (fun hw hq => ?_)
        · obtain ⟨hkk, R, hR, hR0, hbes, u, hu, s2, I2, ρ2, h2, k2⟩ := firstL_ok τ G hE hpure h' hs'
          have hrest := runSch_ok τ G hE hG hsel k hk h2 k2
          rw [hset] at hrest
          exact wpAnyC_first hR hR0 ho (Region.noSelect_spec hsel) (fun _ _ _ h => h) n _ a w (fun j oj hj hji hun hno => ⟨Region.free_spec ho hfree j oj hj hji hun hno, hbes j oj hj hji (by simpa using hun) hno⟩) (by simpa using hmem) hw hu hrest
        · obtain ⟨s2, I2, ρ2, h2, k2⟩ := hq
          have hrest := runSch_ok τ G hE hG hsel k hk h2 k2
          rw [hset] at hrest
          exact wpAnyC_skip ho (Region.noSelect_spec hsel) (fun _ _ _ h => h) n _ a w (fun j oj hj hji hun hno => Region.free_spec ho hfree j oj hj hji hun hno) (by simpa using hmem) hw hrest
      · exact hs.elim
  | .alt i0 k0 r0, n, l, s, a, w, I, ρ, hc, h, hs => by
    cases n with
    | zero => simp [chkSch] at hc
    | succ n =>
      have hc' : chkSch τ ops (.alt i0 k0 r0) (n + 1) l false = true := by
        simp only [chkSch, Bool.and_eq_true] at hc ⊢
        obtain ⟨⟨⟨⟨_, _⟩, h3⟩, h4⟩, h5⟩ := hc
        simp [h3, h4, h5]
      have hall : ∀ j ∈ Region.ready .any ops l.toArray, j ∈ (Sch.alt i0 k0 r0).alts := fun j hj => by
        simp only [chkSch, Bool.and_eq_true, Bool.not_true, Bool.false_or, List.all_eq_true] at hc
        simpa using hc.1.1.1.1 j hj
      have hne : Region.ready .any ops l.toArray ≠ [] := fun h0 => by
        simp only [chkSch, Bool.and_eq_true, Bool.not_true, Bool.false_or] at hc
        have := hc.1.1.1.2
        rw [h0] at this
        simp at this
      refine ⟨fun h0 => absurd h0 hne, fun i hi => ?_⟩
      obtain ⟨k, o, ho, hk, hlt, hs1⟩ := sch_alts hc' hs i (hall i hi)
      have hset : (l.set i true).toArray = l.toArray.setIfInBounds i true := by simp
      unfold wpOp
      simp only [ho]
      refine oneOp_ok τ G h hs1 (fun s' I' h' hw hs' => ?_) (fun hw hp => ?_)
      · rw [if_pos hw]
        left
        refine Oper.wp_mono (fun a w hp => ?_) (step_okC (Q := QQ w0 F0 S) τ G hE hG h' hs')
        obtain ⟨⟨s2, I2, ρ2, h2, k2⟩, hkeep⟩ := hp
        have := runSch_ok τ G hE hG hsel k hk h2 k2
        rw [hset] at this
        exact ⟨fun oj hoj hk => by cases hoj; exact hkeep hk, this⟩
      · rw [hw]
        simp only [Bool.false_eq_true, if_false]
        obtain ⟨s2, I2, ρ2, h2, k2⟩ := hp
        have := runSch_ok τ G hE hG hsel k hk h2 k2
        rw [hset] at this
        exact ⟨fun _ _ _ => Keeps.refl _ _, this⟩
  | .no, n, l, s, a, w, I, ρ, hc, h, hs => by simp [chkSch] at hc
termination_by sc => SizeOf.sizeOf sc
decreasing_by all_goals first | (simp; omega) | omega

theorem wpList_region {id : Nat} {ops : Array Oper} {Q : Exit → Act → World → Prop} {a : Act} {w : World} (h : wpList P ops Q ops.toList a w) : (Code.region id ops false).wp P Q a w := by
  refine wp_region ?_
  have := wpOps_eq_wpList (P := P) (ops := ops) (Q := Q) ops.toList 0 (by simp)
  rw [List.range_eq_range']
  have e : ops.toList.length = ops.size := Array.length_toList
  rw [← e, this]
  exact h

theorem joinT_sat {k : List Bool} {t : Tr} {S : Ex → St → Prop} (h : sat (joinT k t) S) : sat t (fun e s => e = .nrm ∧ S .nrm (joinS k s)) := by
  unfold joinT at h
  split at h
  · obtain ⟨h1, h2⟩ := h
    rw [sat_bind] at h1
    refine sat_mono (fun e s hs => ?_) h1
    cases e with
    | nrm => exact ⟨rfl, by have := hs.1; rw [this]; exact h2⟩
    | _ => exact hs.elim
  · exact h.elim
theorem QQ_join {S : Ex → St → Prop} {e : Exit} {a : Act} {w : World} {k : List Bool} (h : QQ w0 F0 (fun e s => e = .nrm ∧ S .nrm (joinS k s)) e a w) : QQ w0 F0 S e a w := by
  cases e with
  | normal =>
    obtain ⟨s, I, ρ, h1, _, h3⟩ := h
    obtain ⟨ρ', h'⟩ := h1.join k
    exact ⟨_, I, ρ', h', h3⟩
  | exit id => obtain ⟨s, I, ρ, h1, h2, _⟩ := h; exact absurd h2 (by simp)
  | ret => obtain ⟨s, I, ρ, h1, h2, _⟩ := h; exact absurd h2 (by simp)
  | panic _ => exact h.elim
  | goto _ => exact h.elim
  | outgrown => exact h.elim

theorem bEq_eq : ∀ {l m : List Bool}, bEq l m = true → l = m
  | [], [], _ => rfl
  | true :: l, true :: m, h => by rw [bEq_eq (l := l) (m := m) (by simpa [bEq] using h)]
  | false :: l, false :: m, h => by rw [bEq_eq (l := l) (m := m) (by simpa [bEq] using h)]
  | [], _ :: _, h => by simp [bEq] at h
  | _ :: _, [], h => by simp [bEq] at h
  | true :: _, false :: _, h => by simp [bEq] at h
  | false :: _, true :: _, h => by simp [bEq] at h
theorem setB_set : ∀ (l : List Bool) (i : Nat), setB l i = l.set i true
  | [], _ => rfl
  | _ :: l, 0 => rfl
  | b :: l, i + 1 => by simp [setB, setB_set l i]
theorem nthQ_some : ∀ {Q : List St} {n : Nat} {s : St}, nthQ Q n = some (some s) → ∀ U, (Q ++ U)[n]? = some s
  | [], 0, _, h, _ => by simp [nthQ] at h
  | [], _ + 1, _, h, _ => by simp [nthQ] at h
  | x :: Q, 0, s, h, U => by simpa [nthQ] using h
  | _ :: Q, n + 1, s, h, U => by simpa using nthQ_some (Q := Q) (n := n) (by simpa [nthQ] using h) U
theorem nthQ_none : ∀ {Q : List St} {n : Nat}, nthQ Q n = some none → n = Q.length
  | [], 0, _ => rfl
  | [], _ + 1, h => by simp [nthQ] at h
  | x :: Q, 0, h => by simp [nthQ] at h
  | _ :: Q, n + 1, h => by simpa using nthQ_none (Q := Q) (n := n) (by simpa [nthQ] using h)
theorem nthD_get : ∀ {D : List Nd} {n : Nat} {d : Nd}, nthD D n = some d → D[n]? = some d
  | [], _, _, h => by simp [nthD] at h
  | x :: D, 0, d, h => by simpa [nthD] using h
  | _ :: D, n + 1, d, h => by simpa using nthD_get (D := D) (n := n) (by simpa [nthD] using h)
theorem endsIn_sat {k : Option (List Bool)} {s1 : St} {t : Tr} {S : Ex → St → Prop} (h : sat (endsIn k s1 t) S) : sat t (fun e s => e = .nrm ∧ normD k s = s1) := by
  unfold endsIn at h
  rw [sat_bind] at h
  refine sat_mono (fun e s hs => ?_) h
  cases e with
  | nrm => exact ⟨rfl, hs.1⟩
  | _ => exact hs.elim
/-- What has been shown of a set's next steps. -/
def EdgeOk (τ : Env) (G : Gam) (ops : Array Oper) (D : List Nd) (T : List St) (s : St) (e : Nat × Nat) : Prop :=
  ∃ o d s1, ops[e.1]? = some o ∧ nthD D e.2 = some d ∧ T[e.2]? = some s1 ∧ sat (oneOp Alg.std τ G ops.toList o s fun s => .fin .nrm s) (fun e s => e = .nrm ∧ normD d.kp s = s1)
theorem runE_ok {τ : Env} {G : Gam} {ops : Array Oper} {D : List Nd} {s : St} {S : Ex → St → Prop} {k : List St → Tr} : ∀ {al : List (Nat × Nat)} {Q : List St}, sat (runE Alg.std τ G ops D s al Q k) S →
    ∃ U, sat (k (Q ++ U)) S ∧ ∀ U2, ∀ e ∈ al, EdgeOk τ G ops D (Q ++ U ++ U2) s e
  | [], Q, h => ⟨[], by simpa [runE] using h, fun _ i hi => by simp at hi⟩
  | e :: al, Q, h => by
    unfold runE at h
    split at h
    · rename_i o d ho hd
      simp only at h
      split at h
      · rename_i s1 hs1
        obtain ⟨U, g2, g3⟩ := runE_ok h.2
        refine ⟨U, g2, fun U2 e' he' => ?_⟩
        rcases List.mem_cons.1 he' with rfl | he'
        · exact ⟨o, d, s1, ho, hd, by rw [List.append_assoc]; exact nthQ_some hs1 _, endsIn_sat h.1⟩
        · exact g3 U2 e' he'
      · rename_i hn
        split at h
        · rename_i s0 _
          obtain ⟨U, g2, g3⟩ := runE_ok h.2
          have hl := nthQ_none hn
          refine ⟨[normD d.kp s0] ++ U, by rw [← List.append_assoc]; exact g2, fun U2 e' he' => ?_⟩
          have ha : Q ++ ([normD d.kp s0] ++ U) ++ U2 = Q ++ [normD d.kp s0] ++ U ++ U2 := by simp
          rw [ha]
          rcases List.mem_cons.1 he' with rfl | he'
          · exact ⟨o, d, _, ho, hd, by rw [hl]; simp, endsIn_sat h.1⟩
          · exact g3 U2 e' he'
        · exact h.elim
      · exact h.elim
    · exact h.elim
def GoodN (τ : Env) (G : Gam) (ops : Array Oper) (S : Ex → St → Prop) : List Nd → List St → Prop
  | d :: D, s :: T => (d.al = [] → S .nrm s) ∧ (∀ e ∈ d.al, EdgeOk τ G ops D T s e) ∧ GoodN τ G ops S D T
  | _ :: _, [] => False
  | [], _ => True
theorem runD_ok {τ : Env} {G : Gam} {ops : Array Oper} {S : Ex → St → Prop} : ∀ {D : List Nd} {Q : List St}, sat (runD Alg.std τ G ops D Q) S → ∃ U, GoodN τ G ops S D (Q ++ U)
  | [], Q, h => by simp only [runD, sat] at h
  | _ :: _, [], h => by simp only [runD, sat] at h
  | d :: D, s :: Q, h => by
    unfold runD at h
    split at h
    · rename_i hal
      split at h
      · exact ⟨[], fun _ => h, fun e he => by rw [hal] at he; simp at he, trivial⟩
      · exact h.elim
    · rename_i hal
      obtain ⟨U, g2, g3⟩ := runE_ok h
      obtain ⟨V, f⟩ := runD_ok g2
      refine ⟨U ++ V, fun h0 => absurd h0 hal, ?_, ?_⟩
      · have := g3 V
        rwa [List.append_assoc] at this
      · rwa [List.append_assoc] at f
theorem dag_any {ops : Array Oper} {S : Ex → St → Prop} (τ : Env) (G : Gam) (hE : EnvOk P τ) (hG : GOk P G) (hsel : Region.noSelect ops = true) : ∀ (D : List Nd) {T : List St}, chkN τ ops D = true → GoodN τ G ops S D T →
    ∀ (p : Nat) {d : Nd} {s : St} {a : Act} {w : World} {I : Nat → Prop} {ρ : Nat → RC}, D[p]? = some d → T[p]? = some s → Inv w0 F0 s a w I ρ → wpAnyC P ops (QQ w0 F0 S) d.n d.l.toArray a w
  | [], _, _, _, p, d, s, a, w, I, ρ, hd, _, _ => by simp at hd
  | _ :: _, [], _, hg, _, _, _, _, _, _, _, _, _, _ => hg.elim
  | d0 :: D, s0 :: T, hc, hg, p + 1, d, s, a, w, I, ρ, hd, hs, h => by
    simp only [chkN, Bool.and_eq_true] at hc
    exact dag_any τ G hE hG hsel D hc.2 hg.2.2 p (by simpa using hd) (by simpa using hs) h
  | d :: D, s :: T, hc, hg, 0, d1, s1, a, w, I, ρ, hd, hs, h => by
    obtain rfl : d = d1 := by simpa using hd
    obtain rfl : s = s1 := by simpa using hs
    obtain ⟨hfin, hed, hgood⟩ := hg
    simp only [chkN, Bool.and_eq_true] at hc
    obtain ⟨⟨c1, c2⟩, c3⟩ := hc
    simp only [List.all_eq_true] at c1
    have hset : ∀ i, (setB d.l i).toArray = d.l.toArray.setIfInBounds i true := fun i => by rw [setB_set]; simp
    cases hn : d.n with
    | zero =>
      have hal : d.al = [] := by
        cases hal : d.al with
        | nil => rfl
        | cons e al =>
          have := c1 e (by rw [hal]; simp)
          split at this
          · rename_i d' _
            simp only [Bool.and_eq_true, beq_iff_eq] at this
            omega
          · cases this
      have hr : Region.ready .any ops d.l.toArray = [] := by
        rw [hal] at c2
        split at c2
        · rename_i e; simp at e
        · rename_i e
          simp only [Bool.and_eq_true, List.all_eq_true] at c2
          cases hr : Region.ready .any ops d.l.toArray with
          | nil => rfl
          | cons j l => have := c2.1 j (by rw [hr]; simp); simp at this
        · cases c2
      exact ⟨hr, s, I, ρ, h, hfin hal⟩
    | succ n =>
      have next : ∀ e ∈ d.al, ∀ {a' : Act} {w' : World}, Post w0 F0 (fun s => sat (.fin .nrm s) (fun x s => ∃ d' s1, nthD D e.2 = some d' ∧ T[e.2]? = some s1 ∧ x = .nrm ∧ normD d'.kp s = s1)) a' w' → wpAnyC P ops (QQ w0 F0 S) n (d.l.toArray.setIfInBounds e.1 true) a' w' := fun e he a' w' hp => by
        obtain ⟨s2, I2, ρ2, h2, d', s1, g1, g2, _, g3⟩ := hp
        have hn' := c1 e he
        rw [g1] at hn'
        simp only [Bool.and_eq_true, beq_iff_eq] at hn'
        obtain ⟨ρ3, h3⟩ : ∃ ρ3, Inv w0 F0 s1 a' w' I2 ρ3 := by
          rw [← g3]
          cases d'.kp with
          | none => exact ⟨ρ2, h2⟩
          | some k => exact h2.join k
        have := dag_any τ G hE hG hsel D c3 hgood e.2 (nthD_get g1) g2 h3
        rw [bEq_eq hn'.2, hset] at this
        rwa [show d'.n = n by omega] at this
      split at c2
      · rename_i e htk hal
        simp only [Bool.and_eq_true] at c2
        obtain ⟨⟨hp, hfree⟩, hmem⟩ := c2
        have hi : e ∈ d.al := by rw [hal]; simp
        obtain ⟨o, d', s1, ho, g1, g2, g3⟩ := hed e hi
        rw [ho] at hp
        simp only [Bool.and_eq_true, Option.isNone_iff_eq_none] at hp
        obtain ⟨hpure, hgd⟩ := hp
        unfold oneOp at g3
        rw [hgd] at g3
        simp only [sat_bind, preS_first hpure] at g3
        obtain ⟨hkk, R, hR, hR0, hbes, u, hu, s2, I2, ρ2, h2, k2⟩ := firstL_ok τ G hE hpure h g3
        have hrest := next e hi ⟨s2, I2, ρ2, h2, d', s1, g1, g2, k2⟩
        exact wpAnyC_first hR hR0 ho (Region.noSelect_spec hsel) (fun _ _ _ h => h) n _ a w (fun j oj hj hji hun hno => ⟨Region.free_spec ho hfree j oj hj hji hun hno, hbes j oj hj hji (by simpa using hun) hno⟩) (by simpa using hmem) (by simp [Region.wanted, hgd]) hu hrest
      · rename_i hal
        simp only [Bool.and_eq_true, List.all_eq_true] at c2
        refine ⟨fun hr => ?_, fun i hi => ?_⟩
        · have : d.al = [] := by
            cases e : d.al with
            | nil => rfl
            | cons j l => have := c2.2 j (by rw [e]; simp); rw [hr] at this; simp at this
          exact ⟨s, I, ρ, h, hfin this⟩
        · obtain ⟨e, he, hei⟩ := List.any_eq_true.1 (c2.1 i hi)
          obtain rfl : e.1 = i := by simpa using hei
          obtain ⟨o, d', s1, ho, g1, g2, g3⟩ := hed e he
          have g3' : sat (oneOp Alg.std τ G ops.toList o s fun s => .fin .nrm s) (fun x s => ∃ d' s1, nthD D e.2 = some d' ∧ T[e.2]? = some s1 ∧ x = .nrm ∧ normD d'.kp s = s1) := sat_mono (fun e s hq => ⟨d', s1, g1, g2, hq⟩) g3
          unfold wpOp
          simp only [ho]
          refine oneOp_ok τ G h g3' (fun s' I' h' hw hs' => ?_) (fun hw hp => ?_)
          · rw [if_pos hw]
            left
            exact Oper.wp_mono (fun a w hp => ⟨fun oj hoj hk => by cases hoj; exact hp.2 hk, next e he hp.1⟩) (step_okC (Q := QQ w0 F0 S) τ G hE hG h' hs')
          · rw [hw]
            simp only [Bool.false_eq_true, if_false]
            exact ⟨fun _ _ _ => Keeps.refl _ _, next e he hp⟩
      · cases c2
theorem dag_region {ops : Array Oper} {S : Ex → St → Prop} (τ : Env) (G : Gam) (hE : EnvOk P τ) (hG : GOk P G) (hsel : Region.noSelect ops = true) {D : List Nd} (hc : chkD τ ops D = true) {s : St} {a : Act} {w : World} {I : Nat → Prop} {ρ : Nat → RC} (h : Inv w0 F0 s a w I ρ)
    (hs : sat (runD Alg.std τ G ops D [s]) S) : wpAnyC P ops (QQ w0 F0 S) ops.size (List.replicate ops.size false).toArray a w := by
  obtain ⟨U, g⟩ := runD_ok hs
  simp only [chkD, Bool.and_eq_true] at hc
  obtain ⟨h0, hc⟩ := hc
  split at h0
  · rename_i d D'
    simp only [Bool.and_eq_true, beq_iff_eq] at h0
    have := dag_any (S := S) τ G hE hG hsel _ hc g 0 (d := d) (s := s) rfl rfl h
    rwa [h0.1, bEq_eq h0.2] at this
  · cases h0

/-- A region that is shown by hand. -/
def RgOk (P : Program) (id : Nat) (ops : Array Oper) (d : Bool) (h : St → Tr) : Prop := ∀ {w0 w : World} {F0 : Bnd} {s : St} {a : Act} {I : Nat → Prop} {ρ : Nat → RC} {S : Ex → St → Prop}, Inv w0 F0 s a w I ρ → sat (h s) S → (Code.region id ops d).wp P (QQ w0 F0 S) a w
def RgAll (P : Program) (O : Opt) : Code → Prop
  | .region id ops d => ∀ h, O.rg id = some h → RgOk P id ops d h
  | .seq a b => RgAll P O a ∧ RgAll P O b
  | .cond _ a b => RgAll P O a ∧ RgAll P O b
  | .block _ c => RgAll P O c
  | .loop c => RgAll P O c
  | _ => True
theorem RgAll.none {O : Opt} (h : ∀ id, O.rg id = .none) : ∀ c, RgAll P O c
  | .region id ops d => fun k hk => by rw [h] at hk; cases hk
  | .seq a b => ⟨RgAll.none h a, RgAll.none h b⟩
  | .cond _ a b => ⟨RgAll.none h a, RgAll.none h b⟩
  | .block _ c => RgAll.none h c
  | .loop c => RgAll.none h c
  | .skip | .exit _ | .ret | .rangeFunc .. | .scope _ | .label _ | .goto _ | .refuse _ => trivial
theorem run_ok (τ : Env) (G : Gam) (O : Opt) (hE : EnvOk P τ) (hG : GOk P G) (hEn : EnOk P G) (hm : P.follows .mixedOrders = true) : ∀ (c : Code) {S : Ex → St → Prop} {s : St} {a : Act} {w : World} {I : Nat → Prop} {ρ : Nat → RC}, chkO τ O c = true → RgAll P O c → Inv w0 F0 s a w I ρ → sat (run Alg.std τ G O c s) S → c.wp P (QQ w0 F0 S) a w
  | .skip, S, s, a, w, I, ρ, hO, hR, h, hs => Go.wp_skip ⟨s, I, ρ, h, hs⟩
  | .region id ops false, S, s, a, w, I, ρ, hO, hR, h, hs => by
    simp only [run] at hs
    split at hs
    · rename_i k hk
      exact hR k hk h hs
    · exact wpList_region (runOps_ok τ G hE hG ops.toList h hs)
  | .region id ops true, S, s, a, w, I, ρ, hO, hR, h, hs => by
    simp only [run] at hs
    split at hs
    · rename_i k hk
      exact hR k hk h hs
    rename_i hrg
    have hd : Keeps (fun _ => False) w { w with drawn := w.drawn + 1 } := ⟨rfl, rfl, rfl, Nat.le_refl _, fun _ _ _ => rfl⟩
    have h' := h.world hd (fun _ _ h => h) (fun _ _ _ _ _ h => h) (fun _ h => h.elim)
    simp only [chkO, hrg, Option.isSome_none, Bool.false_or] at hO
    split at hs
    · rename_i ho
      rw [if_pos ho] at hO
      simp only [Bool.and_eq_true] at hO
      refine wp_region_quiet (C := Keeps (fun _ => False) { w with drawn := w.drawn + 1 }) hm hO.1 (Keeps.refl _ _) ?_
      have := runQ_ok (S := S) τ { G with q := true } hE hG hEn rfl ops.toList (fun o ho => List.all_eq_true.1 hO.2 o ho) h' hs
      exact wpQuiet_mono (Q' := fun a' => ∀ w', Keeps (fun _ => False) { w with drawn := w.drawn + 1 } w' → QQ w0 F0 S .normal a' w') (fun a' hp w' hw' => Post.world hp hw') _ _ this
    · rename_i ho
      rw [if_neg (by simp [ho])] at hO
      rw [Bool.and_eq_true] at hO
      split at hs
      · rename_i D hD
        rw [hD] at hO
        refine wp_region_any hm ?_
        have := (dag_region (S := S) τ G hE hG hO.1 hO.2 h' hs).any
        simpa using this
      · rename_i hD
        rw [hD] at hO
        split at hs
        · rename_i k _
          have := (runSch_ok (S := fun e s => e = .nrm ∧ S .nrm (joinS k s)) τ G hE hG hO.1 (O.sc id) hO.2 h' (joinT_sat hs)).any
          exact wp_mono (wp_region_any hm (by simpa using this)) (fun e a w hq => QQ_join hq)
        · refine wp_region_any hm ?_
          have := (runSch_ok (S := S) τ G hE hG hO.1 (O.sc id) hO.2 h' hs).any
          simpa using this
  | .seq x y, S, s, a, w, I, ρ, hO, hR, h, hs => by
    simp only [run, sat_bind] at hs
    simp only [chkO, Bool.and_eq_true] at hO
    refine wp_seq (wp_mono (run_ok τ G O hE hG hEn hm x hO.1 hR.1 h hs) fun e a w hq => ?_)
    cases e with
    | normal =>
      obtain ⟨s2, I2, ρ2, h2, k2⟩ := hq
      simp only at k2
      split at k2
      · simp only [sat] at k2
        obtain ⟨In, ⟨n0, h0⟩, hround⟩ := k2
        obtain ⟨Jh, ρh, hh⟩ := h2.head (O.kp (firstR y)) (O.oh (firstR y)) (O.lf (firstR y))
        exact run_ok τ G O hE hG hEn hm y hO.2 hR.2 hh (hround n0 _ h0)
      · exact run_ok τ G O hE hG hEn hm y hO.2 hR.2 h2 k2
    | exit id => exact hq
    | ret => exact hq
    | panic _ => exact hq.elim
    | goto _ => exact hq.elim
    | outgrown => exact hq.elim
  | .cond c x y, S, s, a, w, I, ρ, hO, hR, h, hs => by
    simp only [chkO, Bool.and_eq_true] at hO
    have hc := h.ev c
    simp only [run] at hs
    split at hs
    · rename_i e
      rw [e] at hc
      exact wp_cond_true (lb_dat hc) (run_ok τ G O hE hG hEn hm x hO.1 hR.1 h hs)
    · rename_i e
      rw [e] at hc
      exact wp_cond_false (lb_dat hc) (run_ok τ G O hE hG hEn hm y hO.2 hR.2 h hs)
    · rename_i b e
      rw [e] at hc
      exact wp_cond_split hc.bool_inv (fun hb => run_ok τ G O hE hG hEn hm x hO.1 hR.1 h (hs.1 hb)) (fun hb => run_ok τ G O hE hG hEn hm y hO.2 hR.2 h (hs.2 hb))
    · exact hs.elim
  | .block id c, S, s, a, w, I, ρ, hO, hR, h, hs => by
    simp only [run, sat_bind] at hs
    simp only [chkO] at hO
    refine wp_block (wp_mono (run_ok τ G O hE hG hEn hm c hO hR h hs) fun e a w hq => ?_)
    cases e with
    | normal => exact hq
    | exit j =>
      obtain ⟨s2, I2, ρ2, h2, k2⟩ := hq
      simp only at k2
      unfold Exit.inBlock
      split at k2
      · rename_i e
        subst e
        simp only [if_true]
        exact ⟨s2, I2, ρ2, h2, k2⟩
      · rename_i e
        simp only [e, if_false]
        exact ⟨s2, I2, ρ2, h2, k2⟩
    | ret => exact hq
    | panic _ => exact hq.elim
    | goto _ => exact hq.elim
    | outgrown => exact hq.elim
  | .loop c, S, s, a, w, I, ρ, hO, hR, h, hs => by
    simp only [run, sat] at hs
    obtain ⟨In, ⟨n0, h0⟩, hround⟩ := hs
    obtain ⟨Jh, ρh, hh⟩ := h.head (O.kp (firstR c)) (O.oh (firstR c)) (O.lf (firstR c))
    refine wp_loop_ghost (fun n a w => Post w0 F0 (In n) a w) n0 ⟨_, Jh, ρh, hh, h0⟩ fun n a w hp => ?_
    obtain ⟨s2, I2, ρ2, h2, k2⟩ := hp
    have hr := hround n s2 k2
    rw [sat_bind] at hr
    simp only [chkO] at hO
    refine wp_mono (run_ok τ G O hE hG hEn hm c hO hR h2 hr) fun e a w hq => ?_
    cases e with
    | normal =>
      obtain ⟨s3, I3, ρ3, h3, m, hmn, k3⟩ := hq
      obtain ⟨Jh, ρh, hh⟩ := h3.head (O.kp (firstR c)) (O.oh (firstR c)) (O.lf (firstR c))
      exact ⟨m, hmn, _, Jh, ρh, hh, k3⟩
    | exit id => exact hq
    | ret => exact hq
    | panic _ => exact hq.elim
    | goto _ => exact hq.elim
    | outgrown => exact hq.elim
  | .exit id, S, s, a, w, I, ρ, hO, hR, h, hs => wp_exit ⟨s, I, ρ, h, hs⟩
  | .ret, S, s, a, w, I, ρ, hO, hR, h, hs => wp_ret ⟨s, I, ρ, h, hs⟩
  | .rangeFunc .., S, s, a, w, I, ρ, hO, hR, h, hs => by simp only [run] at hs; exact hs.elim
  | .scope _, S, s, a, w, I, ρ, hO, hR, h, hs => by simp only [run] at hs; exact hs.elim
  | .label _, S, s, a, w, I, ρ, hO, hR, h, hs => by simp only [run] at hs; exact hs.elim
  | .goto _, S, s, a, w, I, ρ, hO, hR, h, hs => by simp only [run] at hs; exact hs.elim
  | .refuse _, S, s, a, w, I, ρ, hO, hR, h, hs => by simp only [run] at hs; exact hs.elim

end
end Go.Vee

set_option linter.unusedSimpArgs false
set_option linter.unusedVariables false
namespace Go.Vee
open Go

theorem Own.toSh {w : World} {I : Nat → Prop} : ∀ {t : Ty} {m : Md} {cs : List Value} {x : t.den}, isSh t m = true → Own w I t .sh cs x [] → Own w I t m cs x []
  | .int _, _, _, _, _, h => h
  | .bool, _, _, _, _, h => h
  | .str, _, _, _, _, h => h
  | .unit, _, _, _, _, h => h
  | .sl e, m, _, _, hs, h => by
    have : m = .sh := by simpa [isSh] using hs
    subst this
    exact h
  | .pair a b, m, _, _, hs, h => by
    simp only [isSh, Bool.and_eq_true] at hs
    obtain ⟨c1, c2, f1, f2, e1, e2, h1, h2⟩ := h
    obtain ⟨rfl, rfl⟩ := List.append_eq_nil_iff.1 e2.symm
    exact ⟨c1, c2, [], [], e1, rfl, Own.toSh hs.1 h1, Own.toSh hs.2 h2⟩

section
variable {P : Program} {w0 w : World} {F0 : Bnd} {s : St} {a : Act} {I J : Nat → Prop} {ρ : Nat → RC} {H : Heap} {o : Oper} {K : St → Prop} {Q : Exit → Act → World → Prop} {C : World → Prop}

/-- A result's value: what 'results' reads of one variable. -/
def resOne (tmps : Array Value) : ResultVar → Sem Value
  | .tmp t => pure (tmps.getD t undef)
  | .cell a t => do loadVar t (← asAddr (tmps.getD a undef))

/-- One result: its cells, their values. -/
theorem resC_spec (τ : Env) (hE : EnvOk P τ) (h : Inv w0 F0 s a w I ρ) {rv : ResultVar} {l : List AV} {t : Ty} (hl : resC τ s t rv = some l) :
    ∃ us, us.length = t.sz ∧ VRs w I ρ s.H l us ∧ (resOne a.tmps rv).run P w = .ok (mkV t us) w := by
  unfold resC at hl
  split at hl
  · rename_i l' hl'
    split at hl
    · rename_i hfo
      cases hl
      obtain ⟨hfit, hok⟩ := hfo
      cases rv with
      | tmp i =>
        simp only [resR] at hl'
        split at hl'
        · rename_i hagg
          cases hl'
          rcases h.slot i with hj | ⟨u, hu, hv⟩
          · rw [hj] at hok; simp [cellsOf, okc] at hok
          · obtain ⟨us, h1, h2⟩ := hv.cells hok
            have hul : us.length = t.sz := by rw [← h2.len, hfit]
            refine ⟨us, hul, h2, ?_⟩
            have := mkV_of_cells hv h1 hul hagg hok
            simp only [resOne, Sem.run_pure]
            rw [← this]
            simp [Array.getD_eq_getD_getElem?, hu]
        · cases hl'
      | cell ad ti =>
        simp only [resR] at hl'
        split at hl'
        · rename_i hT
          split at hl'
          · rename_i r off hb
            split at hl'
            · rename_i cs hr
              split at hl'
              · rename_i hin
                cases hl'
                rcases h.slot ad with hj | ⟨u, hu, hv⟩
                · rw [hj] at hb; cases hb
                · rw [hb] at hv
                  obtain ⟨rfl, _⟩ := hv.bptr_inv
                  obtain ⟨arr, et, hbb, hsz, hcs⟩ := h.boxCells hr off (by omega)
                  have hfit2 : (ρ r).off + off + t.sz ≤ arr.size := by omega
                  have hcs2 := hcs.take t.sz
                  have e : (seg arr ((ρ r).off + off) (cs.length - off)).take t.sz = seg arr ((ρ r).off + off) t.sz := by
                    simp only [seg, List.take_take]; congr 1; omega
                  rw [e] at hcs2
                  refine ⟨_, seg_length hfit2, hcs2, ?_⟩
                  have hrun := run_loadVar' (P := P) (hE.ty ti t hT) hbb hfit2
                  simp [resOne, Array.getD_eq_getD_getElem?, hu, asAddr, hrun]
              · cases hl'
            · cases hl'
          · cases hl'
        · cases hl'
    · cases hl
  · cases hl

theorem exitD_spec {n : Nat} (τ : Env) (hE : EnvOk P τ) (h : Inv w0 F0 s a w I ρ) (hJ : ∀ b, I b → J b) (hroot : ∀ r o, hget s.H r = some o → ∀ b ∈ tfp ρ r o, J b) : ∀ {rvs : List ResultVar} {outs : List ((t : Ty) × Md × t.den)} {ps : List Prop},
    exitD Alg.std τ s rvs outs = some ps → (∀ p ∈ ps, p) → ∃ us, Outs w J n outs us (List.replicate outs.length []) ∧ (rvs.mapM (resOne a.tmps)).run P w = .ok us w
  | [], [], ps, hx, hp => ⟨[], ⟨rfl, rfl, by simp⟩, by simp⟩
  | [], _ :: _, ps, hx, hp => by simp [exitD] at hx
  | _ :: _, [], ps, hx, hp => by simp [exitD] at hx
  | v :: vs, ⟨t, m, x⟩ :: outs, ps, hx, hp => by
    simp only [exitD] at hx
    split at hx
    · rename_i hsh
      obtain ⟨hsh, hnp⟩ := hsh
      split at hx
      · rename_i l hl
        split at hx
        · rename_i y hy
          split at hx
          · rename_i q hq
            cases hx
            obtain ⟨us1, e1, e2, e3⟩ := resC_spec τ hE h hl
            obtain ⟨u1, u2, rfl, hv2, _, hown⟩ := packD_spec h hJ e2 hy (fun _ => hroot)
            have hu2 : u2 = [] := List.eq_nil_of_length_eq_zero (by have := hv2.len; simpa using this.symm)
            subst hu2
            rw [List.append_nil] at e3
            have hyx : y = x := hp (y = x) (by simp)
            subst hyx
            obtain ⟨us, o1, o2⟩ := exitD_spec (n := n) τ hE h hJ hroot hq (fun p hp' => hp p (by simp [hp']))
            refine ⟨mkV t u1 :: us, ⟨by simp [o1.len], by simp, fun i q u hq hu => ?_⟩, by simp [e3, o2]⟩
            cases i with
            | zero =>
              simp at hq hu
              subst hq
              subst hu
              exact (OutOk.dat hnp).2 ⟨u1, rfl, by simpa [List.replicate_succ] using Own.toSh hsh hown⟩
            | succ i =>
              have := o1.at_ i q u (by simpa using hq) (by simpa using hu)
              simpa [List.replicate_succ] using this
          · cases hx
        · cases hx
      · cases hx
    · cases hx

theorem exitM_spec {n : Nat} {np : Bool} (τ : Env) (hE : EnvOk P τ) (h : Inv w0 F0 s a w I ρ) (hnp : np = true → ∀ r o, hget s.H r = some o → ∀ b ∈ tfp ρ r o, n ≤ b) : ∀ {rvs : List ResultVar} {outs : List ((t : Ty) × Md × t.den)} {H : Heap} {ps : List Prop},
    (∀ r o, hget H r = some o → hget s.H r = some o) → exitM Alg.std τ s np rvs outs H = some ps → (∀ p ∈ ps, p) → ∃ us fps, Outs w I n outs us fps ∧ (rvs.mapM (resOne a.tmps)).run P w = .ok us w ∧ fps.flatten.Nodup ∧ ∀ b ∈ fps.flatten, ∃ r o, hget H r = some o ∧ b ∈ tfp ρ r o
  | [], [], H, ps, hH, hx, hp => ⟨[], [], ⟨rfl, rfl, by simp⟩, by simp, by simp, by simp⟩
  | [], _ :: _, H, ps, hH, hx, hp => by simp [exitM] at hx
  | _ :: _, [], H, ps, hH, hx, hp => by simp [exitM] at hx
  | v :: vs, ⟨t, m, x⟩ :: outs, H, ps, hH, hx, hp => by
    -- the rest, and what is put ahead of it
    have fin : ∀ {u : Value} {fp : List Nat} {H1 : Heap} {q : List Prop}, OutOk w I n t m x u fp → (resOne a.tmps v).run P w = .ok u w → fp.Nodup → (∀ b ∈ fp, ∃ r o, hget H r = some o ∧ hget H1 r = none ∧ b ∈ tfp ρ r o) → (∀ r o, hget H1 r = some o → hget H r = some o) →
        exitM Alg.std τ s np vs outs H1 = some q → (∀ p ∈ q, p) → ∃ us fps, Outs w I n (⟨t, m, x⟩ :: outs) us fps ∧ ((v :: vs).mapM (resOne a.tmps)).run P w = .ok us w ∧ fps.flatten.Nodup ∧ ∀ b ∈ fps.flatten, ∃ r o, hget H r = some o ∧ b ∈ tfp ρ r o := by
      intro u fp H1 q hout hrun hnd hsrc hsub hq hqq
      obtain ⟨us, fps, o1, o2, o3, o4⟩ := exitM_spec τ hE h hnp (fun r o hr => hH r o (hsub r o hr)) hq hqq
      refine ⟨u :: us, fp :: fps, ⟨by simp [o1.len], by simp [o1.fl], fun i q u' hq hu => ?_⟩, by simp [hrun, o2], ?_, fun b hb => ?_⟩
      · cases i with
        | zero =>
          simp at hq hu
          subst hq
          subst hu
          simpa using hout
        | succ i =>
          have := o1.at_ i q u' (by simpa using hq) (by simpa using hu)
          simpa using this
      · rw [List.flatten_cons, List.nodup_append]
        refine ⟨hnd, o3, fun b hb c hc hbc => ?_⟩
        subst hbc
        obtain ⟨r, o, g1, g2, g3⟩ := hsrc b hb
        obtain ⟨r', o', g4, g5⟩ := o4 b hc
        have hne : r ≠ r' := by rintro rfl; rw [g2] at g4; cases g4
        exact h.disj r o r' o' hne (hH _ _ g1) (hH _ _ (hsub _ _ g4)) b g3 g5
      · rw [List.flatten_cons] at hb
        rcases List.mem_append.1 hb with hb | hb
        · obtain ⟨r, o, g1, g2, g3⟩ := hsrc b hb
          exact ⟨r, o, g1, g3⟩
        · obtain ⟨r, o, g1, g3⟩ := o4 b hb
          exact ⟨r, o, hsub r o g1, g3⟩
    simp only [exitM] at hx
    split at hx
    · rename_i m' hm
      split at hx
      · rename_i r cs hrp
        split at hx
        · rename_i hcond
          obtain ⟨hnp1, hlen, hok⟩ := hcond
          split at hx
          · rename_i k hk
            split at hx
            · rename_i hkl
              split at hx
              · rename_i heq
                split at hx
                · rename_i q hq
                  cases hx
                  -- the pointer and its variable
                  have hpt : ∃ i, v = .tmp i ∧ s.fr.getD i .junk = .bptr r 0 ∧ hget H r = some (.box cs) := by
                    cases v with
                    | tmp i =>
                      simp only [resP] at hrp
                      split at hrp
                      · rename_i r' hsl
                        split at hrp
                        · rename_i cs' hb'
                          cases hrp
                          exact ⟨i, rfl, hsl, hb'⟩
                        · cases hrp
                      · cases hrp
                    | cell _ _ => simp [resP] at hrp
                  obtain ⟨i, rfl, hsl, hr⟩ := hpt
                  have hrs := hH r _ hr
                  obtain ⟨arr, et, w1, w2, w3⟩ := h.boxCells hrs 0 (Nat.zero_le _)
                  simp only [List.drop_zero, Nat.sub_zero, Nat.add_zero] at w3
                  rcases h.slot i with hj | ⟨u, hu, hv⟩
                  · rw [hj] at hsl; cases hsl
                  · rw [hsl] at hv
                    obtain ⟨hue, _⟩ := hv.bptr_inv
                    have hkx : k.x = x := hp _ (by simp)
                    obtain ⟨u1, u2, fp, e1, hv2, pk⟩ := packM_spec s.H h.rootsOf (fun r' o' h' => hH _ _ (by
                      rw [hget_set_none] at h'
                      split at h'
                      · cases h'
                      · exact h')) w3 hk (fun p hp' => hp p (by simp [hp']))
                    have hu2 : u2 = [] := List.eq_nil_of_length_eq_zero (by have := hv2.len; rw [hkl] at this; simpa using this.symm)
                    subst hu2
                    rw [List.append_nil] at e1
                    have hks : ∀ r' o', hget (H.set r none) r' = some o' → r' ≠ r ∧ hget H r' = some o' := fun r' o' h' => by
                      rw [hget_set_none] at h'
                      split at h'
                      · cases h'
                      · rename_i hne; exact ⟨hne, h'⟩
                    have hk0 : hget k.H r = none := by
                      cases hkr : hget k.H r with
                      | none => rfl
                      | some o' => exact absurd rfl (hks _ _ (pk.sub r o' hkr)).1
                    have hbfp : (ρ r).b ∉ fp := fun hh => by
                      obtain ⟨r1, o1, z1, z2, z3⟩ := pk.src _ hh
                      obtain ⟨hne, z1⟩ := hks _ _ z1
                      exact h.disj r1 o1 r _ hne (hH _ _ z1) hrs _ z3 (by simp [tfp])
                    refine fin (u := u) (fp := (ρ r).b :: fp) ((OutOk.ptr hm).2 ⟨(ρ r).b, (ρ r).off, arr, et, fp, by rw [hue, Nat.add_zero], hnp hnp1 r _ hrs _ (by simp [tfp]), w1, by rw [← hlen]; exact w2, ?_, rfl⟩) ?_ (List.nodup_cons.2 ⟨hbfp, pk.nd⟩) (fun b hb => ?_)
                      (fun r' o' h' => (hks _ _ (pk.sub r' o' h')).2) hq (fun p hp' => hp p (by simp [hp']))
                    · rw [← hkx, ← hlen, e1]
                      exact pk.own.eqM heq
                    · simp [resOne, Array.getD_eq_getD_getElem?, hu]
                    · rcases List.mem_cons.1 hb with rfl | hb
                      · exact ⟨r, _, hr, hk0, by simp [tfp]⟩
                      · obtain ⟨r1, o1, z1, z2, z3⟩ := pk.src _ hb
                        exact ⟨r1, o1, (hks _ _ z1).2, z2, z3⟩
                · cases hx
              · cases hx
            · cases hx
          · cases hx
        · cases hx
      · cases hx
    · rename_i hm
      split at hx
      · rename_i l hl
        split at hx
        · rename_i k hk
          split at hx
          · rename_i hkl
            split at hx
            · rename_i heq
              split at hx
              · rename_i q hq
                cases hx
                obtain ⟨us1, e1, e2, e3⟩ := resC_spec τ hE h hl
                obtain ⟨u1, u2, fp, rfl, hv2, pk⟩ := packM_spec s.H h.rootsOf hH e2 hk (fun p hp' => hp p (by simp [hp']))
                have hu2 : u2 = [] := List.eq_nil_of_length_eq_zero (by have := hv2.len; rw [hkl] at this; simpa using this.symm)
                subst hu2
                rw [List.append_nil] at e3
                have hyx : k.x = x := hp (k.x = x) (by simp)
                subst hyx
                exact fin ((OutOk.dat hm).2 ⟨u1, rfl, pk.own.eqM heq⟩) e3 pk.nd pk.src pk.sub hq (fun p hp' => hp p (by simp [hp']))
              · cases hx
            · cases hx
          · cases hx
        · cases hx
      · cases hx

theorem run_results {fn : Func} {tmps : Array Value} {us : List Value} (h : (fn.results.toList.mapM (resOne tmps)).run P w = .ok us w) : (results fn tmps).run P w = .ok (retVal us) w := by
  have e : (results fn tmps) = (do let vs ← fn.results.mapM (resOne tmps); pure (if h : vs.size = 1 then vs[0] else .tuple vs)) := by
    unfold results
    have : (fun x : ResultVar => match x with
      | .tmp t => (pure (tmps.getD t undef) : Sem Value)
      | .cell a t => do loadVar t (← asAddr (tmps.getD a undef))) = resOne tmps := by
      funext x; cases x <;> rfl
    rw [← this]
    rfl
  rw [e, Array.mapM_eq_mapM_toList]
  simp only [Sem.run_bind, Sem.run_map, h, Result.andThen_ok, Sem.run_pure]
  match us with
  | [] => simp [retVal]
  | [u] => simp [retVal]
  | u :: u2 :: us => simp [retVal]

/-- What is known of any data. -/
def wf : (t : Ty) → t.den → Prop
  | .int k, n => k.min ≤ n ∧ n ≤ k.max
  | .bool, _ => True
  | .str, l => l.length ≤ 9223372036854775807 ∧ ∀ n ∈ l, 0 ≤ n ∧ n ≤ 255
  | .sl e, l => l.length ≤ 9223372036854775807 ∧ ∀ x ∈ l, wf e x
  | .unit, _ => True
  | .pair a b, x => wf a x.1 ∧ wf b x.2

theorem Own.wf : ∀ {t : Ty} {m : Md} {cs : List Value} {x : t.den} {fp : List Nat}, Own w I t m cs x fp → Vee.wf t x
  | .int _, _, _, _, _, h => h.2.1
  | .bool, _, _, _, _, h => trivial
  | .str, _, _, _, _, h => by
    obtain ⟨⟨s, _, rfl, h2⟩, _⟩ := h
    refine ⟨by rw [List.length_map]; have : s.data.toList.length = s.size := Array.length_toList; omega, fun n hn => ?_⟩
    obtain ⟨b, _, rfl⟩ := List.mem_map.1 hn
    have := b.toNat_lt
    omega
  | .sl e, .sh, _, _, _, h => by
    refine ⟨h.1, fun x hx => ?_⟩
    obtain ⟨j, hj, rfl⟩ := List.getElem_of_mem hx
    obtain ⟨_, _, A, c, _, _, h2⟩ := h
    rcases h2 with rfl | ⟨b, off, arr, et, fr, _, _, _, hel⟩
    · simp at hj
    · exact (hel j hj).2.wf
  | .sl e, .ow m', _, _, _, h => by
    refine ⟨h.1, fun x hx => ?_⟩
    obtain ⟨j, hj, rfl⟩ := List.getElem_of_mem hx
    rcases h.2 with ⟨_, rfl, _⟩ | ⟨b, c, arr, et, fps, _, _, _, _, _, _, _, hel⟩
    · simp at hj
    · exact (hel j hj).wf
  | .sl e, .no, _, _, _, h => by
    refine ⟨h.1, fun x hx => ?_⟩
    obtain ⟨j, hj, rfl⟩ := List.getElem_of_mem hx
    rcases h.2 with ⟨rfl, _⟩ | ⟨_, ⟨_, rfl, _⟩ | ⟨b, c, arr, et, fps, _, _, _, _, _, _, _, hel⟩⟩
    · simp at hj
    · simp at hj
    · exact (hel j hj).wf
  | .sl e, .pr _ _, _, _, _, h => h.2.elim
  | .unit, _, _, _, _, h => trivial
  | .pair a b, _, _, _, _, h => by
    obtain ⟨c1, c2, f1, f2, _, _, h1, h2⟩ := h
    exact ⟨h1.wf, h2.wf⟩

def wfV : AV → Prop
  | .dat t x => Vee.wf t x
  | .dptr t x => Vee.wf t x
  | .mv t _ x => Vee.wf t x
  | .mp t _ x => Vee.wf t x
  | _ => True
def wfL : List AV → Prop
  | [] => True
  | v :: vs => wfV v ∧ wfL vs

theorem AR.wf {v : AV} {u : Value} (h : AR w I v u) : wfV v := by
  cases h <;> first | trivial | skip
  case dat t x cs ho => exact ho.wf
  case dptr t x b off arr et fr hb hi hs ho => exact ho.wf

/-! ## Arguments that may be written -/
/-- The cells of what came in to be written. -/
def gusOf : List AV → List Value → List Value
  | [], _ => []
  | _, [] => []
  | v :: al, u :: us =>
    match v with
    | .mv .. => u.cells.toList ++ gusOf al us
    | .mp .. => u :: gusOf al us
    | _ => gusOf al us

/-- Slots that mean nothing. -/
theorem layAs_spec : ∀ {al : List AV} {us : List Value} {fps : List (List Nat)} {H H' : Heap} {vs g : List AV} {ρ : Nat → RC} {fr : List AV}, Inv w F0 ⟨fr, H⟩ a w I ρ → al.length = us.length → fps.length = al.length →
    (∀ (i : Nat) (v : AV) (u : Value), al[i]? = some v → us[i]? = some u → ARg w I v u (fps.getD i [])) → fps.flatten.Nodup → Free w F0 I ρ H fps.flatten → (∀ b ∈ fps.flatten, b < w.heap.size) → layAs Alg.std al H = some (vs, g, H') →
    ∃ ρ', Inv w F0 ⟨fr, H'⟩ a w I ρ' ∧ Ext w w I I ρ ρ' H H' ∧ vs.length = us.length ∧ (∀ (i : Nat) (v : AV) (u : Value), vs[i]? = some v → us[i]? = some u → VR w I ρ' H' v u) ∧ VRs w I ρ' H' g (gusOf al us)
  | [], us, fps, H, H', vs, g, ρ, fr, h, hl, hfl, ha, hn, hf, hlt, hlay => by
    simp [layAs] at hlay
    obtain ⟨rfl, rfl, rfl⟩ := hlay
    exact ⟨ρ, h, Ext.refl, by simpa using hl, by simp, VRs.nil⟩
  | v :: al, [], fps, H, H', vs, g, ρ, fr, h, hl, hfl, ha, hn, hf, hlt, hlay => by simp at hl
  | v :: al, u :: us, [], H, H', vs, g, ρ, fr, h, hl, hfl, ha, hn, hf, hlt, hlay => by simp at hfl
  | v :: al, u :: us, fp :: fps, H, H', vs, g, ρ, fr, h, hl, hfl, ha, hn, hf, hlt, hlay => by
    have ha0 := ha 0 v u rfl rfl
    simp only [List.getD_cons_zero] at ha0
    have ha' : ∀ (i : Nat) (v : AV) (u : Value), al[i]? = some v → us[i]? = some u → ARg w I v u (fps.getD i []) := fun i v u hv hu => by simpa using ha (i + 1) v u (by simpa using hv) (by simpa using hu)
    rw [List.flatten_cons] at hn hf hlt
    rw [List.nodup_append] at hn
    obtain ⟨n1, n2, n12⟩ := hn
    have data : ∀ {vs' : List AV}, gusOf (v :: al) (u :: us) = gusOf al us → AR w I v u → layAs Alg.std al H = some (vs', g, H') →
        ∃ ρ', Inv w F0 ⟨fr, H'⟩ a w I ρ' ∧ Ext w w I I ρ ρ' H H' ∧ (v :: vs').length = (u :: us).length ∧ (∀ (i : Nat) (x : AV) (y : Value), (v :: vs')[i]? = some x → (u :: us)[i]? = some y → VR w I ρ' H' x y) ∧ VRs w I ρ' H' g (gusOf (v :: al) (u :: us)) := by
      intro vs' hg hv hrec
      obtain ⟨ρ', k1, k2, k3, k4, k5⟩ := layAs_spec h (by simpa using hl) (by simpa using hfl) ha' n2 (fun b hb => hf b (List.mem_append_right _ hb)) (fun b hb => hlt b (List.mem_append_right _ hb)) hrec
      refine ⟨ρ', k1, k2, by simp [k3], fun i x y hx hy => ?_, by rw [hg]; exact k5⟩
      cases i with
      | zero => simp at hx hy; subst hx; subst hy; exact hv.to _ _
      | succ i => exact k4 i x y (by simpa using hx) (by simpa using hy)
    cases v with
    | mv t m x =>
      obtain ⟨cs, hu, ho⟩ := ha0
      simp only [layAs] at hlay
      split at hlay
      · rename_i l H1 hc
        split at hlay
        · rename_i vs' g' H2 hrec
          cases hlay
          obtain ⟨ρ1, k1, E1, v1, q1⟩ := layC_spec h ho n1 (fun b hb => hf b (List.mem_append_left _ hb)) hc
          obtain ⟨ρ', k2, E2, k3, k4, k5⟩ := layAs_spec k1 (by simpa using hl) (by simpa using hfl) ha' n2 (fun b hb => by
            obtain ⟨z1, z2, z3⟩ := hf b (List.mem_append_right _ hb)
            refine ⟨z1, z2, fun r o hr hb' => ?_⟩
            rcases q1 r o hr with ⟨hr', e⟩ | hin
            · exact z3 r o hr' (e ▸ hb')
            · exact n12 b (hin b hb') b hb rfl) (fun b hb => hlt b (List.mem_append_right _ hb)) hrec
          have hcells : u.cells.toList = cs := by rw [hu, mkV_cells ho.len ho.one]
          refine ⟨ρ', k2, E1.trans E2, by simp [k3], fun i x y hx hy => ?_, ?_⟩
          · cases i with
            | zero =>
              simp at hx hy
              subst hx
              subst hy
              rw [hu]
              exact (v1.ofCells ho.len).ext E2
            | succ i => exact k4 i x y (by simpa using hx) (by simpa using hy)
          · simp only [gusOf, hcells]
            exact (v1.ext E2).app k5
        · cases hlay
      · cases hlay
    | mp t m x =>
      obtain ⟨b0, off, arr, et, fp', hu, hb, hsz, ho, rfl⟩ := ha0
      rw [List.nodup_cons] at n1
      simp only [layAs] at hlay
      split at hlay
      · rename_i l H1 hc
        split at hlay
        · rename_i vs' g' H2 hrec
          cases hlay
          obtain ⟨ρ1, k1, E1, v1, q1⟩ := layC_spec h ho n1.2 (fun b hb => hf b (List.mem_append_left _ (List.mem_cons_of_mem _ hb))) hc
          have hll : l.length = t.sz := by rw [v1.len, seg_length hsz]
          obtain ⟨z1, z2, z3⟩ := hf b0 (List.mem_append_left _ (by simp))
          have E0 : Ext w w I I ρ1 (upd ρ1 H1.length ⟨b0, off, .nilIface, []⟩) H1 (H1 ++ [some (.box l)]) := Ext.add _ _
          have hadd := k1.add (.box l) ⟨b0, off, .nilIface, []⟩ (by
            refine ⟨arr, et, by simpa [upd] using hb, by simpa [upd, hll] using hsz, fun i v hi => ?_⟩
            have hi' : i < t.sz := by have := (List.getElem?_eq_some_iff.1 hi).1; omega
            have e := seg_get (arr := arr) (i := off) hi'
            have hsl : (seg arr off t.sz).length = t.sz := seg_length hsz
            rw [List.getElem?_eq_getElem (by omega)] at e
            exact ⟨_, by simpa [upd] using e.symm, v1.one _ (List.getElem_mem _), (v1.at_ i v _ hi (by simp)).ext E0⟩) (by simp [tfp]) (fun b hb' => by
            have : b = b0 := by simpa [tfp, upd] using hb'
            subst this
            refine ⟨z1, hlt b (List.mem_append_left _ (by simp)), z2, fun r o hr hb' => ?_⟩
            rcases q1 r o hr with ⟨hr', e⟩ | hin
            · exact z3 r o hr' (e ▸ hb')
            · exact n1.1 (hin b hb')) (fun cs _ arr0 et0 fr0 hb0 => by
            have hb0' : w.heap[b0]? = some (.cells arr0 et0 fr0) := hb0
            rw [hb] at hb0'
            cases hb0'
            exact ⟨arr, et, hb, rfl, fun _ _ => rfl⟩)
          have hbx : VR w I (upd ρ1 H1.length ⟨b0, off, .nilIface, []⟩) (H1 ++ [some (.box l)]) (.bptr H1.length 0) u := by
            rw [hu]
            have := VR.bptr (w := w) (I := I) (ρ := upd ρ1 H1.length ⟨b0, off, .nilIface, []⟩) (H := H1 ++ [some (.box l)]) H1.length 0 (by simp)
            simpa [upd] using this
          obtain ⟨ρ', k2, E2, k3, k4, k5⟩ := layAs_spec hadd (by simpa using hl) (by simpa using hfl) ha' n2 (fun b hb => by
            obtain ⟨y1, y2, y3⟩ := hf b (List.mem_append_right _ hb)
            refine ⟨y1, y2, fun r o hr hb' => ?_⟩
            rw [hget_app] at hr
            split at hr
            · rename_i he
              cases hr
              subst he
              have hbe : b = b0 := by simpa [tfp, upd] using hb'
              exact n12 b (by simp [hbe]) b hb rfl
            · rename_i he
              have hlt' := hget_lt hr
              have hb2 : b ∈ tfp ρ1 r o := by
                cases o <;> simp [tfp, upd, he] at hb' ⊢ <;> exact hb'
              rcases q1 r o hr with ⟨hr', e⟩ | hin
              · exact y3 r o hr' (e ▸ hb2)
              · exact n12 b (List.mem_cons_of_mem _ (hin b hb2)) b hb rfl) (fun b hb => hlt b (List.mem_append_right _ hb)) hrec
          refine ⟨ρ', k2, (E1.trans E0).trans E2, by simp [k3], fun i x y hx hy => ?_, ?_⟩
          · cases i with
            | zero =>
              simp at hx hy
              subst hx
              subst hy
              exact hbx.ext E2
            | succ i => exact k4 i x y (by simpa using hx) (by simpa using hy)
          · simp only [gusOf]
            exact VRs.cons (hbx.ext E2) (by rw [hu]; rfl) k5
        · cases hlay
      · cases hlay
    | _ =>
      simp only [layAs] at hlay
      split at hlay
      · rename_i vs' g' H1 hrec
        cases hlay
        exact data rfl ha0.1 hrec
      · cases hlay

theorem findGh_spec : ∀ {H : Heap} {g : List AV}, findGh H = some g → ∃ r, hget H r = some (.gh g)
  | [], g, h => by simp [findGh] at h
  | none :: H, g, h => by
    obtain ⟨r, hr⟩ := findGh_spec (H := H) (by simpa [findGh] using h)
    exact ⟨r + 1, by simpa [hget] using hr⟩
  | some o :: H, g, h => by
    cases o with
    | gh cs => simp [findGh] at h; subst h; exact ⟨0, by simp [hget]⟩
    | box cs =>
      obtain ⟨r, hr⟩ := findGh_spec (H := H) (by simpa [findGh] using h)
      exact ⟨r + 1, by simpa [hget] using hr⟩
    | row v e m xs =>
      obtain ⟨r, hr⟩ := findGh_spec (H := H) (by simpa [findGh] using h)
      exact ⟨r + 1, by simpa [hget] using hr⟩

theorem gone_fp {w' : World} {I' : Nat → Prop} {v : AV} {u : Value} (h : gone v = true) : BackA w w' I' v u [] := by cases v <;> first | rfl | simp [gone] at h

theorem backs_cons {w' : World} {I' : Nat → Prop} {bs : List AV} {u : Value} {us : List Value} {fp : List Nat} {fpb : List (List Nat)} (h0 : BackA w w' I' (bs.headD .junk) u fp) (h : Backs w w' I' bs.tail us fpb) :
    ∃ fpb', Backs w w' I' bs (u :: us) fpb' ∧ (fpb' = fp :: fpb ∨ (bs = [] ∧ fpb' = [])) := by
  cases bs with
  | nil => exact ⟨[], ⟨rfl, by simp⟩, .inr ⟨rfl, rfl⟩⟩
  | cons b bs =>
    refine ⟨fp :: fpb, ⟨by simpa using h.fl, fun i v u' hv hu => ?_⟩, .inl rfl⟩
    cases i with
    | zero => simp at hv hu; subst hv; subst hu; simpa using h0
    | succ i => simpa using h.at_ i v u' (by simpa using hv) (by simpa using hu)

/-- What has become of the arguments that may be written. -/
theorem backsM_spec (h : Inv w0 F0 s a w I ρ) : ∀ {al bs : List AV} {us : List Value} {fps : List (List Nat)} {g : List AV} {H H' : Heap} {ps : List Prop}, al.length = us.length → (∀ (i : Nat) (v : AV) (u : Value), al[i]? = some v → us[i]? = some u → ARg w0 J v u (fps.getD i [])) →
    VRs w I ρ s.H g (gusOf al us) → (∀ r o, hget H r = some o → hget s.H r = some o) → backsM Alg.std al bs g H = some (H', ps) → (∀ p ∈ ps, p) →
    ∃ fpb, Backs w0 w I bs us fpb ∧ fpb.flatten.Nodup ∧ (∀ b ∈ fpb.flatten, ∃ r o, hget H r = some o ∧ hget H' r = none ∧ b ∈ tfp ρ r o) ∧ (∀ r o, hget H' r = some o → hget H r = some o)
  | [], bs, us, fps, g, H, H', ps, hl, ha, hv, hH, hb, hq => by
    simp [backsM] at hb
    obtain ⟨rfl, _⟩ := hb
    have hus : us = [] := List.eq_nil_of_length_eq_zero (by simpa using hl.symm)
    subst hus
    refine ⟨List.replicate bs.length [], ⟨by simp, by simp⟩, by simp, by simp, fun _ _ h => h⟩
  | v :: al, bs, [], fps, g, H, H', ps, hl, ha, hv, hH, hb, hq => by simp at hl
  | v :: al, bs, u :: us, fps, g, H, H', ps, hl, ha, hv, hH, hb, hq => by
    have ha0 := ha 0 v u rfl rfl
    have ha' : ∀ (i : Nat) (v : AV) (u : Value), al[i]? = some v → us[i]? = some u → ARg w0 J v u (fps.tail.getD i []) := fun i v u hv hu => by
      have := ha (i + 1) v u (by simpa using hv) (by simpa using hu)
      cases fps <;> simpa using this
    -- nothing is promised of this one
    have skip : ∀ {g' : List AV}, gone (bs.headD .junk) = true → VRs w I ρ s.H g' (gusOf al us) → backsM Alg.std al bs.tail g' H = some (H', ps) →
        ∃ fpb, Backs w0 w I bs (u :: us) fpb ∧ fpb.flatten.Nodup ∧ (∀ b ∈ fpb.flatten, ∃ r o, hget H r = some o ∧ hget H' r = none ∧ b ∈ tfp ρ r o) ∧ (∀ r o, hget H' r = some o → hget H r = some o) := by
      intro g' hg hv' hb'
      obtain ⟨fpb, k1, k2, k3, k4⟩ := backsM_spec h (by simpa using hl) ha' hv' hH hb' hq
      obtain ⟨fpb', e1, e2⟩ := backs_cons (gone_fp (w := w0) (w' := w) (I' := I) (u := u) hg) k1
      rcases e2 with rfl | ⟨_, rfl⟩
      · exact ⟨_, e1, by simpa using k2, by simpa using k3, k4⟩
      · exact ⟨_, e1, by simp, by simp, k4⟩
    -- its blocks come from roots that are gone behind it
    have fin : ∀ {g' : List AV} {H1 : Heap} {fp : List Nat} {ps' : List Prop}, (∀ p ∈ ps', p) → BackA w0 w I (bs.headD .junk) u fp → fp.Nodup → (∀ b ∈ fp, ∃ r o, hget H r = some o ∧ hget H1 r = none ∧ b ∈ tfp ρ r o) → (∀ r o, hget H1 r = some o → hget H r = some o) →
        VRs w I ρ s.H g' (gusOf al us) → backsM Alg.std al bs.tail g' H1 = some (H', ps') →
        ∃ fpb, Backs w0 w I bs (u :: us) fpb ∧ fpb.flatten.Nodup ∧ (∀ b ∈ fpb.flatten, ∃ r o, hget H r = some o ∧ hget H' r = none ∧ b ∈ tfp ρ r o) ∧ (∀ r o, hget H' r = some o → hget H r = some o) := by
      intro g' H1 fp ps' hq' hA hn hsrc hsub hv' hb'
      obtain ⟨fpb, k1, k2, k3, k4⟩ := backsM_spec h (by simpa using hl) ha' hv' (fun r o hr => hH r o (hsub r o hr)) hb' hq'
      obtain ⟨fpb', e1, e2⟩ := backs_cons hA k1
      rcases e2 with rfl | ⟨_, rfl⟩
      · refine ⟨_, e1, ?_, fun b hb => ?_, fun r o hr => hsub r o (k4 r o hr)⟩
        · rw [List.flatten_cons, List.nodup_append]
          refine ⟨hn, k2, fun b hb c hc hbc => ?_⟩
          subst hbc
          obtain ⟨r1, o1, z1, z2, z3⟩ := hsrc b hb
          obtain ⟨r2, o2, y1, y2, y3⟩ := k3 b hc
          have hne : r1 ≠ r2 := by rintro rfl; rw [z2] at y1; cases y1
          exact h.disj r1 o1 r2 o2 hne (hH _ _ z1) (hH _ _ (hsub _ _ y1)) b z3 y3
        · rw [List.flatten_cons] at hb
          rcases List.mem_append.1 hb with hb | hb
          · obtain ⟨r1, o1, z1, z2, z3⟩ := hsrc b hb
            refine ⟨r1, o1, z1, ?_, z3⟩
            cases hkr : hget H' r1 with
            | none => rfl
            | some o' => have := k4 r1 o' hkr; rw [z2] at this; cases this
          · obtain ⟨r2, o2, y1, y2, y3⟩ := k3 b hb
            exact ⟨r2, o2, hsub _ _ y1, y2, y3⟩
      · exact ⟨_, e1, by simp, by simp, fun r o hr => hsub r o (k4 r o hr)⟩
    cases v with
    | mv t m x =>
      obtain ⟨cs, hu, ho⟩ := ha0
      have hcells : u.cells.toList = cs := by rw [hu, mkV_cells ho.len ho.one]
      simp only [gusOf, hcells] at hv
      have hdrop : VRs w I ρ s.H (g.drop t.sz) (gusOf al us) := by
        have := hv.drop t.sz
        rwa [List.drop_left' ho.len] at this
      have htake : VRs w I ρ s.H (g.take t.sz) cs := by
        have := hv.take t.sz
        rwa [List.take_left' ho.len] at this
      simp only [backsM] at hb
      split at hb
      · rename_i hg; exact skip hg hdrop hb
      · split at hb
        · rename_i hmv
          split at hb
          · rename_i y k hy hk
            have hbk := backOf_mv hmv hy
            split at hb
            · rename_i hkl
              split at hb
              · rename_i heq
                split at hb
                · rename_i H1 q hrec
                  cases hb
                  have hkx : k.x = y := hq _ (by simp)
                  obtain ⟨u1, u2, fp, e1, hv2, pk⟩ := packM_spec s.H h.rootsOf hH htake hk (fun p hp => hq p (by simp [hp]))
                  have hu2 : u2 = [] := List.eq_nil_of_length_eq_zero (by have := hv2.len; rw [hkl] at this; simpa using this.symm)
                  subst hu2
                  rw [List.append_nil] at e1
                  subst e1
                  refine fin (fun p hp => hq p (by simp [hp])) (fp := fp) ?_ pk.nd pk.src pk.sub hdrop hrec
                  rw [hbk, ← hkx]
                  exact ⟨_, hu, pk.own.eqM heq⟩
                · cases hb
              · cases hb
            · cases hb
          · cases hb
        · cases hb
    | mp t m x =>
      obtain ⟨b0, off, arr, et, fp', hu, hb0, hsz, ho, _⟩ := ha0
      simp only [gusOf] at hv
      have hdrop : VRs w I ρ s.H (g.drop 1) (gusOf al us) := by
        have := hv.drop 1
        simpa using this
      simp only [backsM] at hb
      split at hb
      · rename_i hg; exact skip hg hdrop hb
      · split at hb
        · rename_i hmp
          split at hb
          · rename_i r hgr
            split at hb
            · rename_i cs hr
              split at hb
              · rename_i hcs
                obtain ⟨hcl, hok⟩ := hcs
                split at hb
                · rename_i y k hy hk
                  have hbk := backOf_mp hmp hy
                  split at hb
                  · rename_i hkl
                    split at hb
                    · rename_i heq
                      split at hb
                      · rename_i H1 q hrec
                        cases hb
                        have hkx : k.x = y := hq _ (by simp)
                        have hg0 : VR w I ρ s.H (.bptr r 0) u := by
                          match g, hv.len with
                          | z :: g, _ =>
                            simp only [List.headD_cons] at hgr
                            subst hgr
                            exact hv.at_ 0 _ u rfl rfl
                        obtain ⟨hu', hrl⟩ := hg0.bptr_inv
                        rw [hu] at hu'
                        simp only [Value.pointer.injEq, Option.some.injEq, Addr.mk.injEq, and_true, Nat.add_zero] at hu'
                        obtain ⟨rfl, rfl⟩ := hu'
                        have hrs := hH _ _ hr
                        obtain ⟨arr1, et1, w1, w2, w3⟩ := h.boxCells hrs 0 (Nat.zero_le _)
                        simp only [List.drop_zero, Nat.add_zero, Nat.sub_zero] at w3
                        obtain ⟨arr2, et2, y1, y2⟩ := h.keep r cs hrs _ _ _ hb0
                        rw [w1] at y1
                        cases y1
                        obtain ⟨u1, u2, fp, e1, hv2, pk⟩ := packM_spec s.H h.rootsOf (fun r' o' h' => hH r' o' (kill_sub r _ _ h')) w3 hk (fun p hp => hq p (by simp [hp]))
                        have hu2 : u2 = [] := List.eq_nil_of_length_eq_zero (by have := hv2.len; rw [hkl] at this; simpa using this.symm)
                        subst hu2
                        rw [List.append_nil] at e1
                        rw [hcl] at e1 y2
                        have hk0 : hget k.H r = none := by
                          cases hkr : hget k.H r with
                          | none => rfl
                          | some o' => have := pk.sub r o' hkr; rw [hget_set_none, if_pos rfl] at this; cases this
                        have hbfp : (ρ r).b ∉ fp := fun hh => by
                          obtain ⟨r1, o1, z1, z2, z3⟩ := pk.src _ hh
                          have hne : r1 ≠ r := by rintro rfl; rw [hget_set_none, if_pos rfl] at z1; cases z1
                          exact h.disj r1 o1 r _ hne (hH _ _ (kill_sub r _ _ z1)) hrs _ z3 (by simp [tfp])
                        refine fin (fun p hp => hq p (by simp [hp])) (fp := (ρ r).b :: fp) ?_ (List.nodup_cons.2 ⟨hbfp, pk.nd⟩) (fun b hb => ?_) (fun r' o' h' => kill_sub r _ _ (pk.sub r' o' h')) hdrop hrec
                        · rw [hbk, ← hkx]
                          refine ⟨_, _, arr, arr1, et, et1, fp, hu, hb0, w1, y2, hsz, ?_, rfl⟩
                          rw [e1]
                          exact pk.own.eqM heq
                        · rcases List.mem_cons.1 hb with rfl | hb
                          · exact ⟨r, _, hr, hk0, by simp [tfp]⟩
                          · obtain ⟨r1, o1, z1, z2, z3⟩ := pk.src _ hb
                            exact ⟨r1, o1, kill_sub r _ _ z1, z2, z3⟩
                      · cases hb
                    · cases hb
                  · cases hb
                · cases hb
              · cases hb
            · cases hb
          · cases hb
        · cases hb
    | _ =>
      simp only [backsM] at hb
      split at hb
      · rename_i hg; exact skip hg hv hb
      · cases hb

/-- Where a function's body begins. -/
def startW (A : Alg) (n : Nat) (al : List AV) : Option St :=
  match layAs A al [] with
  | some (vs, g, H) => some ⟨vs ++ List.replicate (n - al.length) .junk, if al.any mutA then H ++ [some (.gh g)] else H⟩
  | none => none

theorem ARg.fp_nil {v : AV} {u : Value} {fp : List Nat} (h : ARg w I v u fp) (hm : mutA v = false) : fp = [] ∧ AR w I v u := by
  cases v <;> first | exact ⟨h.2, h.1⟩ | simp [mutA] at hm

theorem wfA_of : ∀ {al : List AV} {us : List Value} {fps : List (List Nat)}, al.length = us.length → (∀ (i : Nat) (v : AV) (u : Value), al[i]? = some v → us[i]? = some u → ARg w I v u (fps.getD i [])) → wfL al
  | [], _, _, _, _ => trivial
  | v :: al, [], fps, h, _ => by simp at h
  | v :: al, u :: us, fps, h, k => by
    refine ⟨?_, wfA_of (us := us) (fps := fps.tail) (by simpa using h) fun i v u hv hu => by
      have := k (i + 1) v u (by simpa using hv) (by simpa using hu)
      cases fps <;> simpa using this⟩
    have h0 := k 0 v u rfl rfl
    cases v with
    | mv t m x => obtain ⟨cs, _, ho⟩ := h0; exact ho.wf
    | mp t m x => obtain ⟨_, _, _, _, _, _, _, _, ho, _⟩ := h0; exact ho.wf
    | dat t x => exact h0.1.wf
    | dptr t x => exact h0.1.wf
    | _ => trivial

/-- A function's contract, from its body. -/
theorem cts_of_run {f : FuncId} {fn : Func} {c : Code} (τ : Env) (G : Gam) (O : Opt) (hE : EnvOk P τ) (hG : GOk P G) (hEn : EnOk P G) (hm : P.follows .mixedOrders = true) (hen : Enters P f) (hf : P.funcs[f]? = some fn) (hb : fn.body = some c) (hO : chkO τ O c = true) (hR : RgAll P O c)
    {al : List AV} {Sr : Ret → Prop} (h : wfL al → ∃ s0, startW Alg.std fn.ntmps al = some s0 ∧ sat (run Alg.std τ G O c s0) fun e s =>
      (e = .nrm ∨ e = .ret) ∧ ∃ r, Sr r ∧ ∃ ps, exitW Alg.std τ s fn.results.toList al r = some ps ∧ ∀ p ∈ ps, p) : CtS P f al Sr := by
  intro w I us fps hlen hfl hargs hnd hfr himm
  unfold CallN
  rw [hen]
  refine calls_of_wp hf hb ?_
  obtain ⟨s0, hs0, hrun⟩ := h (wfA_of hlen hargs)
  generalize hF : (⟨fun b => b ∈ fps.flatten, I, .agg (gusOf al us).toArray⟩ : Bnd) = F0
  have hwr : ∀ b, F0.wr b ↔ b ∈ fps.flatten := fun b => by rw [← hF]
  have hrd : ∀ b, F0.rd b ↔ I b := fun b => by rw [← hF]
  have hgh : F0.gh = .agg (gusOf al us).toArray := by rw [← hF]
  have hinv0 : Inv w F0 ⟨List.replicate (us.toArray ++ Array.replicate (fn.ntmps - us.toArray.size) undef).size .junk, []⟩ { tmps := us.toArray ++ Array.replicate (fn.ntmps - us.toArray.size) undef, defers := [] } w I ρ0 := {
    defers := rfl
    len := by simp
    slots := fun i v hv => by
      have hj := (List.getElem?_eq_some_iff.1 hv).1
      have hv' : v = .junk := by
        rw [List.getElem?_replicate] at hv
        split at hv
        · simpa using hv.symm
        · cases hv
      subst hv'
      rw [List.length_replicate] at hj
      exact ⟨_, Array.getElem?_eq_getElem hj, .junk _⟩
    roots := fun r o hr => by simp [hget] at hr
    nodup := fun r o hr => by simp [hget] at hr
    disj := fun r o r' o' _ hr => by simp [hget] at hr
    imm := himm
    immF := fun b hb => .inr (.inl ((hrd b).2 hb))
    sep := fun r o hr => by simp [hget] at hr
    os := rfl
    tape := rfl
    output := rfl
    size := Nat.le_refl _
    frame := fun _ _ _ => rfl
    keep := fun r cs hr => by simp [hget] at hr
    ghost := fun r cs hr => by simp [hget] at hr }
  unfold startW at hs0
  split at hs0
  rotate_left
  · cases hs0
  rename_i vs g H hlay
  simp only [Option.some.injEq] at hs0
  obtain ⟨ρ1, k1, E1, k3, k4, k5⟩ := layAs_spec hinv0 hlen hfl hargs hnd (fun b hb => ⟨(hfr b hb).1, .inr ((hwr b).2 hb), fun r o hr => by simp [hget] at hr⟩) (fun b hb => (hfr b hb).2) hlay
  -- the slots
  have slots : ∀ {H2 : Heap} {ρ2 : Nat → RC} {fr : List AV}, Inv w F0 ⟨fr, H2⟩ { tmps := us.toArray ++ Array.replicate (fn.ntmps - us.toArray.size) undef, defers := [] } w I ρ2 → Ext w w I I ρ1 ρ2 H H2 →
      Inv w F0 ⟨vs ++ List.replicate (fn.ntmps - al.length) .junk, H2⟩ { tmps := us.toArray ++ Array.replicate (fn.ntmps - us.toArray.size) undef, defers := [] } w I ρ2 := fun h2 E2 =>
    { h2 with
      len := by simp [hlen, k3]
      slots := fun i v hv => by
        by_cases hi : i < vs.length
        · rw [List.getElem?_append_left hi] at hv
          have hiu : i < us.length := by omega
          refine ⟨us[i], ?_, (k4 i v _ hv (by simp [hiu])).ext E2⟩
          rw [Array.getElem?_append_left (by simpa using hiu)]
          simp [hiu]
        · rw [List.getElem?_append_right (by omega)] at hv
          have hj := (List.getElem?_eq_some_iff.1 hv).1
          have hv' : v = .junk := by
            rw [List.getElem?_replicate] at hv
            split at hv
            · simpa using hv.symm
            · cases hv
          subst hv'
          simp only [List.length_replicate] at hj
          refine ⟨undef, ?_, .junk _⟩
          rw [Array.getElem?_append_right (by simp; omega), Array.getElem?_replicate, if_pos (by simp; omega)]
      roots := h2.roots
      nodup := h2.nodup
      disj := h2.disj
      sep := h2.sep
      keep := h2.keep
      ghost := h2.ghost }
  have hinv : ∃ ρ2, Inv w F0 s0 { tmps := us.toArray ++ Array.replicate (fn.ntmps - us.toArray.size) undef, defers := [] } w I ρ2 := by
    rw [← hs0]
    split
    · have E0 : Ext w w I I ρ1 (upd ρ1 H.length ⟨0, 0, .agg (gusOf al us).toArray, []⟩) H (H ++ [some (.gh g)]) := Ext.add _ _
      have hadd := k1.add (.gh g) ⟨0, 0, .agg (gusOf al us).toArray, []⟩ (by
        refine ⟨gusOf al us, by simp [upd], k5.len, fun i v u hv hu => ⟨k5.one u (List.mem_of_getElem? hu), (k5.at_ i v u hv hu).ext E0⟩⟩) (by simp [tfp]) (fun b hb => by simp [tfp] at hb) (fun _ hh => by cases hh) (fun cs _ => hgh.symm)
      exact ⟨_, slots hadd E0⟩
    · exact ⟨_, slots k1 Ext.refl⟩
  obtain ⟨ρ2, hinv⟩ := hinv
  refine wp_mono (run_ok τ G O hE hG hEn hm c hO hR hinv hrun) fun e a w' hq => ?_
  have fin : ∀ {S : St → Prop}, Post w F0 S a w' → (∀ s, S s → ∃ r, Sr r ∧ ∃ ps, exitW Alg.std τ s fn.results.toList al r = some ps ∧ ∀ p ∈ ps, p) → a.defers = [] ∧ ∃ v, (results fn a.tmps).run P w' = .ok v w' ∧ ∃ r, Sr r ∧ Back w I us (fun b => b ∈ fps.flatten) r (.returned v) w' := by
    intro S hp hS
    obtain ⟨s, I2, ρ, hi, hs⟩ := hp
    obtain ⟨r, hSr, ps, hx, hps⟩ := hS s hs
    suffices hsuf : a.defers = [] ∧ ∃ v, (results fn a.tmps).run P w' = .ok v w' ∧ Back w I us (fun b => b ∈ fps.flatten) r (.returned v) w' by
      obtain ⟨h1, v, h2, h3⟩ := hsuf
      exact ⟨h1, v, h2, r, hSr, h3⟩
    unfold exitW at hx
    obtain ⟨I2, hi⟩ := hi.exitZ τ fn.results.toList al r
    generalize exitZ Alg.std τ s fn.results.toList al r = s at hi hx
    have hk : Keeps (fun b => b ∈ fps.flatten) w w' := ⟨hi.os, hi.tape, hi.output, hi.size, fun k hk hn => hi.frame k hk (fun h => hn ((hwr k).1 h))⟩
    refine ⟨hi.defers, ?_⟩
    have hsepT : ∀ r o, hget s.H r = some o → ∀ b ∈ tfp ρ r o, (w.heap.size ≤ b ∨ b ∈ fps.flatten) ∧ ¬ (I2 b ∨ I b) := fun r o hr b hb => by
      obtain ⟨q1, q2, q3⟩ := hi.sep r o hr b hb
      refine ⟨q3.imp id (hwr b).1, fun hh => hh.elim q1 fun hI => ?_⟩
      rcases q3 with q3 | q3
      · have := himm b hI; omega
      · exact (hfr b ((hwr b).1 q3)).1 hI
    have hI2 : ∀ b, (I2 b ∨ I b) → b < w'.heap.size ∧ (I b ∨ w.heap.size ≤ b ∨ b ∈ fps.flatten) := fun b hb => by
      rcases hb with hb | hb
      · exact ⟨hi.imm b hb, (hi.immF b hb).elim (fun q => .inr (.inl q)) (fun q => q.elim (fun q => .inl ((hrd b).1 q)) (fun q => .inr (.inr ((hwr b).1 q))))⟩
      · exact ⟨Nat.lt_of_lt_of_le (himm b hb) hi.size, .inl hb⟩
    have up : ∀ {outs : List ((t : Ty) × Md × t.den)} {us : List Value} {fps : List (List Nat)}, Outs w' I2 w.heap.size outs us fps → Outs w' (fun b => I2 b ∨ I b) w.heap.size outs us fps := fun o1 => ⟨o1.len, o1.fl, fun i q u hq hu =>
      (o1.at_ i q u hq hu).map fun _ e2 => Own.frame (fun _ _ => rfl) (fun _ h => .inl h) e2 (fun _ _ => rfl)⟩
    unfold exitW0 at hx
    split at hx
    · split at hx
      · rename_i g' hg'
        split at hx
        · rename_i H' p hbk
          split at hx
          · rename_i q hxm
            cases hx
            obtain ⟨rg, hrg⟩ := findGh_spec hg'
            obtain ⟨us', e1, e2, e3⟩ := hi.roots rg _ hrg
            rw [hi.ghost rg _ hrg, hgh] at e1
            have hus' : us' = gusOf al us := by
              have : (gusOf al us).toArray = us'.toArray := by injection e1
              simpa using this.symm
            subst hus'
            have hv : VRs w' I2 ρ s.H g' (gusOf al us) := ⟨e2, fun u hu => by
              obtain ⟨i, hi', rfl⟩ := List.getElem_of_mem hu
              exact (e3 i (g'[i]'(by omega)) _ (by simp) (by simp)).1, fun i v u hv hu => (e3 i v u hv hu).2⟩
            obtain ⟨fpb, b1, b2, b3, b4⟩ := backsM_spec hi (bs := r.backs) hlen hargs hv (fun _ _ h => h) hbk (fun p hp => hps p (by simp [hp]))
            obtain ⟨vs', fps', o1, o2, o3, o4⟩ := exitM_spec (np := false) τ hE hi (fun h => by cases h) b4 hxm (fun p hp => hps p (by simp [hp]))
            refine ⟨_, run_results o2, vs', _, fps', fpb, rfl, hk, up o1, ⟨b1.fl, fun i v u hv hu => ?_⟩, ?_, fun b hb => ?_, fun b hb => .inr hb, hI2⟩
            · have := b1.at_ i v u hv hu
              cases v <;> first | exact this | skip
              case mv t m x => obtain ⟨cs, y1, y2⟩ := this; exact ⟨cs, y1, Own.frame (fun _ _ => rfl) (fun _ h => .inl h) y2 (fun _ _ => rfl)⟩
              case mp t m x =>
                obtain ⟨b, off, arr, arr', et, et', fp', y1, y2, y3, y4, y5, y6, y7⟩ := this
                exact ⟨b, off, arr, arr', et, et', fp', y1, y2, y3, y4, y5, Own.frame (fun _ _ => rfl) (fun _ h => .inl h) y6 (fun _ _ => rfl), y7⟩
            · rw [List.nodup_append]
              refine ⟨b2, o3, fun b hb c hc hbc => ?_⟩
              subst hbc
              obtain ⟨r1, o1, z1, z2, z3⟩ := b3 b hb
              obtain ⟨r2, o2, y1, y2⟩ := o4 b hc
              have hne : r1 ≠ r2 := by rintro rfl; rw [z2] at y1; cases y1
              exact hi.disj r1 o1 r2 o2 hne z1 (b4 _ _ y1) b z3 y2
            · rcases List.mem_append.1 hb with hb | hb
              · obtain ⟨r1, o1, z1, z2, z3⟩ := b3 b hb
                exact hsepT r1 o1 z1 b z3
              · obtain ⟨r2, o2, y1, y2⟩ := o4 b hb
                exact hsepT r2 o2 (b4 _ _ y1) b y2
          · cases hx
        · cases hx
      · cases hx
    · rename_i hmut
      have hmut' : ∀ v ∈ al, mutA v = false := fun v hv => by
        cases hh : mutA v with
        | false => rfl
        | true => exact absurd (List.any_eq_true.2 ⟨v, hv, hh⟩) hmut
      have hfn : fps.flatten = [] := by
        have : ∀ i, fps.getD i [] = [] := fun i => by
          by_cases hi : i < al.length
          · exact ((hargs i al[i] (us[i]'(by omega)) (by simp [hi]) (by simp)).fp_nil (hmut' _ (List.getElem_mem hi))).1
          · simp [List.getD_eq_getElem?_getD, List.getElem?_eq_none (show fps.length ≤ i by omega)]
        cases hf : fps.flatten with
        | nil => rfl
        | cons b l =>
          have hb : b ∈ fps.flatten := by rw [hf]; simp
          obtain ⟨j, hj⟩ := mem_flatten_getD.1 hb
          rw [this j] at hj
          simp at hj
      have hbs : ∀ (bs : List AV), ∃ fpb, fpb = List.replicate bs.length ([] : List Nat) := fun bs => ⟨_, rfl⟩
      split at hx
      · rename_i hback
        unfold exitT at hx
        split at hx
        · have hJ : ∀ b, I2 b → ((I2 b ∨ I b) ∨ ∃ r o, hget s.H r = some o ∧ b ∈ tfp ρ r o) := fun b hb => .inl (.inl hb)
          obtain ⟨us', o1, o2⟩ := exitD_spec (J := fun b => (I2 b ∨ I b) ∨ ∃ r o, hget s.H r = some o ∧ b ∈ tfp ρ r o) τ hE hi hJ (fun r o hr b hb => .inr ⟨r, o, hr, hb⟩) hx hps
          have hnil : (List.replicate r.outs.length ([] : List Nat)).flatten = [] := by simp
          have hnil2 : (List.replicate r.backs.length ([] : List Nat)).flatten = [] := by simp
          refine ⟨_, run_results o2, us', _, _, List.replicate r.backs.length [], rfl, hk, o1, ⟨by simp, fun i v u hv hu => ?_⟩, by rw [hnil, hnil2]; simp, by rw [hnil, hnil2]; simp, fun b hb => .inl (.inr hb), fun b hb => ?_⟩
          · have e3 : (List.replicate r.backs.length ([] : List Nat)).getD i [] = [] := by simp [List.getD_eq_getElem?_getD, List.getElem?_replicate]; split <;> rfl
            rw [e3]
            exact gone_fp (List.all_eq_true.1 hback v (List.mem_of_getElem? hv))
          · rcases hb with hb | ⟨r, o, hr, hb⟩
            · exact hI2 b hb
            · have h1 := hi.sep r o hr b hb
              have h2 := (hsepT r o hr b hb).1
              rw [hfn] at h2
              exact ⟨h1.2.1, .inr (.inl (h2.elim id (fun h => by simp at h)))⟩
        · obtain ⟨us', fps', o1, o2, o3, o4⟩ := exitM_spec (np := true) τ hE hi (fun _ r o hr b hb => by
            have h2 := (hsepT r o hr b hb).1
            rw [hfn] at h2
            exact h2.elim id (fun h => by simp at h)) (fun _ _ h => h) hx hps
          have hnil2 : (List.replicate r.backs.length ([] : List Nat)).flatten = [] := by simp
          refine ⟨_, run_results o2, us', _, fps', List.replicate r.backs.length [], rfl, hk, up o1, ⟨by simp, fun i v u hv hu => ?_⟩, by rw [hnil2]; simpa using o3, fun b hb => ?_, fun b hb => .inr hb, hI2⟩
          · have e3 : (List.replicate r.backs.length ([] : List Nat)).getD i [] = [] := by simp [List.getD_eq_getElem?_getD, List.getElem?_replicate]; split <;> rfl
            rw [e3]
            exact gone_fp (List.all_eq_true.1 hback v (List.mem_of_getElem? hv))
          · rw [hnil2, List.nil_append] at hb
            obtain ⟨r, o, hr, hb⟩ := o4 b hb
            exact hsepT r o hr b hb
      · cases hx
  cases e with
  | normal => exact fin hq fun s hs => hs.2
  | ret => exact fin hq fun s hs => hs.2
  | exit id =>
    obtain ⟨s, I2, ρ, hi, hs⟩ := hq
    rcases hs.1 with h | h <;> cases h
  | panic _ => exact hq.elim
  | goto _ => exact hq.elim
  | outgrown => exact hq.elim
theorem ct_of_run {f : FuncId} {fn : Func} {c : Code} (τ : Env) (G : Gam) (O : Opt) (hE : EnvOk P τ) (hG : GOk P G) (hEn : EnOk P G) (hm : P.follows .mixedOrders = true) (hen : Enters P f) (hf : P.funcs[f]? = some fn) (hb : fn.body = some c) (hO : chkO τ O c = true) (hR : RgAll P O c)
    {al : List AV} {r : Ret} (h : (∀ p ∈ r.pre, p) → wfL al → ∃ s0, startW Alg.std fn.ntmps al = some s0 ∧ sat (run Alg.std τ G O c s0) fun e s =>
      (e = .nrm ∨ e = .ret) ∧ ∃ ps, exitW Alg.std τ s fn.results.toList al r = some ps ∧ ∀ p ∈ ps, p) : Ct P f al r := fun w I us fps hpre h1 h2 h3 h4 h5 h6 =>
  (cts_of_run (Sr := fun r' => r' = r) τ G O hE hG hEn hm hen hf hb hO hR (fun hw => let ⟨s0, e, hs⟩ := h hpre hw; ⟨s0, e, sat_mono (fun e s hq => ⟨hq.1, r, rfl, hq.2⟩) hs⟩) w I us fps h1 h2 h3 h4 h5 h6).mono fun _ _ ⟨_, e, hb⟩ => e ▸ hb

end
end Go.Vee

set_option linter.unusedSimpArgs false
set_option linter.unusedVariables false
namespace Go.Vee
open Go

/-! ## Types, checked by computing -/
def isZ : Ty → Value → Bool
  | .int k, v => match v with | .int k' n => decide (k' = k) && decide (n = 0) | _ => false
  | .bool, v => match v with | .bool b => !b | _ => false
  | .str, v => match v with | .string s => decide (s.data = #[]) | _ => false
  | .sl _, v => match v with | .slice none 0 0 => true | _ => false
  | _, _ => false
def areZ : Ty → List Value → Option (List Value)
  | .unit, l => some l
  | .pair a b, l => match areZ a l with | some l => areZ b l | none => none
  | t, v :: l => if isZ t v then some l else none
  | _, [] => none
def zOk (t : Ty) (v : Value) : Bool :=
  if t.isAgg then match v with | .agg cs => (match areZ t cs.toList with | some [] => true | _ => false) | _ => false
  else isZ t v

theorem isZ_ok {t : Ty} {v : Value} (h : isZ t v = true) : zeroCs t = [v] ∧ t.isAgg = false := by
  cases t with
  | int k =>
    cases v <;> simp [isZ] at h
    obtain ⟨rfl, rfl⟩ := h
    exact ⟨rfl, rfl⟩
  | bool => cases v <;> simp [isZ] at h; subst h; exact ⟨rfl, rfl⟩
  | str =>
    cases v <;> simp [isZ] at h
    rename_i s
    cases s
    simp at h
    subst h
    exact ⟨rfl, rfl⟩
  | sl e =>
    simp only [isZ] at h
    split at h
    · exact ⟨rfl, rfl⟩
    · cases h
  | unit => simp [isZ] at h
  | pair a b => simp [isZ] at h

theorem areZ_ok : ∀ {t : Ty} {l l' : List Value}, areZ t l = some l' → l = zeroCs t ++ l'
  | .unit, l, l', h => by simp [areZ] at h; subst h; rfl
  | .pair a b, l, l', h => by
    simp only [areZ] at h
    split at h
    · rename_i l1 h1
      rw [areZ_ok h1, areZ_ok h, zeroCs, List.append_assoc]
    · cases h
  | .int k, [], l', h => by simp [areZ] at h
  | .int k, v :: l, l', h => by
    simp only [areZ] at h
    split at h
    · rename_i hz; cases h; rw [(isZ_ok hz).1]; rfl
    · cases h
  | .bool, [], l', h => by simp [areZ] at h
  | .bool, v :: l, l', h => by
    simp only [areZ] at h
    split at h
    · rename_i hz; cases h; rw [(isZ_ok hz).1]; rfl
    · cases h
  | .str, [], l', h => by simp [areZ] at h
  | .str, v :: l, l', h => by
    simp only [areZ] at h
    split at h
    · rename_i hz; cases h; rw [(isZ_ok hz).1]; rfl
    · cases h
  | .sl e, [], l', h => by simp [areZ] at h
  | .sl e, v :: l, l', h => by
    simp only [areZ] at h
    split at h
    · rename_i hz; cases h; rw [(isZ_ok hz).1]; rfl
    · cases h

theorem zOk_ok {t : Ty} {v : Value} (h : zOk t v = true) : v = mkV t (zeroCs t) := by
  unfold zOk at h
  split at h
  · rename_i ha
    split at h
    · rename_i cs
      split at h
      · rename_i hz
        have := areZ_ok hz
        rw [List.append_nil] at this
        simp [mkV, ha, ← this]
      · cases h
    · cases h
  · rename_i ha
    obtain ⟨h1, h2⟩ := isZ_ok h
    simp [mkV, h2, h1]

def chkB (P : Program) (tid : TypeId) (t : Ty) : Bool :=
  match P.info? tid with
  | some i => decide (i.size = t.sz) && decide (i.bytes ≤ t.bnd) && (match i.zero with | some z => zOk t z | none => false)
  | none => false

theorem chkB_ok {P : Program} {tid : TypeId} {t : Ty} (h : chkB P tid t = true) : TyB P tid t := by
  unfold chkB at h
  split at h
  · rename_i i hi
    simp only [Bool.and_eq_true, decide_eq_true_eq] at h
    obtain ⟨⟨h1, h2⟩, h3⟩ := h
    split at h3
    · rename_i z hz
      refine ⟨by simp [hi, h1, hz, zOk_ok h3], by simpa [hi] using h2⟩
    · cases h3
  · cases h

def chk (P : Program) : Ty → (TypeId → Bool) × (List Field → Nat → Bool)
  | .int k => (fun tid => chkB P tid (.int k) && (match P.underlying tid with | some (.int k') => decide (k' = k) | _ => false), fun _ _ => false)
  | .bool => (fun tid => chkB P tid .bool && (match P.underlying tid with | some .bool => true | _ => false), fun _ _ => false)
  | .str => (fun tid => chkB P tid .str && (match P.underlying tid with | some .string => true | _ => false), fun _ _ => false)
  | .sl e => (fun tid => chkB P tid (.sl e) && decide (0 < e.sz) && (match P.underlying tid with | some (.slice eid) => (chk P e).1 eid | _ => false), fun _ _ => false)
  | .unit => (fun tid => chkB P tid .unit && (match P.underlying tid with | some (.struct fs) => fs.toList.isEmpty | _ => false), fun fs _ => fs.isEmpty)
  | .pair a b =>
    let F := fun (fs : List Field) (off : Nat) => match fs with
      | f :: rest => decide (f.offset = off) && decide (0 < a.sz) && (chk P a).1 f.type && (chk P b).2 rest (off + a.sz)
      | [] => false
    (fun tid => chkB P tid (.pair a b) && (match P.underlying tid with | some (.struct fs) => F fs.toList 0 | _ => false), F)

theorem chk_ok {P : Program} : ∀ {t : Ty}, (∀ tid, (chk P t).1 tid = true → (TyF P t).1 tid) ∧ ∀ fs off, (chk P t).2 fs off = true → (TyF P t).2 fs off
  | .int k => by
    refine ⟨fun tid h => ?_, fun _ _ h => by simp [chk] at h⟩
    simp only [chk, Bool.and_eq_true] at h
    obtain ⟨h1, h2⟩ := h
    split at h2
    · rename_i k' hu
      simp only [decide_eq_true_eq] at h2
      subst h2
      exact ⟨chkB_ok h1, hu⟩
    · cases h2
  | .bool => by
    refine ⟨fun tid h => ?_, fun _ _ h => by simp [chk] at h⟩
    simp only [chk, Bool.and_eq_true] at h
    obtain ⟨h1, h2⟩ := h
    split at h2
    · rename_i hu; exact ⟨chkB_ok h1, hu⟩
    · cases h2
  | .str => by
    refine ⟨fun tid h => ?_, fun _ _ h => by simp [chk] at h⟩
    simp only [chk, Bool.and_eq_true] at h
    obtain ⟨h1, h2⟩ := h
    split at h2
    · rename_i hu; exact ⟨chkB_ok h1, hu⟩
    · cases h2
  | .sl e => by
    refine ⟨fun tid h => ?_, fun _ _ h => by simp [chk] at h⟩
    simp only [chk, Bool.and_eq_true, decide_eq_true_eq] at h
    obtain ⟨⟨h1, h3⟩, h2⟩ := h
    split at h2
    · rename_i eid hu; exact ⟨chkB_ok h1, h3, eid, hu, (chk_ok (t := e)).1 eid h2⟩
    · cases h2
  | .unit => by
    refine ⟨fun tid h => ?_, fun fs _ h => ?_⟩
    · simp only [chk, Bool.and_eq_true] at h
      obtain ⟨h1, h2⟩ := h
      split at h2
      · rename_i fs hu; exact ⟨chkB_ok h1, fs, hu, by simpa using h2⟩
      · cases h2
    · have : fs = [] := by simpa [chk] using h
      exact this
  | .pair a b => by
    have hF : ∀ fs off, (chk P (.pair a b)).2 fs off = true → (TyF P (.pair a b)).2 fs off := fun fs off h => by
      simp only [chk] at h
      split at h
      · rename_i f rest
        simp only [Bool.and_eq_true, decide_eq_true_eq] at h
        obtain ⟨⟨⟨h1, h2⟩, h3⟩, h4⟩ := h
        exact ⟨f, rest, rfl, h1, h2, (chk_ok (t := a)).1 _ h3, (chk_ok (t := b)).2 _ _ h4⟩
      · cases h
    refine ⟨fun tid h => ?_, hF⟩
    simp only [chk, Bool.and_eq_true] at h
    obtain ⟨h1, h2⟩ := h
    split at h2
    · rename_i fs hu
      exact ⟨chkB_ok h1, fs, hu, hF fs.toList 0 h2⟩
    · cases h2

def lookT {α : Type} : List (Nat × α) → Nat → Option α
  | [], _ => none
  | (k, v) :: l, n => if k = n then some v else lookT l n

theorem lookT_mem {α : Type} : ∀ {l : List (Nat × α)} {n : Nat} {v : α}, lookT l n = some v → (n, v) ∈ l
  | [], _, _, h => by simp [lookT] at h
  | (k, u) :: l, n, v, h => by
    simp only [lookT] at h
    split at h
    · rename_i e; cases h; subst e; simp
    · exact List.mem_cons_of_mem _ (lookT_mem h)

def elemN : List Nat → Nat → Bool
  | [], _ => false
  | x :: l, n => match decide (x = n) with
    | true => true
    | false => elemN l n
theorem elemN_mem : ∀ {l : List Nat} {n : Nat}, elemN l n = true → n ∈ l
  | [], n, h => by simp [elemN] at h
  | x :: l, n, h => by
    simp only [elemN] at h
    split at h
    · rename_i hd; have := of_decide_eq_true hd; simp [this]
    · exact List.mem_cons_of_mem _ (elemN_mem h)
/-- A type table; 'eqs': struct types of plain fields that are compared. -/
def Env.of (tys pts : List (Nat × Ty)) (eqs : List Nat := []) : Env := ⟨lookT tys, lookT pts, elemN eqs⟩
def eqB (P : Program) (tid : TypeId) : Bool := !P.stoodInHeld tid && !P.eqGuardType P.depth tid && (P.fieldsOf tid).toList.all fun f => f.name != "_"

theorem EnvOk.of {P : Program} {tys pts : List (Nat × Ty)} {eqs : List Nat} (h : (tys.all fun p => (chk P p.2).1 p.1) = true) (h2 : eqs.all (eqB P) = true := by rfl) : EnvOk P (Env.of tys pts eqs) :=
  ⟨fun tid t ht => chk_ok.1 tid (List.all_eq_true.1 h _ (lookT_mem ht)), fun tid ht => by
    have := List.all_eq_true.1 h2 tid (elemN_mem ht)
    simp only [eqB, Bool.and_eq_true, Bool.not_eq_true', List.all_eq_true, bne_iff_ne] at this
    exact ⟨this.1.1, this.1.2, this.2⟩⟩

/-! ## Contracts in hand -/
structure Con where
  en : Bool
  g : List AV → Option RX
  mu : List Md := []
  kn : Bool := false
  rt : Nat := 0

def Gam.of (l : List (Nat × Con)) : Gam := ⟨fun f al => match lookT l f with | some c => c.g al | none => none, fun f => match lookT l f with | some c => c.en | none => false, false, fun f => match lookT l f with | some c => c.mu | none => [], fun f => match lookT l f with | some c => c.kn | none => false, fun f => match lookT l f with | some c => c.rt | none => 0⟩

structure ConOk (P : Program) (f : Nat) (c : Con) : Prop where
  ct : ∀ al x, c.g al = some x → CtX P f al x
  en : c.en = true → Enters P f

theorem GOk.of {P : Program} {l : List (Nat × Con)} (h : ∀ p ∈ l, ConOk P p.1 p.2) : GOk P (Gam.of l) ∧ EnOk P (Gam.of l) := by
  refine ⟨fun f al r hg => ?_, fun f hf => ?_⟩
  · simp only [Gam.of] at hg
    split at hg
    · rename_i c hc; exact (h _ (lookT_mem hc)).ct al r hg
    · cases hg
  · simp only [Gam.of] at hf
    split at hf
    · rename_i c hc; exact (h _ (lookT_mem hc)).en hf
    · cases hf

def AllOk (P : Program) (l : List (Nat × Con)) : Prop := ∀ p ∈ l, ConOk P p.1 p.2
theorem AllOk.nil {P : Program} : AllOk P [] := fun p hp => by simp at hp
theorem AllOk.cons {P : Program} {f : Nat} {c : Con} {l : List (Nat × Con)} (h : ConOk P f c) (k : AllOk P l) : AllOk P ((f, c) :: l) := fun p hp => by
  rcases List.mem_cons.1 hp with rfl | hp
  · exact h
  · exact k p hp

/-- A function has a body and is no function of the run time's. -/
def entersB (P : Program) (f : Nat) : Bool :=
  match P.funcs[f]? with
  | some fn => fn.body.isSome && !(fn.name == "runtime.NumGoroutine")
  | none => false

theorem Enters.of {P : Program} {f : Nat} (h : entersB P f = true) : Enters P f := by
  intro args w
  unfold entersB at h
  split at h
  · rename_i fn hf
    simp only [Bool.and_eq_true, Bool.not_eq_true'] at h
    obtain ⟨h1, h2⟩ := h
    obtain ⟨c, hc⟩ := Option.isSome_iff_exists.1 h1
    have h4 : ¬ fn.name = "runtime.NumGoroutine" := by simpa using h2
    simp only [callFunc, Sem.run_bind]
    simp [hf, h4, hc]
  · cases h

/-! ## Data arguments -/
def asT (t : Ty) : AV → Option t.den
  | .dat t' x => castD t' t x
  | _ => none
def asP (t : Ty) : AV → Option t.den
  | .dptr t' x => castD t' t x
  | _ => none
theorem asT_some {t : Ty} {v : AV} {x : t.den} (h : asT t v = some x) : v = .dat t x := by
  cases v <;> simp [asT] at h
  obtain ⟨e1, e2⟩ := castD_some h
  subst e1
  subst e2
  rfl
theorem asP_some {t : Ty} {v : AV} {x : t.den} (h : asP t v = some x) : v = .dptr t x := by
  cases v <;> simp [asP] at h
  obtain ⟨e1, e2⟩ := castD_some h
  subst e1
  subst e2
  rfl
def asW (t : Ty) (m : Md) : AV → Option t.den
  | .mp t' m' x => if m' = m then castD t' t x else none
  | _ => none
theorem asW_some {t : Ty} {m : Md} {v : AV} {x : t.den} (h : asW t m v = some x) : v = .mp t m x := by
  cases v <;> simp [asW] at h
  obtain ⟨e0, h⟩ := h
  obtain ⟨e1, e2⟩ := castD_some h
  subst e0
  subst e1
  subst e2
  rfl

/-- How an argument is to look. -/
structure Pat (α : Type) where
  dec : AV → Option α
  enc : α → AV
  ok : ∀ {v : AV} {x : α}, dec v = some x → v = enc x
def pD (t : Ty) : Pat t.den := ⟨asT t, .dat t, asT_some⟩
def pP (t : Ty) : Pat t.den := ⟨asP t, .dptr t, asP_some⟩
def pW (t : Ty) (m : Md) : Pat t.den := ⟨asW t m, .mp t m, asW_some⟩
def g1 {α : Type} (p : Pat α) (F : α → RX) : List AV → Option RX
  | [v] => match p.dec v with | some x => some (F x) | none => none
  | _ => none
def g2 {α β : Type} (p : Pat α) (q : Pat β) (F : α → β → RX) : List AV → Option RX
  | v :: l => match p.dec v with | some x => g1 q (F x) l | none => none
  | _ => none
def g3 {α β γ : Type} (p : Pat α) (q : Pat β) (r : Pat γ) (F : α → β → γ → RX) : List AV → Option RX
  | v :: l => match p.dec v with | some x => g2 q r (F x) l | none => none
  | _ => none
theorem g1_some {α : Type} {p : Pat α} {F : α → RX} {l : List AV} {r : RX} (h : g1 p F l = some r) : ∃ x, l = [p.enc x] ∧ r = F x := by
  unfold g1 at h
  split at h
  · split at h
    · rename_i v x hx; cases h; exact ⟨x, by rw [p.ok hx], rfl⟩
    · cases h
  · cases h
theorem g2_some {α β : Type} {p : Pat α} {q : Pat β} {F : α → β → RX} {l : List AV} {r : RX} (h : g2 p q F l = some r) : ∃ x y, l = [p.enc x, q.enc y] ∧ r = F x y := by
  unfold g2 at h
  split at h
  · split at h
    · rename_i v x hx
      obtain ⟨y, h1, h2⟩ := g1_some h
      exact ⟨x, y, by rw [p.ok hx, h1], h2⟩
    · cases h
  · cases h
theorem g3_some {α β γ : Type} {p : Pat α} {q : Pat β} {z : Pat γ} {F : α → β → γ → RX} {l : List AV} {r : RX} (h : g3 p q z F l = some r) : ∃ x y k, l = [p.enc x, q.enc y, z.enc k] ∧ r = F x y k := by
  unfold g3 at h
  split at h
  · split at h
    · rename_i v x hx
      obtain ⟨y, k, h1, h2⟩ := g2_some h
      exact ⟨x, y, k, by rw [p.ok hx, h1], h2⟩
    · cases h
  · cases h
theorem ConOk.g1 {P : Program} {f : Nat} {α : Type} {p : Pat α} {F : α → RX} {mu : List Md} {kn : Bool} {rt : Nat} (he : Enters P f) (h : ∀ x, CtX P f [p.enc x] (F x)) : ConOk P f ⟨true, Vee.g1 p F, mu, kn, rt⟩ :=
  ⟨fun al r hr => by obtain ⟨x, rfl, rfl⟩ := g1_some hr; exact h x, fun _ => he⟩
theorem ConOk.g2 {P : Program} {f : Nat} {α β : Type} {p : Pat α} {q : Pat β} {F : α → β → RX} {mu : List Md} {kn : Bool} {rt : Nat} (he : Enters P f) (h : ∀ x y, CtX P f [p.enc x, q.enc y] (F x y)) : ConOk P f ⟨true, Vee.g2 p q F, mu, kn, rt⟩ :=
  ⟨fun al r hr => by obtain ⟨x, y, rfl, rfl⟩ := g2_some hr; exact h x y, fun _ => he⟩
theorem ConOk.g3 {P : Program} {f : Nat} {α β γ : Type} {p : Pat α} {q : Pat β} {z : Pat γ} {F : α → β → γ → RX} {mu : List Md} {kn : Bool} {rt : Nat} (he : Enters P f) (h : ∀ x y k, CtX P f [p.enc x, q.enc y, z.enc k] (F x y k)) : ConOk P f ⟨true, Vee.g3 p q z F, mu, kn, rt⟩ :=
  ⟨fun al r hr => by obtain ⟨x, y, k, rfl, rfl⟩ := g3_some hr; exact h x y k, fun _ => he⟩
/-! ## What a run is to end in -/
/-- Said of any value. -/
structure AllY (t : Ty) (p : t.den → Prop) : Prop where
  go : ∀ y, p y
/-- How claims are put together: a variable while a body is computed. -/
structure Lg where
  br : Bool → Prop → Prop → Prop
  an : Prop → Prop → Prop
  lp : (St → Tr) → St → (Ex → St → Prop) → Prop
  nx : (St → Prop) → St → Prop
  im : Prop → Prop → Prop
  al : (t : Ty) → (t.den → Prop) → Prop := AllY

def Lg.std : Lg where
  br b y n := (b = true → y) ∧ (b = false → n)
  an p q := p ∧ q
  lp b s q := ∃ (I : Nat → St → Prop), (∃ n, I n s) ∧ ∀ n s, I n s → sat (b s) fun e s' => match e with
    | .nrm => ∃ m, m < n ∧ I m s'
    | e => q e s'
  nx I s := I s
  im p q := p → q

def satL (L : Lg) : Tr → (Ex → St → Prop) → Prop
  | .fin e s, Q => Q e s
  | .need p k, Q => L.an p (satL L k Q)
  | .br b y n, Q => L.br b (satL L y Q) (satL L n Q)
  | .lp b s k, Q => L.lp b s fun e s => satL L (k e s) Q
  | .both x y, Q => L.an (satL L x Q) (satL L y Q)
  | .hyp p k, Q => L.im p (satL L k Q)
  | .ex t k, Q => L.al t fun y => satL L (k y) Q
  | .bad, _ => False

theorem satL_std {t : Tr} {Q : Ex → St → Prop} : satL Lg.std t Q = sat t Q := by
  induction t generalizing Q with
  | fin e s => rfl
  | need p k ih => simp only [satL, sat, Lg.std, ← ih]
  | br b y n ih1 ih2 => simp only [satL, sat, Lg.std, ← ih1, ← ih2]
  | lp b s k ih1 ih2 =>
    have e : (fun e s => satL Lg.std (k e s) Q) = fun e s => sat (k e s) Q := by funext e s; exact ih2 e s
    change Lg.std.lp b s (fun e s => satL Lg.std (k e s) Q) = _
    rw [e]
    simp only [Lg.std, sat]
    congr 1
  | both x y ih1 ih2 => simp only [satL, sat, Lg.std, ← ih1, ← ih2]
  | hyp p k ih => simp only [satL, sat, Lg.std, ← ih]
  | ex t k ih => exact propext ⟨fun ⟨h⟩ y => (ih y) ▸ h y, fun h => ⟨fun y => (ih y).symm ▸ h y⟩⟩
  | bad => rfl

def andL (L : Lg) : List Prop → Prop
  | [] => True
  | [p] => p
  | p :: ps => L.an p (andL L ps)
theorem andL_all : ∀ {ps : List Prop}, andL Lg.std ps → ∀ p ∈ ps, p
  | [], _ => by simp
  | [p], h => fun x hx => by rw [List.mem_singleton.1 hx]; exact h
  | p :: q :: ps, h => by
    intro x hx
    rcases List.mem_cons.1 hx with rfl | hx
    · exact h.1
    · exact andL_all (ps := q :: ps) h.2 x hx

def endQ (L : Lg) (A : Alg) (τ : Env) (rvs : List ResultVar) (al : List AV) (r : Ret) : Ex → St → Prop := fun e s =>
  match e with
  | .exit _ => False
  | _ => match exitW A τ s rvs al r with
    | some ps => andL L ps
    | none => False

def bodyOf (fn : Func) : Code := match fn.body with | some c => c | none => .skip

/-- The whole of a function's claim, for computing. -/
def claim (L : Lg) (A : Alg) (τ : Env) (G : Gam) (O : Opt) (fn : Func) (al : List AV) (r : Ret) : Prop :=
  match startW A fn.ntmps al with
  | some s => satL L (run A τ G O (bodyOf fn) s) (endQ L A τ fn.results.toList al r)
  | none => False

theorem ct_claim {P : Program} {f : Nat} {fn : Func} {τ : Env} {G : Gam} {O : Opt} (hE : EnvOk P τ) (hG : GOk P G ∧ EnOk P G) (hm : P.follows .mixedOrders = true) (hen : Enters P f) (hf : P.funcs[f]? = some fn) (hb : fn.body.isSome = true) (hO : chkO τ O (bodyOf fn) = true)
    {al : List AV} {r : Ret} (h : (∀ p ∈ r.pre, p) → wfL al → claim Lg.std Alg.std τ G O fn al r) (hR : RgAll P O (bodyOf fn) := by exact RgAll.none (fun _ => rfl) _) : Ct P f al r := by
  obtain ⟨c, hc⟩ := Option.isSome_iff_exists.1 hb
  have hO' : chkO τ O c = true := by unfold bodyOf at hO; rw [hc] at hO; exact hO
  have hR' : RgAll P O c := by unfold bodyOf at hR; rw [hc] at hR; exact hR
  refine ct_of_run τ G O hE hG.1 hG.2 hm hen hf hc hO' hR' fun hp hw => ?_
  have h1 := h hp hw
  unfold claim bodyOf at h1
  split at h1
  · rename_i s0 hs0
    rw [hc, satL_std] at h1
    refine ⟨s0, hs0, sat_mono (fun e s hq => ?_) h1⟩
    unfold endQ at hq
    cases e with
    | exit id => exact hq.elim
    | nrm =>
      simp only at hq
      split at hq
      · rename_i ps hps; exact ⟨.inl rfl, ps, hps, andL_all hq⟩
      · exact hq.elim
    | ret =>
      simp only at hq
      split at hq
      · rename_i ps hps; exact ⟨.inr rfl, ps, hps, andL_all hq⟩
      · exact hq.elim
  · exact h1.elim

/-- A function's claim where it hands back any of which something is known. -/
def endQX (L : Lg) (A : Alg) (τ : Env) (rvs : List ResultVar) (al : List AV) (t : Ty) (p : t.den → List Prop) (r : t.den → Ret) : Ex → St → Prop := fun e s =>
  match e with
  | .exit _ => False
  | _ => match yOf A τ (exitZ A τ s rvs al (r t.dflt)) rvs al (r t.dflt) t with
    | some y => (match exitW A τ s rvs al (r y) with
      | some ps => andL L (ps ++ p y)
      | none => False)
    | none => False
def claimX (L : Lg) (A : Alg) (τ : Env) (G : Gam) (O : Opt) (fn : Func) (al : List AV) : RX → Prop
  | .one r => claim L A τ G O fn al r
  | .any t _ p r => match startW A fn.ntmps al with
    | some s => satL L (run A τ G O (bodyOf fn) s) (endQX L A τ fn.results.toList al t p r)
    | none => False
theorem ctx_claim {P : Program} {f : Nat} {fn : Func} {τ : Env} {G : Gam} {O : Opt} (hE : EnvOk P τ) (hG : GOk P G ∧ EnOk P G) (hm : P.follows .mixedOrders = true) (hen : Enters P f) (hf : P.funcs[f]? = some fn) (hb : fn.body.isSome = true) (hO : chkO τ O (bodyOf fn) = true)
    {al : List AV} {t : Ty} {pre : List Prop} {p : t.den → List Prop} {r : t.den → Ret} (h : (∀ q ∈ pre, q) → wfL al → claimX Lg.std Alg.std τ G O fn al (.any t pre p r)) (hR : RgAll P O (bodyOf fn) := by exact RgAll.none (fun _ => rfl) _) : CtX P f al (.any t pre p r) := by
  intro hpre
  obtain ⟨c, hc⟩ := Option.isSome_iff_exists.1 hb
  have hO' : chkO τ O c = true := by unfold bodyOf at hO; rw [hc] at hO; exact hO
  have hR' : RgAll P O c := by unfold bodyOf at hR; rw [hc] at hR; exact hR
  refine cts_of_run τ G O hE hG.1 hG.2 hm hen hf hc hO' hR' fun hw => ?_
  have h1 := h hpre hw
  unfold claimX bodyOf at h1
  simp only at h1
  split at h1
  · rename_i s0 hs0
    rw [hc, satL_std] at h1
    refine ⟨s0, hs0, sat_mono (fun e s hq => ?_) h1⟩
    unfold endQX at hq
    have key : ∀ {y : t.den}, (match exitW Alg.std τ s fn.results.toList al (r y) with | some ps => andL Lg.std (ps ++ p y) | none => False) → ∃ r', (∃ y, (∀ h ∈ p y, h) ∧ r' = r y) ∧ ∃ ps, exitW Alg.std τ s fn.results.toList al r' = some ps ∧ ∀ q ∈ ps, q := fun {y} hq => by
      split at hq
      · rename_i ps hps
        have := andL_all hq
        exact ⟨r y, ⟨y, fun h hh => this h (by simp [hh]), rfl⟩, ps, hps, fun q hq => this q (by simp [hq])⟩
      · exact hq.elim
    cases e with
    | exit id => exact hq.elim
    | nrm =>
      simp only at hq
      split at hq
      · exact ⟨.inl rfl, key hq⟩
      · exact hq.elim
    | ret =>
      simp only at hq
      split at hq
      · exact ⟨.inr rfl, key hq⟩
      · exact hq.elim
  · exact h1.elim

/-- A round of a loop, for computing. -/
def round (L : Lg) (b : St → Tr) (s : St) (I : St → Prop) (q : Ex → St → Prop) : Prop :=
  satL L (b s) fun e s' => match e with
    | .nrm => L.nx I s'
    | e => q e s'

/-- A loop whose head's states are told by variables. -/
theorem lp_v {V : Type} {b : St → Tr} {s : St} {q : Ex → St → Prop} (S : V → St) (Fact : V → Prop) (meas : V → Nat) (v0 : V) (h0 : s = S v0) (h1 : Fact v0)
    (h : ∀ v, Fact v → ∀ I : St → Prop, (I = fun s' => ∃ v', s' = S v' ∧ Fact v' ∧ meas v' < meas v) → round Lg.std b (S v) I q) : Lg.std.lp b s q := by
  subst h0
  refine ⟨fun n s => ∃ v, s = S v ∧ Fact v ∧ meas v = n, ⟨_, v0, rfl, h1, rfl⟩, fun n s hI => ?_⟩
  obtain ⟨v, rfl, hf, rfl⟩ := hI
  have := h v hf _ rfl
  unfold round at this
  rw [satL_std] at this
  refine sat_mono (fun e s' hq => ?_) this
  cases e with
  | nrm => obtain ⟨v', e1, e2, e3⟩ := hq; exact ⟨_, e3, v', e1, e2, rfl⟩
  | exit j => exact hq
  | ret => exact hq

end Go.Vee

