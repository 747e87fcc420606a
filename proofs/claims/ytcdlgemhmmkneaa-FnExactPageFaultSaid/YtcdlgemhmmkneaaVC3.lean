import Derived.Test.YtcdlgemhmmkneaaVC2
set_option linter.unusedSimpArgs false
set_option linter.unusedVariables false
namespace Go.Vee
open Go

section
variable {P : Program} {w0 w : World} {F0 : Bnd} {s : St} {a : Act} {I J : Nat → Prop} {ρ : Nat → RC} {H : Heap} {o : Oper} {K : St → Prop} {Q : Exit → Act → World → Prop}

theorem layVs_spec : ∀ {outs : List ((t : Ty) × Md × t.den)} {us : List Value} {fps : List (List Nat)} {H H' : Heap} {vs : List AV} {ρ : Nat → RC} {fr : List AV}, Inv w0 F0 ⟨fr, H⟩ a w I ρ → Outs w I outs us fps → fps.flatten.Nodup → Free w0 F0 I ρ H fps.flatten →
    layVs Alg.std outs H = some (vs, H') → ∃ ρ', Inv w0 F0 ⟨fr, H'⟩ a w I ρ' ∧ Ext w w I I ρ ρ' H H' ∧ vs.length = us.length ∧ ∀ (i : Nat) (v : AV) (u : Value), vs[i]? = some v → us[i]? = some u → VR w I ρ' H' v u
  | [], us, fps, H, H', vs, ρ, fr, h, ho, hn, hf, hl => by
    simp [layVs] at hl
    obtain ⟨rfl, rfl⟩ := hl
    have := ho.len
    exact ⟨ρ, h, Ext.refl, by simpa using this.symm, by simp⟩
  | ⟨t, m, x⟩ :: outs, us, fps, H, H', vs, ρ, fr, h, ho, hn, hf, hl => by
    match us, fps, ho.len, ho.fl with
    | u :: us, fp :: fps, e1, e2 =>
    rw [List.flatten_cons] at hn hf
    rw [List.nodup_append] at hn
    obtain ⟨n1, n2, n12⟩ := hn
    simp only [layVs, layV] at hl
    obtain ⟨cs, hu, ho1⟩ := ho.at_ 0 ⟨t, m, x⟩ u rfl rfl
    simp only [List.getD_cons_zero] at ho1
    have ho2 : Outs w I outs us fps := ⟨by simpa using e1, by simpa using e2, fun i q u hq hu => by simpa using ho.at_ (i + 1) q u (by simpa using hq) (by simpa using hu)⟩
    cases hc : layC Alg.std t m x H with
    | none => rw [hc] at hl; simp at hl
    | some lH =>
      obtain ⟨l, H1⟩ := lH
      rw [hc] at hl
      simp only at hl
      cases hv : layVs Alg.std outs H1 with
      | none => rw [hv] at hl; simp at hl
      | some vH =>
        obtain ⟨vs', H2⟩ := vH
        rw [hv] at hl
        simp only [Option.some.injEq, Prod.mk.injEq] at hl
        obtain ⟨rfl, rfl⟩ := hl
        obtain ⟨ρ1, k1, E1, v1, q1⟩ := layC_spec h ho1 n1 (fun b hb => hf b (List.mem_append_left _ hb)) hc
        obtain ⟨ρ2, k2, E2, v2, v3⟩ := layVs_spec k1 ho2 n2 (fun b hb => by
          obtain ⟨g1, g2, g3⟩ := hf b (List.mem_append_right _ hb)
          refine ⟨g1, g2, fun r o hr hb' => ?_⟩
          rcases q1 r o hr with ⟨hr', e⟩ | hin
          · exact g3 r o hr' (e ▸ hb')
          · exact n12 b (hin b hb') b hb rfl) hv
        refine ⟨ρ2, k2, E1.trans E2, by simp [v2], fun i v u' hv hu' => ?_⟩
        cases i with
        | zero =>
          simp at hv hu'
          subst hv
          subst hu'
          rw [hu]
          exact (v1.ofCells ho1.len).ext E2
        | succ i => exact v3 i v u' (by simpa using hv) (by simpa using hu')

theorem retV_spec {vs : List AV} {us : List Value} (hl : vs.length = us.length) (h : ∀ (i : Nat) (v : AV) (u : Value), vs[i]? = some v → us[i]? = some u → VR w I ρ H v u) : VR w I ρ H (retV vs) (retVal us) := by
  match vs, us, hl with
  | [], [], _ => exact .tup [] [] rfl (by simp)
  | [v], [u], _ => exact h 0 v u rfl rfl
  | v :: v2 :: vs, u :: u2 :: us, hl => exact .tup _ _ hl h

theorem exec_call {f : Operand} {args : Array Operand} {ts : Array TypeId} (ho : o.op = .call { callee := .value f, args := args, argTypes := ts }) {fid : FuncId} {cs : List Value} (hf : a.eval f = .func (.func fid) #[] cs.toArray) :
    (execOp a.eval o).run P w = (callFunc fid ((args.toList.map a.eval) ++ cs).toArray).run P w := by
  have e : (args.map a.eval ++ cs.toArray) = ((args.toList.map a.eval) ++ cs).toArray := by apply Array.ext'; simp
  unfold execOp
  rw [ho]
  simp only [resolve, hf, Deferred.ofValue, Sem.run_bind, Sem.run_pure, Result.andThen_ok, invoke, Array.empty_append]
  rw [e]

theorem ok_call {f : Operand} {args : Array Operand} {ts : Array TypeId} (τ : Env) (G : Gam) (hG : GOk P G) (h : Inv w0 F0 s a w I ρ) (ho : o.op = .call { callee := .value f, args := args, argTypes := ts }) (hs : sat (stepOp Alg.std τ G o s) (fun _ s' => K s')) :
    o.wp P a w (Post w0 F0 K) Q := by
  have hfv := h.ev f
  simp only [stepOp, ho] at hs
  unfold callOp at hs
  split at hs
  · rename_i fid caps hfe
    rw [hfe] at hfv
    split at hs
    · rename_i al lent cs hargs hcaps
      split at hs
      · rename_i r hr
        split at hs
        · exact hs.elim
        · rename_i hlent
          split at hs
          · exact hs.elim
          split at hs
          · rename_i vs H' hlay
            rw [sat_needs] at hs
            obtain ⟨hpre, hs⟩ := hs
            have hct := hG fid _ r hr
            obtain ⟨cvs, hu, hcl, hcc⟩ : ∃ cvs : List Value, a.eval f = .func (.func fid) #[] cvs.toArray ∧ caps.length = cvs.length ∧ ∀ (i : Nat) (v : AV) (u : Value), caps[i]? = some v → cvs[i]? = some u → VR w I ρ s.H v u := by
              cases hu : a.eval f <;> rw [hu] at hfv <;> cases hfv
              rename_i cs hl hc
              exact ⟨cs, rfl, hl, hc⟩
            generalize hL : (lent || !caps.all pureV) = L at *
            have hJ : ∀ b, I b → (I b ∨ (L = true ∧ ∃ r o, hget s.H r = some o ∧ b ∈ tfp ρ r o)) := fun b hb => .inl hb
            have hroot : L = true → ∀ r o, hget s.H r = some o → ∀ b ∈ tfp ρ r o, (I b ∨ (L = true ∧ ∃ r o, hget s.H r = some o ∧ b ∈ tfp ρ r o)) := fun hl r o hr b hb => .inr ⟨hl, r, o, hr, hb⟩
            obtain ⟨k1, k2⟩ := argsD_spec h hJ τ hargs (fun hp => hroot (by rw [← hL]; simp [hp]))
            obtain ⟨k3, k4⟩ := capsD_spec h hJ hcl hcc hcaps (fun hp => hroot (by rw [← hL]; simp [hp]))
            have hcall := hct w _ ((args.toList.map a.eval) ++ cvs) hpre (by simp [k1, k3]) (fun i v u hv hu => by
              by_cases hi : i < al.length
              · rw [List.getElem?_append_left hi] at hv
                rw [List.getElem?_append_left (by rw [← k1]; exact hi)] at hu
                exact k2 i v u hv hu
              · rw [List.getElem?_append_right (by omega)] at hv
                rw [List.getElem?_append_right (by rw [← k1]; omega), ← k1] at hu
                exact k4 _ v u hv hu) (fun b hb => by
              rcases hb with hb | ⟨_, r, o, hr, hb⟩
              · exact h.imm b hb
              · exact (h.sep r o hr b hb).2.1)
            -- what it comes back to
            have back : ∀ e w', Back w (fun b => I b ∨ (L = true ∧ ∃ r o, hget s.H r = some o ∧ b ∈ tfp ρ r o)) r.outs e w' → ∃ v, e = .returned v ∧ Post w0 F0 K (a.put o.dst v) w' := by
              intro e w' hb
              obtain ⟨us, I', fps, rfl, hk, hout, hnd, hfree, hII, hI'⟩ := hb
              refine ⟨_, rfl, ?_⟩
              have hw := h.world hk (fun _ _ h => h) (fun _ _ _ _ _ h => h) (fun _ h => h.elim)
              have hold : ∀ r o, hget s.H r = some o → ∀ b ∈ tfp ρ r o, b < w.heap.size := fun r o hr b hb => (h.sep r o hr b hb).2.1
              by_cases hL' : L = true
              · have hown : ∀ q ∈ r.outs, own q.1 q.2.1 = true := by
                  have hh := hlent
                  simp [hL', ownRet] at hh
                  exact hh
                have hout2 : Outs w' I r.outs us fps := ⟨hout.len, hout.fl, fun i q u hq hu => by
                  obtain ⟨cs, e1, e2⟩ := hout.at_ i q u hq hu
                  exact ⟨cs, e1, Own.anyI (hown q (List.mem_of_getElem? hq)) e2⟩⟩
                obtain ⟨ρ', h', E, hl, hv⟩ := layVs_spec hw hout2 hnd (fun b hb => ⟨fun hI => (hfree b hb).2 (hII b (.inl hI)), .inl (Nat.le_trans h.size (hfree b hb).1), fun r o hr hb' => absurd (hold r o hr b hb') (by have := (hfree b hb).1; omega)⟩) hlay
                exact ⟨_, I, ρ', h'.put (retV_spec hl hv) o.dst, hs⟩
              · have hsh := hw.share I' (fun b hb => (hI' b hb).1) (fun b hb => by
                  rcases (hI' b hb).2 with hI | hI
                  · rcases hI with hI | ⟨hI, _⟩
                    · exact h.immF b hI
                    · exact absurd hI hL'
                  · exact .inl (Nat.le_trans h.size hI)) (fun r o hr b hb hh => by
                  rcases (hI' b hh).2 with hI | hI
                  · rcases hI with hI | ⟨hI, _⟩
                    · exact (h.sep r o hr b hb).1 hI
                    · exact hL' hI
                  · exact absurd (hold r o hr b hb) (by omega))
                have hout2 : Outs w' (fun b => I b ∨ I' b) r.outs us fps := ⟨hout.len, hout.fl, fun i q u hq hu => by
                  obtain ⟨cs, e1, e2⟩ := hout.at_ i q u hq hu
                  exact ⟨cs, e1, Own.frame (fun _ _ => rfl) (fun _ h => .inr h) e2 (fun _ _ => rfl)⟩⟩
                obtain ⟨ρ', h', E, hl, hv⟩ := layVs_spec hsh hout2 hnd (fun b hb => ⟨fun hI => hI.elim (fun hI => (hfree b hb).2 (hII b (.inl hI))) (hfree b hb).2, .inl (Nat.le_trans h.size (hfree b hb).1), fun r o hr hb' => absurd (hold r o hr b hb') (by have := (hfree b hb).1; omega)⟩) hlay
                exact ⟨_, _, ρ', h'.put (retV_spec hl hv) o.dst, hs⟩
            unfold CallN at hcall
            unfold Oper.wp
            rw [exec_call ho hu]
            split at hcall
            · rename_i f' args' w1 hrun
              rw [hrun]
              refine Calls.mono hcall fun e w' hb => ?_
              obtain ⟨v, rfl, hp⟩ := back e w' hb
              exact hp
            · rename_i v w1 hrun
              rw [hrun]
              obtain ⟨v', he, hp⟩ := back _ w1 hcall
              cases he
              exact hp
            · exact hcall.elim
          · exact hs.elim
      · exact hs.elim
    · exact hs.elim
  · exact hs.elim

end
end Go.Vee
