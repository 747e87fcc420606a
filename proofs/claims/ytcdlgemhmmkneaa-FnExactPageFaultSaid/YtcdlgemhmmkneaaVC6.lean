import Derived.Test.YtcdlgemhmmkneaaVC5
set_option linter.unusedSimpArgs false
set_option linter.unusedVariables false
namespace Go.Vee
open Go

theorem Own.toSh {w : World} {I : Nat → Prop} : ∀ {t : Ty} {m : Md} {cs : List Value} {x : t.den}, isSh t m = true → Own w I t .sh cs x [] → Own w I t m cs x []
  | .int _, _, _, _, _, h => h
  | .bool, _, _, _, _, h => h
  | .str, _, _, _, _, h => h
  | .unit, _, _, _, _, h => h
  | .sl e, m, _, _, hs, h => by
    have : m = .sh := by simpa [isSh] using hs
    subst this
    exact h
  | .pair a b, m, _, _, hs, h => by
    simp only [isSh, Bool.and_eq_true] at hs
    obtain ⟨c1, c2, f1, f2, e1, e2, h1, h2⟩ := h
    obtain ⟨rfl, rfl⟩ := List.append_eq_nil_iff.1 e2.symm
    exact ⟨c1, c2, [], [], e1, rfl, Own.toSh hs.1 h1, Own.toSh hs.2 h2⟩

section
variable {P : Program} {w0 w : World} {F0 : Bnd} {s : St} {a : Act} {I J : Nat → Prop} {ρ : Nat → RC} {H : Heap} {o : Oper} {K : St → Prop} {Q : Exit → Act → World → Prop} {C : World → Prop}

/-- A result's value: what 'results' reads of one variable. -/
def resOne (tmps : Array Value) : ResultVar → Sem Value
  | .tmp t => pure (tmps.getD t undef)
  | .cell a t => do loadVar t (← asAddr (tmps.getD a undef))

theorem oneCell_not_agg {v : Value} (h : v.oneCell' = true) : v.cells = #[v] := by cases v <;> simp_all [Value.cells, Value.oneCell']

/-- A value from its cells, if its type is known to be one of cells that fit. -/
theorem mkV_of_cells {t : Ty} {v : AV} {u : Value} {cs : List Value} (hv : VR w I ρ H v u) (hc : u.cells = cs.toArray) (hl : cs.length = t.sz) (ha : t.isAgg = isAggV v) (hok : (cellsOf v).all okc = true) : u = mkV t cs := by
  by_cases hA : isAggV v = true
  · have := agg_of_cells hv hA hc
    rw [this]
    simp [mkV, ha, hA]
  · have h1 : t.isAgg = false := by rw [ha]; simpa using hA
    have hs := isAgg_sz h1
    match cs, hl with
    | [c], _ =>
      simp only [mkV, h1, Bool.false_eq_true, if_false, List.headD_cons]
      cases hv with
      | dat t x cs' ho =>
        have ht : t.isAgg = false := by simpa [isAggV] using hA
        have hlen := ho.len
        rw [isAgg_sz ht] at hlen
        match cs', hlen with
        | [c'], _ =>
          have h1c := ho.one c' (by simp)
          rw [mkV_cells ho.len ho.one] at hc
          simp only [mkV, ht, Bool.false_eq_true, if_false, List.headD_cons]
          simpa using hc
        | [], hl => simp at hl
        | _ :: _ :: _, hl => simp at hl
      | lb b => simpa [Value.cells] using hc
      | ref e r ver p lo n A c hr hn hnc h => simpa [Value.cells] using hc
      | nilS => simpa [Value.cells] using hc
      | agg => simp [isAggV] at hA
      | _ => simp [cellsOf, okc] at hok
    | [], hl => simp [hs] at hl
    | _ :: _ :: _, hl => simp [hs] at hl

/-- One result: its cells, their values. -/
theorem resC_spec (τ : Env) (hE : EnvOk P τ) (h : Inv w0 F0 s a w I ρ) {rv : ResultVar} {l : List AV} {t : Ty} (hl : resC τ s t rv = some l) :
    ∃ us, us.length = t.sz ∧ VRs w I ρ s.H l us ∧ (resOne a.tmps rv).run P w = .ok (mkV t us) w := by
  unfold resC at hl
  split at hl
  · rename_i l' hl'
    split at hl
    · rename_i hfo
      cases hl
      obtain ⟨hfit, hok⟩ := hfo
      cases rv with
      | tmp i =>
        simp only [resR] at hl'
        split at hl'
        · rename_i hagg
          cases hl'
          rcases h.slot i with hj | ⟨u, hu, hv⟩
          · rw [hj] at hok; simp [cellsOf, okc] at hok
          · obtain ⟨us, h1, h2⟩ := hv.cells hok
            have hul : us.length = t.sz := by rw [← h2.len, hfit]
            refine ⟨us, hul, h2, ?_⟩
            have := mkV_of_cells hv h1 hul hagg hok
            simp only [resOne, Sem.run_pure]
            rw [← this]
            simp [Array.getD_eq_getD_getElem?, hu]
        · cases hl'
      | cell ad ti =>
        simp only [resR] at hl'
        split at hl'
        · rename_i hT
          split at hl'
          · rename_i r off hb
            split at hl'
            · rename_i cs hr
              split at hl'
              · rename_i hin
                cases hl'
                rcases h.slot ad with hj | ⟨u, hu, hv⟩
                · rw [hj] at hb; cases hb
                · rw [hb] at hv
                  obtain ⟨rfl, _⟩ := hv.bptr_inv
                  obtain ⟨arr, et, hbb, hsz, hcs⟩ := h.boxCells hr off (by omega)
                  have hfit2 : (ρ r).off + off + t.sz ≤ arr.size := by omega
                  have hcs2 := hcs.take t.sz
                  have e : (seg arr ((ρ r).off + off) (cs.length - off)).take t.sz = seg arr ((ρ r).off + off) t.sz := by
                    simp only [seg, List.take_take]; congr 1; omega
                  rw [e] at hcs2
                  refine ⟨_, seg_length hfit2, hcs2, ?_⟩
                  have hrun := run_loadVar' (P := P) (hE.ty ti t hT) hbb hfit2
                  simp [resOne, Array.getD_eq_getD_getElem?, hu, asAddr, hrun]
              · cases hl'
            · cases hl'
          · cases hl'
        · cases hl'
    · cases hl
  · cases hl

theorem exitD_spec (τ : Env) (hE : EnvOk P τ) (h : Inv w0 F0 s a w I ρ) (hJ : ∀ b, I b → J b) (hroot : ∀ r o, hget s.H r = some o → ∀ b ∈ tfp ρ r o, J b) : ∀ {rvs : List ResultVar} {outs : List ((t : Ty) × Md × t.den)} {ps : List Prop},
    exitD Alg.std τ s rvs outs = some ps → (∀ p ∈ ps, p) → ∃ us, Outs w J outs us (List.replicate outs.length []) ∧ (rvs.mapM (resOne a.tmps)).run P w = .ok us w
  | [], [], ps, hx, hp => ⟨[], ⟨rfl, rfl, by simp⟩, by simp⟩
  | [], _ :: _, ps, hx, hp => by simp [exitD] at hx
  | _ :: _, [], ps, hx, hp => by simp [exitD] at hx
  | v :: vs, ⟨t, m, x⟩ :: outs, ps, hx, hp => by
    simp only [exitD] at hx
    split at hx
    · rename_i hsh
      split at hx
      · rename_i l hl
        split at hx
        · rename_i y hy
          split at hx
          · rename_i q hq
            cases hx
            obtain ⟨us1, e1, e2, e3⟩ := resC_spec τ hE h hl
            obtain ⟨u1, u2, rfl, hv2, _, hown⟩ := packD_spec h hJ e2 hy (fun _ => hroot)
            have hu2 : u2 = [] := List.eq_nil_of_length_eq_zero (by have := hv2.len; simpa using this.symm)
            subst hu2
            rw [List.append_nil] at e3
            have hyx : y = x := hp (y = x) (by simp)
            subst hyx
            obtain ⟨us, o1, o2⟩ := exitD_spec τ hE h hJ hroot hq (fun p hp' => hp p (by simp [hp']))
            refine ⟨mkV t u1 :: us, ⟨by simp [o1.len], by simp, fun i q u hq hu => ?_⟩, by simp [e3, o2]⟩
            cases i with
            | zero =>
              simp at hq hu
              subst hq
              subst hu
              exact ⟨u1, rfl, by simpa [List.replicate_succ] using Own.toSh hsh hown⟩
            | succ i =>
              have := o1.at_ i q u (by simpa using hq) (by simpa using hu)
              simpa [List.replicate_succ] using this
          · cases hx
        · cases hx
      · cases hx
    · cases hx

theorem exitM_spec (τ : Env) (hE : EnvOk P τ) (h : Inv w0 F0 s a w I ρ) : ∀ {rvs : List ResultVar} {outs : List ((t : Ty) × Md × t.den)} {H : Heap} {ps : List Prop},
    (∀ r o, hget H r = some o → hget s.H r = some o) → exitM Alg.std τ s rvs outs H = some ps → (∀ p ∈ ps, p) → ∃ us fps, Outs w I outs us fps ∧ (rvs.mapM (resOne a.tmps)).run P w = .ok us w ∧ fps.flatten.Nodup ∧ ∀ b ∈ fps.flatten, ∃ r o, hget H r = some o ∧ b ∈ tfp ρ r o
  | [], [], H, ps, hH, hx, hp => ⟨[], [], ⟨rfl, rfl, by simp⟩, by simp, by simp, by simp⟩
  | [], _ :: _, H, ps, hH, hx, hp => by simp [exitM] at hx
  | _ :: _, [], H, ps, hH, hx, hp => by simp [exitM] at hx
  | v :: vs, ⟨t, m, x⟩ :: outs, H, ps, hH, hx, hp => by
    simp only [exitM] at hx
    split at hx
    · rename_i l hl
      split at hx
      · rename_i k hk
        split at hx
        · rename_i hkl
          split at hx
          · rename_i heq
            split at hx
            · rename_i q hq
              cases hx
              obtain ⟨us1, e1, e2, e3⟩ := resC_spec τ hE h hl
              obtain ⟨u1, u2, fp, rfl, hv2, pk⟩ := packM_spec s.H h.rootsOf hH e2 hk (fun p hp' => hp p (by simp [hp']))
              have hu2 : u2 = [] := List.eq_nil_of_length_eq_zero (by have := hv2.len; rw [hkl] at this; simpa using this.symm)
              subst hu2
              rw [List.append_nil] at e3
              have hyx : k.x = x := hp (k.x = x) (by simp)
              subst hyx
              obtain ⟨us, fps, o1, o2, o3, o4⟩ := exitM_spec τ hE h (fun r o hr => hH r o (pk.sub r o hr)) hq (fun p hp' => hp p (by simp [hp']))
              refine ⟨mkV t u1 :: us, fp :: fps, ⟨by simp [o1.len], by simp [o1.fl], fun i q u hq hu => ?_⟩, by simp [e3, o2], ?_, fun b hb => ?_⟩
              · cases i with
                | zero =>
                  simp at hq hu
                  subst hq
                  subst hu
                  exact ⟨u1, rfl, by simpa using pk.own.eqM heq⟩
                | succ i =>
                  have := o1.at_ i q u (by simpa using hq) (by simpa using hu)
                  simpa using this
              · rw [List.flatten_cons, List.nodup_append]
                refine ⟨pk.nd, o3, fun b hb c hc hbc => ?_⟩
                subst hbc
                obtain ⟨r, o, g1, g2, g3⟩ := pk.src b hb
                obtain ⟨r', o', g4, g5⟩ := o4 b hc
                have hne : r ≠ r' := by rintro rfl; rw [g2] at g4; cases g4
                exact h.disj r o r' o' hne (hH _ _ g1) (hH _ _ (pk.sub _ _ g4)) b g3 g5
              · rw [List.flatten_cons] at hb
                rcases List.mem_append.1 hb with hb | hb
                · obtain ⟨r, o, g1, g2, g3⟩ := pk.src b hb
                  exact ⟨r, o, g1, g3⟩
                · obtain ⟨r, o, g1, g3⟩ := o4 b hb
                  exact ⟨r, o, pk.sub r o g1, g3⟩
            · cases hx
          · cases hx
        · cases hx
      · cases hx
    · cases hx

theorem run_results {fn : Func} {tmps : Array Value} {us : List Value} (h : (fn.results.toList.mapM (resOne tmps)).run P w = .ok us w) : (results fn tmps).run P w = .ok (retVal us) w := by
  have e : (results fn tmps) = (do let vs ← fn.results.mapM (resOne tmps); pure (if h : vs.size = 1 then vs[0] else .tuple vs)) := by
    unfold results
    have : (fun x : ResultVar => match x with
      | .tmp t => (pure (tmps.getD t undef) : Sem Value)
      | .cell a t => do loadVar t (← asAddr (tmps.getD a undef))) = resOne tmps := by
      funext x; cases x <;> rfl
    rw [← this]
    rfl
  rw [e, Array.mapM_eq_mapM_toList]
  simp only [Sem.run_bind, Sem.run_map, h, Result.andThen_ok, Sem.run_pure]
  match us with
  | [] => simp [retVal]
  | [u] => simp [retVal]
  | u :: u2 :: us => simp [retVal]

/-- What is known of any data. -/
def wf : (t : Ty) → t.den → Prop
  | .int k, n => k.min ≤ n ∧ n ≤ k.max
  | .bool, _ => True
  | .str, l => l.length ≤ 9223372036854775807 ∧ ∀ n ∈ l, 0 ≤ n ∧ n ≤ 255
  | .sl e, l => l.length ≤ 9223372036854775807 ∧ ∀ x ∈ l, wf e x
  | .unit, _ => True
  | .pair a b, x => wf a x.1 ∧ wf b x.2

theorem Own.wf : ∀ {t : Ty} {m : Md} {cs : List Value} {x : t.den} {fp : List Nat}, Own w I t m cs x fp → Vee.wf t x
  | .int _, _, _, _, _, h => h.2.1
  | .bool, _, _, _, _, h => trivial
  | .str, _, _, _, _, h => by
    obtain ⟨⟨s, _, rfl, h2⟩, _⟩ := h
    refine ⟨by rw [List.length_map]; have : s.data.toList.length = s.size := Array.length_toList; omega, fun n hn => ?_⟩
    obtain ⟨b, _, rfl⟩ := List.mem_map.1 hn
    have := b.toNat_lt
    omega
  | .sl e, .sh, _, _, _, h => by
    refine ⟨h.1, fun x hx => ?_⟩
    obtain ⟨j, hj, rfl⟩ := List.getElem_of_mem hx
    obtain ⟨_, _, A, c, _, _, h2⟩ := h
    rcases h2 with rfl | ⟨b, off, arr, et, fr, _, _, _, hel⟩
    · simp at hj
    · exact (hel j hj).2.wf
  | .sl e, .ow m', _, _, _, h => by
    refine ⟨h.1, fun x hx => ?_⟩
    obtain ⟨j, hj, rfl⟩ := List.getElem_of_mem hx
    rcases h.2 with ⟨_, rfl, _⟩ | ⟨b, c, arr, et, fps, _, _, _, _, _, _, _, hel⟩
    · simp at hj
    · exact (hel j hj).wf
  | .sl e, .no, _, _, _, h => h.2.elim
  | .sl e, .pr _ _, _, _, _, h => h.2.elim
  | .unit, _, _, _, _, h => trivial
  | .pair a b, _, _, _, _, h => by
    obtain ⟨c1, c2, f1, f2, _, _, h1, h2⟩ := h
    exact ⟨h1.wf, h2.wf⟩

def wfV : AV → Prop
  | .dat t x => Vee.wf t x
  | .dptr t x => Vee.wf t x
  | _ => True
def wfL : List AV → Prop
  | [] => True
  | v :: vs => wfV v ∧ wfL vs

theorem AR.wf {v : AV} {u : Value} (h : AR w I v u) : wfV v := by
  cases h <;> first | trivial | skip
  case dat t x cs ho => exact ho.wf
  case dptr t x b off arr et fr hb hi hs ho => exact ho.wf

theorem wfL_of : ∀ {al : List AV} {us : List Value}, al.length = us.length → (∀ (i : Nat) (v : AV) (u : Value), al[i]? = some v → us[i]? = some u → AR w I v u) → wfL al
  | [], _, _, _ => trivial
  | v :: al, [], h, _ => by simp at h
  | v :: al, u :: us, h, k => ⟨(k 0 v u rfl rfl).wf, wfL_of (us := us) (by simpa using h) fun i v u hv hu => k (i + 1) v u (by simpa using hv) (by simpa using hu)⟩

/-- A function's contract, from its body. -/
theorem ct_of_run {f : FuncId} {fn : Func} {c : Code} (τ : Env) (G : Gam) (O : Nat → Bool) (hE : EnvOk P τ) (hG : GOk P G) (hEn : EnOk P G) (hm : P.follows .mixedOrders = true) (hen : Enters P f) (hf : P.funcs[f]? = some fn) (hb : fn.body = some c)
    {al : List AV} {r : Ret} (h : (∀ p ∈ r.pre, p) → wfL al → sat (run Alg.std τ G O c ⟨al ++ List.replicate (fn.ntmps - al.length) .junk, []⟩) fun e s =>
      (e = .nrm ∨ e = .ret) ∧ ∃ ps, exitT Alg.std τ s fn.results.toList r.outs = some ps ∧ ∀ p ∈ ps, p) : Ct P f al r := by
  intro w I us hpre hlen hargs himm
  unfold CallN
  rw [hen]
  refine calls_of_wp hf hb ?_
  have hinv : Inv w ⟨fun _ => False, I⟩ ⟨al ++ List.replicate (fn.ntmps - al.length) .junk, []⟩ { tmps := us.toArray ++ Array.replicate (fn.ntmps - us.toArray.size) undef, defers := [] } w I ρ0 := {
    defers := rfl
    len := by simp [hlen]
    slots := fun i v hv => by
      by_cases hi : i < al.length
      · rw [List.getElem?_append_left hi] at hv
        have hiu : i < us.length := by omega
        refine ⟨us[i], ?_, hargs i v _ hv (by simp [hiu])⟩
        rw [Array.getElem?_append_left (by simpa using hiu)]
        simp [hiu]
      · rw [List.getElem?_append_right (by omega)] at hv
        have hj := (List.getElem?_eq_some_iff.1 hv).1
        have hv' : v = .junk := by
          rw [List.getElem?_replicate] at hv
          split at hv
          · simpa using hv.symm
          · cases hv
        subst hv'
        simp only [List.length_replicate] at hj
        refine ⟨undef, ?_, .junk _⟩
        rw [Array.getElem?_append_right (by simp; omega), Array.getElem?_replicate, if_pos (by simp; omega)]
    roots := fun r o hr => by simp [hget] at hr
    nodup := fun r o hr => by simp [hget] at hr
    disj := fun r o r' o' _ hr => by simp [hget] at hr
    imm := himm
    immF := fun b hb => .inr hb
    sep := fun r o hr => by simp [hget] at hr
    os := rfl
    tape := rfl
    output := rfl
    size := Nat.le_refl _
    frame := fun _ _ _ => rfl
    keep := fun r cs hr => by simp [hget] at hr }
  refine wp_mono (run_ok τ G O hE hG hEn hm c hinv (h hpre (wfL_of hlen hargs))) fun e a w' hq => ?_
  have fin : ∀ {S : St → Prop}, Post w ⟨fun _ => False, I⟩ S a w' → (∀ s, S s → ∃ ps, exitT Alg.std τ s fn.results.toList r.outs = some ps ∧ ∀ p ∈ ps, p) → a.defers = [] ∧ ∃ v, (results fn a.tmps).run P w' = .ok v w' ∧ Back w I r.outs (.returned v) w' := by
    intro S hp hS
    obtain ⟨s, I2, ρ, hi, hs⟩ := hp
    obtain ⟨ps, hx, hps⟩ := hS s hs
    have hk : Keeps (fun _ => False) w w' := ⟨hi.os, hi.tape, hi.output, hi.size, fun k hk _ => hi.frame k hk (fun h => h)⟩
    refine ⟨hi.defers, ?_⟩
    unfold exitT at hx
    split at hx
    · have hJ : ∀ b, I2 b → ((I2 b ∨ I b) ∨ ∃ r o, hget s.H r = some o ∧ b ∈ tfp ρ r o) := fun b hb => .inl (.inl hb)
      obtain ⟨us, o1, o2⟩ := exitD_spec (J := fun b => (I2 b ∨ I b) ∨ ∃ r o, hget s.H r = some o ∧ b ∈ tfp ρ r o) τ hE hi hJ (fun r o hr b hb => .inr ⟨r, o, hr, hb⟩) hx hps
      have hnil : (List.replicate r.outs.length ([] : List Nat)).flatten = [] := by simp
      refine ⟨_, run_results o2, us, _, _, rfl, hk, o1, by rw [hnil]; simp, by rw [hnil]; simp, fun b hb => .inl (.inr hb), fun b hb => ?_⟩
      rcases hb with (hb | hb) | ⟨r, o, hr, hb⟩
      · exact ⟨hi.imm b hb, (hi.immF b hb).symm⟩
      · exact ⟨Nat.lt_of_lt_of_le (himm b hb) hi.size, .inl hb⟩
      · have := hi.sep r o hr b hb
        exact ⟨this.2.1, .inr (this.2.2.elim id (fun h => h.elim))⟩
    · obtain ⟨us, fps, o1, o2, o3, o4⟩ := exitM_spec τ hE hi (fun _ _ h => h) hx hps
      have o1' : Outs w' (fun b => I2 b ∨ I b) r.outs us fps := ⟨o1.len, o1.fl, fun i q u hq hu => by
        obtain ⟨cs, e1, e2⟩ := o1.at_ i q u hq hu
        exact ⟨cs, e1, Own.frame (fun _ _ => rfl) (fun _ h => .inl h) e2 (fun _ _ => rfl)⟩⟩
      refine ⟨_, run_results o2, us, _, fps, rfl, hk, o1', o3, fun b hb => ?_, fun b hb => .inr hb, fun b hb => ?_⟩
      · obtain ⟨r, o, hr, hb⟩ := o4 b hb
        obtain ⟨q1, q2, q3⟩ := hi.sep r o hr b hb
        have q4 : w.heap.size ≤ b := q3.elim id (fun h => h.elim)
        exact ⟨q4, fun hh => hh.elim q1 (fun hh => absurd (himm b hh) (by omega))⟩
      · rcases hb with hb | hb
        · exact ⟨hi.imm b hb, (hi.immF b hb).symm⟩
        · exact ⟨Nat.lt_of_lt_of_le (himm b hb) hi.size, .inl hb⟩
  cases e with
  | normal => exact fin hq fun s hs => hs.2
  | ret => exact fin hq fun s hs => hs.2
  | exit id =>
    obtain ⟨s, I2, ρ, hi, hs⟩ := hq
    rcases hs.1 with h | h <;> cases h
  | panic _ => exact hq.elim
  | goto _ => exact hq.elim
  | outgrown => exact hq.elim

end
end Go.Vee
