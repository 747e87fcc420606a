import Derived.Test.YtcdlgemhmmkneaaVC4
import Derived.Deep.LoopGhost
set_option linter.unusedSimpArgs false
set_option linter.unusedVariables false
namespace Go.Vee
open Go

theorem sat_mono {Q Q' : Ex → St → Prop} {t : Tr} (h : ∀ e s, Q e s → Q' e s) : sat t Q → sat t Q' := by
  induction t generalizing Q Q' with
  | fin e s => exact h e s
  | need p k ih => exact fun ⟨a, b⟩ => ⟨a, ih h b⟩
  | br b y n ih1 ih2 => exact fun ⟨a, b⟩ => ⟨fun e => ih1 h (a e), fun e => ih2 h (b e)⟩
  | lp b s k ih1 ih2 =>
    rintro ⟨I, h0, h1⟩
    refine ⟨I, h0, fun n s hI => ih1 _ (fun e s' => ?_) (h1 n s hI)⟩
    cases e with
    | nrm => exact id
    | exit j => exact ih2 _ _ h
    | ret => exact ih2 _ _ h
  | both x y ih1 ih2 => exact fun ⟨a, b⟩ => ⟨ih1 h a, ih2 h b⟩
  | bad => exact id

theorem sat_bind {t : Tr} {f : Ex → St → Tr} {Q : Ex → St → Prop} : sat (t.bind f) Q ↔ sat t (fun e s => sat (f e s) Q) := by
  induction t generalizing f Q with
  | fin e s => exact Iff.rfl
  | need p k ih => simp only [Tr.bind, sat, ih]
  | br b y n ih1 ih2 => simp only [Tr.bind, sat, ih1, ih2]
  | lp b s k ih1 ih2 =>
    simp only [Tr.bind, sat]
    constructor
    · rintro ⟨I, h0, h1⟩
      refine ⟨I, h0, fun n s hI => ?_⟩
      refine (sat_mono ?_ (h1 n s hI))
      intro e s'
      cases e with
      | nrm => exact id
      | exit j => exact (ih2 _ _).1
      | ret => exact (ih2 _ _).1
    · rintro ⟨I, h0, h1⟩
      refine ⟨I, h0, fun n s hI => ?_⟩
      refine (sat_mono ?_ (h1 n s hI))
      intro e s'
      cases e with
      | nrm => exact id
      | exit j => exact (ih2 _ _).2
      | ret => exact (ih2 _ _).2
  | both x y ih1 ih2 => simp only [Tr.bind, sat, ih1, ih2]
  | bad => exact Iff.rfl

theorem wpQuiet_mono {P : Program} {ops : Array Oper} {C : World → Prop} {Q Q' : Act → Prop} (h : ∀ a, Q a → Q' a) : ∀ (l : List Oper) (a : Act), wpQuiet P ops C Q l a → wpQuiet P ops C Q' l a
  | [], a, hh => h a hh
  | o :: l, a, hh => by
    unfold wpQuiet at hh ⊢
    split
    · rename_i hw
      rw [if_pos hw] at hh
      exact Oper.quiet_mono (fun a => wpQuiet_mono h l a) hh
    · rename_i hw
      rw [if_neg hw] at hh
      exact wpQuiet_mono h l _ hh

section
variable {P : Program} {w0 w : World} {F0 : Bnd} {s : St} {a : Act} {I J : Nat → Prop} {ρ : Nat → RC} {H : Heap} {o : Oper} {K : St → Prop} {Q : Exit → Act → World → Prop} {C : World → Prop}

/-- A slot's Bool, known from here on. -/
theorem Inv.known (h : Inv w0 F0 s a w I ρ) {t : Nat} {b : Bool} (hu : a.tmps[t]? = some (.bool b)) : Inv w0 F0 (s.put (some t) (.lb b)) a w I ρ := by
  refine { h with len := by simp [St.put, h.len], slots := fun i v hv => ?_, roots := h.roots, nodup := h.nodup, disj := h.disj, sep := h.sep, keep := h.keep }
  simp only [St.put, List.getElem?_set] at hv
  split at hv
  · rename_i e
    subst e
    split at hv
    · cases hv; exact ⟨_, hu, .lb b⟩
    · cases hv
  · exact h.slots i v hv

theorem Inv.slot (h : Inv w0 F0 s a w I ρ) (t : Nat) : s.fr.getD t .junk = .junk ∨ ∃ u, a.tmps[t]? = some u ∧ VR w I ρ s.H (s.fr.getD t .junk) u := by
  by_cases ht : t < s.fr.length
  · right
    obtain ⟨u, h1, h2⟩ := h.slots t s.fr[t] (by simp [ht])
    exact ⟨u, h1, by simpa [List.getD_eq_getElem?_getD, ht] using h2⟩
  · left
    simp [List.getD_eq_getElem?_getD, List.getElem?_eq_none (Nat.le_of_not_lt ht)]

/-- One operation with its guard: what 'step' says of operations, said of it. -/
theorem oneOp_ok {ops : Array Oper} {k : St → Tr} {S : Ex → St → Prop} (τ : Env) (G : Gam) {D : Prop} (h : Inv w0 F0 s a w I ρ) (hs : sat (oneOp Alg.std τ G ops.toList o s k) S)
    (hyes : ∀ s', Inv w0 F0 s' a w I ρ → Region.wanted o (yielded ops a.tmps) = true → sat (stepOp Alg.std τ G o s') (fun _ s => sat (k s) S) → D)
    (hno : Region.wanted o (yielded ops a.tmps) = false → Post w0 F0 (fun s => sat (k s) S) (a.put o.dst undef) w → D) : D := by
  unfold oneOp at hs
  cases hg : o.guard with
  | none =>
    rw [hg] at hs
    simp only [sat_bind] at hs
    exact hyes s h (by simp [Region.wanted, hg]) hs
  | some g =>
    obtain ⟨j, want⟩ := g
    rw [hg] at hs
    simp only at hs
    cases ht : (ops.toList[j]?).bind (·.dst) with
    | none => rw [ht] at hs; exact hs.elim
    | some t =>
      rw [ht] at hs
      simp only at hs
      have hj : (ops[j]?).bind (·.dst) = some t := by simpa using ht
      have hw : ∀ b, a.tmps[t]? = some (.bool b) → Region.wanted o (yielded ops a.tmps) = (b == want) := fun b hb => by
        simp only [Region.wanted, hg, yielded, hj, Option.bind_some, hb]
        cases b <;> cases want <;> rfl
      rcases h.slot t with hjunk | ⟨u, hu, hv⟩
      · rw [hjunk] at hs; exact hs.elim
      · split at hs
        · rename_i b hb
          rw [hb] at hv
          have := lb_dat hv
          subst this
          split at hs
          · rename_i e
            rw [sat_bind] at hs
            exact hyes s h (by rw [hw b hu]; simp [e]) hs
          · rename_i e
            exact hno (by rw [hw b hu]; simp [e]) ⟨_, I, ρ, h.put (.junk _) o.dst, hs⟩
        · rename_i b hb
          rw [hb] at hv
          have := hv.bool_inv
          subst this
          have two : (b = want → sat ((stepOp Alg.std τ G o (s.put (some t) (.lb want))).bind fun _ s => k s) S) ∧ (b ≠ want → sat (k ((s.put (some t) (.lb (!want))).put o.dst .junk)) S) := by
            cases want with
            | true =>
              simp only [if_true, sat] at hs
              exact ⟨fun e => hs.1 e, fun e => hs.2 (by simpa using e)⟩
            | false =>
              simp only [Bool.false_eq_true, if_false, sat] at hs
              exact ⟨fun e => hs.2 e, fun e => hs.1 (by simpa using e)⟩
          by_cases e : b = want
          · have h1 := two.1 e
            rw [sat_bind] at h1
            subst e
            exact hyes _ (h.known hu) (by rw [hw b hu]; simp) h1
          · have e2 : b = !want := by cases b <;> cases want <;> simp_all
            have h1 := two.2 e
            refine hno (by rw [hw b hu]; simp [e]) ⟨_, I, ρ, Inv.put (s := s.put (some t) (.lb (!want))) (h.known (by rw [← e2]; exact hu)) (.junk _) o.dst, h1⟩
        · exact hs.elim

/-- Where a code ends. -/
def QQ (w0 : World) (F0 : Bnd) (S : Ex → St → Prop) : Exit → Act → World → Prop
  | .normal, a, w => Post w0 F0 (S .nrm) a w
  | .exit id, a, w => Post w0 F0 (S (.exit id)) a w
  | .ret, a, w => Post w0 F0 (S .ret) a w
  | _, _, _ => False

theorem runOps_ok {ops : Array Oper} {S : Ex → St → Prop} (τ : Env) (G : Gam) (hE : EnvOk P τ) (hG : GOk P G) : ∀ (os : List Oper) {s : St} {a : Act} {w : World} {I : Nat → Prop} {ρ : Nat → RC}, Inv w0 F0 s a w I ρ → sat (runOps Alg.std τ G ops.toList os s) S → wpList P ops (QQ w0 F0 S) os a w
  | [], s, a, w, I, ρ, h, hs => ⟨s, I, ρ, h, hs⟩
  | o :: os, s, a, w, I, ρ, h, hs => by
    simp only [runOps] at hs
    unfold wpList
    refine oneOp_ok τ G h hs (fun s' h' hw hs' => ?_) (fun hw hp => ?_)
    · rw [if_pos hw]
      left
      refine Oper.wp_mono (fun a w hp => ?_) (step_ok (Q := QQ w0 F0 S) τ G hE hG h' hs')
      obtain ⟨s2, I2, ρ2, h2, k2⟩ := hp
      exact runOps_ok τ G hE hG os h2 k2
    · rw [hw]
      simp only [Bool.false_eq_true, if_false]
      obtain ⟨s2, I2, ρ2, h2, k2⟩ := hp
      exact runOps_ok τ G hE hG os h2 k2

theorem runQ_ok {ops : Array Oper} {S : Ex → St → Prop} (τ : Env) (G : Gam) (hE : EnvOk P τ) (hG : GOk P G) (hEn : EnOk P G) (hq : G.q = true) : ∀ (os : List Oper) {s : St} {a : Act} {I : Nat → Prop} {ρ : Nat → RC}, (∀ o ∈ os, quietK o = true) → Inv w0 F0 s a w I ρ → sat (runOps Alg.std τ G ops.toList os s) S →
      wpQuiet P ops (Keeps (fun _ => False) w) (fun a' => Post w0 F0 (S .nrm) a' w) os a
  | [], s, a, I, ρ, hk, h, hs => ⟨s, I, ρ, h, hs⟩
  | o :: os, s, a, I, ρ, hk, h, hs => by
    simp only [runOps] at hs
    unfold wpQuiet
    refine oneOp_ok τ G h hs (fun s' h' hw hs' => ?_) (fun hw hp => ?_)
    · rw [if_pos hw]
      refine Oper.quiet_mono (fun a hp => ?_) (quiet_ok τ G hE hG hEn hq (hk o (by simp)) h' hs')
      obtain ⟨s2, I2, ρ2, h2, k2⟩ := hp
      exact runQ_ok τ G hE hG hEn hq os (fun o ho => hk o (by simp [ho])) h2 k2
    · rw [hw]
      simp only [Bool.false_eq_true, if_false]
      obtain ⟨s2, I2, ρ2, h2, k2⟩ := hp
      exact runQ_ok τ G hE hG hEn hq os (fun o ho => hk o (by simp [ho])) h2 k2

theorem Post.world {a : Act} {w w' : World} (h : Post w0 F0 K a w) (hk : Keeps (fun _ => False) w w') : Post w0 F0 K a w' := by
  obtain ⟨s, I, ρ, h, k⟩ := h
  exact ⟨s, I, ρ, h.world hk (fun _ _ h => h) (fun _ _ _ _ _ h => h) (fun _ h => h.elim), k⟩

theorem sat_allT {ts : List Tr} {S : Ex → St → Prop} (h : sat (allT ts) S) : ∀ t ∈ ts, sat t S := by
  induction ts with
  | nil => simp
  | cons t ts ih =>
    cases ts with
    | nil => intro x hx; simp at hx; subst hx; exact h
    | cons t2 ts =>
      intro x hx
      rcases List.mem_cons.1 hx with rfl | hx
      · exact h.1
      · exact ih h.2 x hx

theorem runAny_ok {ops : Array Oper} {S : Ex → St → Prop} (τ : Env) (G : Gam) (hE : EnvOk P τ) (hG : GOk P G) (hsel : Region.noSelect ops = true) : ∀ (n : Nat) {l : List Bool} {s : St} {a : Act} {w : World} {I : Nat → Prop} {ρ : Nat → RC}, Inv w0 F0 s a w I ρ → sat (runAny Alg.std τ G ops n l s) S →
      wpAny P .any ops (QQ w0 F0 S) n l.toArray a w
  | 0, l, s, a, w, I, ρ, h, hs => by
    simp only [runAny] at hs
    split at hs
    · rename_i hr; exact ⟨hr, s, I, ρ, h, hs⟩
    · exact hs.elim
  | n + 1, l, s, a, w, I, ρ, h, hs => by
    simp only [runAny] at hs
    split at hs
    · rename_i hr
      exact ⟨fun _ => ⟨s, I, ρ, h, hs⟩, fun i hi => by rw [hr] at hi; simp at hi⟩
    · rename_i r hr
      have hset : ∀ i, (l.set i true).toArray = l.toArray.setIfInBounds i true := fun i => by simp
      have one : ∀ i o, ops[i]? = some o → sat (oneOp Alg.std τ G ops.toList o s fun s => runAny Alg.std τ G ops n (l.set i true) s) S →
          wpOp P ops (QQ w0 F0 S) i (wpAny P .any ops (QQ w0 F0 S) n (l.toArray.setIfInBounds i true)) a w := fun i o ho hs => by
        unfold wpOp
        simp only [ho]
        refine oneOp_ok τ G h hs (fun s' h' hw hs' => ?_) (fun hw hp => ?_)
        · rw [if_pos hw]
          left
          refine Oper.wp_mono (fun a w hp => ?_) (step_ok (Q := QQ w0 F0 S) τ G hE hG h' hs')
          obtain ⟨s2, I2, ρ2, h2, k2⟩ := hp
          have := runAny_ok τ G hE hG hsel n h2 k2
          rwa [hset] at this
        · rw [hw]
          simp only [Bool.false_eq_true, if_false]
          obtain ⟨s2, I2, ρ2, h2, k2⟩ := hp
          have := runAny_ok τ G hE hG hsel n h2 k2
          rwa [hset] at this
      split at hs
      · rename_i i hfind
        have hp := List.find?_some hfind
        have hmem := List.mem_of_find?_eq_some hfind
        simp only [Bool.and_eq_true] at hp
        obtain ⟨hp, hfree⟩ := hp
        split at hs
        · rename_i o ho
          rw [ho] at hp
          simp only [Bool.and_eq_true, Option.isNone_iff_eq_none] at hp
          obtain ⟨hpure, hgd⟩ := hp
          unfold oneOp at hs
          rw [hgd] at hs
          simp only [sat_bind] at hs
          obtain ⟨u, hu, s2, I2, ρ2, h2, k2⟩ := pure_ok (C := fun _ => True) τ G hE hpure h hs
          have hrest := runAny_ok τ G hE hG hsel n h2 k2
          rw [hset] at hrest
          exact wpAny_first ho (Region.noSelect_spec hsel) (fun _ _ _ h => h) n _ a w (Region.free_spec ho hfree) hmem (.inl ⟨by simp [Region.wanted, hgd], fun w => hu w trivial⟩) hrest
        · exact hs.elim
      · refine ⟨fun h0 => absurd h0 (by assumption), fun i hi => ?_⟩
        have := sat_allT hs _ (List.mem_map.2 ⟨i, hi, rfl⟩)
        split at this
        · rename_i o ho
          exact one i o ho this
        · exact this.elim

theorem wpList_region {id : Nat} {ops : Array Oper} {Q : Exit → Act → World → Prop} {a : Act} {w : World} (h : wpList P ops Q ops.toList a w) : (Code.region id ops false).wp P Q a w := by
  refine wp_region ?_
  have := wpOps_eq_wpList (P := P) (ops := ops) (Q := Q) ops.toList 0 (by simp)
  rw [List.range_eq_range']
  have e : ops.toList.length = ops.size := Array.length_toList
  rw [← e, this]
  exact h

theorem run_ok (τ : Env) (G : Gam) (O : Nat → Bool) (hE : EnvOk P τ) (hG : GOk P G) (hEn : EnOk P G) (hm : P.follows .mixedOrders = true) : ∀ (c : Code) {S : Ex → St → Prop} {s : St} {a : Act} {w : World} {I : Nat → Prop} {ρ : Nat → RC}, Inv w0 F0 s a w I ρ → sat (run Alg.std τ G O c s) S → c.wp P (QQ w0 F0 S) a w
  | .skip, S, s, a, w, I, ρ, h, hs => Go.wp_skip ⟨s, I, ρ, h, hs⟩
  | .region id ops false, S, s, a, w, I, ρ, h, hs => wpList_region (runOps_ok τ G hE hG ops.toList h hs)
  | .region id ops true, S, s, a, w, I, ρ, h, hs => by
    simp only [run] at hs
    have hd : Keeps (fun _ => False) w { w with drawn := w.drawn + 1 } := ⟨rfl, rfl, rfl, Nat.le_refl _, fun _ _ _ => rfl⟩
    have h' := h.world hd (fun _ _ h => h) (fun _ _ _ _ _ h => h) (fun _ h => h.elim)
    split at hs
    · split at hs
      · rename_i hb
        simp only [Bool.and_eq_true] at hb
        refine wp_region_quiet (C := Keeps (fun _ => False) { w with drawn := w.drawn + 1 }) hm hb.1 (Keeps.refl _ _) ?_
        have := runQ_ok (S := S) τ { G with q := true } hE hG hEn rfl ops.toList (fun o ho => List.all_eq_true.1 hb.2 o ho) h' hs
        exact wpQuiet_mono (Q' := fun a' => ∀ w', Keeps (fun _ => False) { w with drawn := w.drawn + 1 } w' → QQ w0 F0 S .normal a' w') (fun a' hp w' hw' => Post.world hp hw') _ _ this
      · exact hs.elim
    · split at hs
      · rename_i hsel
        refine wp_region_any hm ?_
        have := runAny_ok (S := S) τ G hE hG hsel ops.size h' hs
        simpa using this
      · exact hs.elim
  | .seq x y, S, s, a, w, I, ρ, h, hs => by
    simp only [run, sat_bind] at hs
    refine wp_seq (wp_mono (run_ok τ G O hE hG hEn hm x h hs) fun e a w hq => ?_)
    cases e with
    | normal => obtain ⟨s2, I2, ρ2, h2, k2⟩ := hq; exact run_ok τ G O hE hG hEn hm y h2 k2
    | exit id => exact hq
    | ret => exact hq
    | panic _ => exact hq.elim
    | goto _ => exact hq.elim
    | outgrown => exact hq.elim
  | .cond c x y, S, s, a, w, I, ρ, h, hs => by
    have hc := h.ev c
    simp only [run] at hs
    split at hs
    · rename_i e
      rw [e] at hc
      exact wp_cond_true (lb_dat hc) (run_ok τ G O hE hG hEn hm x h hs)
    · rename_i e
      rw [e] at hc
      exact wp_cond_false (lb_dat hc) (run_ok τ G O hE hG hEn hm y h hs)
    · rename_i b e
      rw [e] at hc
      exact wp_cond_split hc.bool_inv (fun hb => run_ok τ G O hE hG hEn hm x h (hs.1 hb)) (fun hb => run_ok τ G O hE hG hEn hm y h (hs.2 hb))
    · exact hs.elim
  | .block id c, S, s, a, w, I, ρ, h, hs => by
    simp only [run, sat_bind] at hs
    refine wp_block (wp_mono (run_ok τ G O hE hG hEn hm c h hs) fun e a w hq => ?_)
    cases e with
    | normal => exact hq
    | exit j =>
      obtain ⟨s2, I2, ρ2, h2, k2⟩ := hq
      simp only at k2
      unfold Exit.inBlock
      split at k2
      · rename_i e
        subst e
        simp only [if_true]
        exact ⟨s2, I2, ρ2, h2, k2⟩
      · rename_i e
        simp only [e, if_false]
        exact ⟨s2, I2, ρ2, h2, k2⟩
    | ret => exact hq
    | panic _ => exact hq.elim
    | goto _ => exact hq.elim
    | outgrown => exact hq.elim
  | .loop c, S, s, a, w, I, ρ, h, hs => by
    simp only [run, sat] at hs
    obtain ⟨In, ⟨n0, h0⟩, hround⟩ := hs
    refine wp_loop_ghost (fun n a w => Post w0 F0 (In n) a w) n0 ⟨s, I, ρ, h, h0⟩ fun n a w hp => ?_
    obtain ⟨s2, I2, ρ2, h2, k2⟩ := hp
    refine wp_mono (run_ok τ G O hE hG hEn hm c h2 (hround n s2 k2)) fun e a w hq => ?_
    cases e with
    | normal =>
      obtain ⟨s3, I3, ρ3, h3, m, hmn, k3⟩ := hq
      exact ⟨m, hmn, s3, I3, ρ3, h3, k3⟩
    | exit id => exact hq
    | ret => exact hq
    | panic _ => exact hq.elim
    | goto _ => exact hq.elim
    | outgrown => exact hq.elim
  | .exit id, S, s, a, w, I, ρ, h, hs => wp_exit ⟨s, I, ρ, h, hs⟩
  | .ret, S, s, a, w, I, ρ, h, hs => wp_ret ⟨s, I, ρ, h, hs⟩
  | .rangeFunc .., S, s, a, w, I, ρ, h, hs => by simp only [run] at hs; exact hs.elim
  | .scope _, S, s, a, w, I, ρ, h, hs => by simp only [run] at hs; exact hs.elim
  | .label _, S, s, a, w, I, ρ, h, hs => by simp only [run] at hs; exact hs.elim
  | .goto _, S, s, a, w, I, ρ, h, hs => by simp only [run] at hs; exact hs.elim
  | .refuse _, S, s, a, w, I, ρ, h, hs => by simp only [run] at hs; exact hs.elim

end
end Go.Vee
