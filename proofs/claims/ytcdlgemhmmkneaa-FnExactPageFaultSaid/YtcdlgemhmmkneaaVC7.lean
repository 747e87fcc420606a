import Derived.Test.YtcdlgemhmmkneaaVC6
set_option linter.unusedSimpArgs false
set_option linter.unusedVariables false
namespace Go.Vee
open Go

/-! ## Types, checked by computing -/
def isZ : Ty → Value → Bool
  | .int k, v => match v with | .int k' n => decide (k' = k) && decide (n = 0) | _ => false
  | .bool, v => match v with | .bool b => !b | _ => false
  | .str, v => match v with | .string s => decide (s.data = #[]) | _ => false
  | .sl _, v => match v with | .slice none 0 0 => true | _ => false
  | _, _ => false
def areZ : Ty → List Value → Option (List Value)
  | .unit, l => some l
  | .pair a b, l => match areZ a l with | some l => areZ b l | none => none
  | t, v :: l => if isZ t v then some l else none
  | _, [] => none
def zOk (t : Ty) (v : Value) : Bool :=
  if t.isAgg then match v with | .agg cs => (match areZ t cs.toList with | some [] => true | _ => false) | _ => false
  else isZ t v

theorem isZ_ok {t : Ty} {v : Value} (h : isZ t v = true) : zeroCs t = [v] ∧ t.isAgg = false := by
  cases t with
  | int k =>
    cases v <;> simp [isZ] at h
    obtain ⟨rfl, rfl⟩ := h
    exact ⟨rfl, rfl⟩
  | bool => cases v <;> simp [isZ] at h; subst h; exact ⟨rfl, rfl⟩
  | str =>
    cases v <;> simp [isZ] at h
    rename_i s
    cases s
    simp at h
    subst h
    exact ⟨rfl, rfl⟩
  | sl e =>
    simp only [isZ] at h
    split at h
    · exact ⟨rfl, rfl⟩
    · cases h
  | unit => simp [isZ] at h
  | pair a b => simp [isZ] at h

theorem areZ_ok : ∀ {t : Ty} {l l' : List Value}, areZ t l = some l' → l = zeroCs t ++ l'
  | .unit, l, l', h => by simp [areZ] at h; subst h; rfl
  | .pair a b, l, l', h => by
    simp only [areZ] at h
    split at h
    · rename_i l1 h1
      rw [areZ_ok h1, areZ_ok h, zeroCs, List.append_assoc]
    · cases h
  | .int k, [], l', h => by simp [areZ] at h
  | .int k, v :: l, l', h => by
    simp only [areZ] at h
    split at h
    · rename_i hz; cases h; rw [(isZ_ok hz).1]; rfl
    · cases h
  | .bool, [], l', h => by simp [areZ] at h
  | .bool, v :: l, l', h => by
    simp only [areZ] at h
    split at h
    · rename_i hz; cases h; rw [(isZ_ok hz).1]; rfl
    · cases h
  | .str, [], l', h => by simp [areZ] at h
  | .str, v :: l, l', h => by
    simp only [areZ] at h
    split at h
    · rename_i hz; cases h; rw [(isZ_ok hz).1]; rfl
    · cases h
  | .sl e, [], l', h => by simp [areZ] at h
  | .sl e, v :: l, l', h => by
    simp only [areZ] at h
    split at h
    · rename_i hz; cases h; rw [(isZ_ok hz).1]; rfl
    · cases h

theorem zOk_ok {t : Ty} {v : Value} (h : zOk t v = true) : v = mkV t (zeroCs t) := by
  unfold zOk at h
  split at h
  · rename_i ha
    split at h
    · rename_i cs
      split at h
      · rename_i hz
        have := areZ_ok hz
        rw [List.append_nil] at this
        simp [mkV, ha, ← this]
      · cases h
    · cases h
  · rename_i ha
    obtain ⟨h1, h2⟩ := isZ_ok h
    simp [mkV, h2, h1]

def chkB (P : Program) (tid : TypeId) (t : Ty) : Bool :=
  match P.info? tid with
  | some i => decide (i.size = t.sz) && decide (i.bytes ≤ t.bnd) && (match i.zero with | some z => zOk t z | none => false)
  | none => false

theorem chkB_ok {P : Program} {tid : TypeId} {t : Ty} (h : chkB P tid t = true) : TyB P tid t := by
  unfold chkB at h
  split at h
  · rename_i i hi
    simp only [Bool.and_eq_true, decide_eq_true_eq] at h
    obtain ⟨⟨h1, h2⟩, h3⟩ := h
    split at h3
    · rename_i z hz
      refine ⟨by simp [hi, h1, hz, zOk_ok h3], by simpa [hi] using h2⟩
    · cases h3
  · cases h

def chk (P : Program) : Ty → (TypeId → Bool) × (List Field → Nat → Bool)
  | .int k => (fun tid => chkB P tid (.int k) && (match P.underlying tid with | some (.int k') => decide (k' = k) | _ => false), fun _ _ => false)
  | .bool => (fun tid => chkB P tid .bool && (match P.underlying tid with | some .bool => true | _ => false), fun _ _ => false)
  | .str => (fun tid => chkB P tid .str && (match P.underlying tid with | some .string => true | _ => false), fun _ _ => false)
  | .sl e => (fun tid => chkB P tid (.sl e) && decide (0 < e.sz) && (match P.underlying tid with | some (.slice eid) => (chk P e).1 eid | _ => false), fun _ _ => false)
  | .unit => (fun tid => chkB P tid .unit && (match P.underlying tid with | some (.struct fs) => fs.toList.isEmpty | _ => false), fun fs _ => fs.isEmpty)
  | .pair a b =>
    let F := fun (fs : List Field) (off : Nat) => match fs with
      | f :: rest => decide (f.offset = off) && decide (0 < a.sz) && (chk P a).1 f.type && (chk P b).2 rest (off + a.sz)
      | [] => false
    (fun tid => chkB P tid (.pair a b) && (match P.underlying tid with | some (.struct fs) => F fs.toList 0 | _ => false), F)

theorem chk_ok {P : Program} : ∀ {t : Ty}, (∀ tid, (chk P t).1 tid = true → (TyF P t).1 tid) ∧ ∀ fs off, (chk P t).2 fs off = true → (TyF P t).2 fs off
  | .int k => by
    refine ⟨fun tid h => ?_, fun _ _ h => by simp [chk] at h⟩
    simp only [chk, Bool.and_eq_true] at h
    obtain ⟨h1, h2⟩ := h
    split at h2
    · rename_i k' hu
      simp only [decide_eq_true_eq] at h2
      subst h2
      exact ⟨chkB_ok h1, hu⟩
    · cases h2
  | .bool => by
    refine ⟨fun tid h => ?_, fun _ _ h => by simp [chk] at h⟩
    simp only [chk, Bool.and_eq_true] at h
    obtain ⟨h1, h2⟩ := h
    split at h2
    · rename_i hu; exact ⟨chkB_ok h1, hu⟩
    · cases h2
  | .str => by
    refine ⟨fun tid h => ?_, fun _ _ h => by simp [chk] at h⟩
    simp only [chk, Bool.and_eq_true] at h
    obtain ⟨h1, h2⟩ := h
    split at h2
    · rename_i hu; exact ⟨chkB_ok h1, hu⟩
    · cases h2
  | .sl e => by
    refine ⟨fun tid h => ?_, fun _ _ h => by simp [chk] at h⟩
    simp only [chk, Bool.and_eq_true, decide_eq_true_eq] at h
    obtain ⟨⟨h1, h3⟩, h2⟩ := h
    split at h2
    · rename_i eid hu; exact ⟨chkB_ok h1, h3, eid, hu, (chk_ok (t := e)).1 eid h2⟩
    · cases h2
  | .unit => by
    refine ⟨fun tid h => ?_, fun fs _ h => ?_⟩
    · simp only [chk, Bool.and_eq_true] at h
      obtain ⟨h1, h2⟩ := h
      split at h2
      · rename_i fs hu; exact ⟨chkB_ok h1, fs, hu, by simpa using h2⟩
      · cases h2
    · have : fs = [] := by simpa [chk] using h
      exact this
  | .pair a b => by
    have hF : ∀ fs off, (chk P (.pair a b)).2 fs off = true → (TyF P (.pair a b)).2 fs off := fun fs off h => by
      simp only [chk] at h
      split at h
      · rename_i f rest
        simp only [Bool.and_eq_true, decide_eq_true_eq] at h
        obtain ⟨⟨⟨h1, h2⟩, h3⟩, h4⟩ := h
        exact ⟨f, rest, rfl, h1, h2, (chk_ok (t := a)).1 _ h3, (chk_ok (t := b)).2 _ _ h4⟩
      · cases h
    refine ⟨fun tid h => ?_, hF⟩
    simp only [chk, Bool.and_eq_true] at h
    obtain ⟨h1, h2⟩ := h
    split at h2
    · rename_i fs hu
      exact ⟨chkB_ok h1, fs, hu, hF fs.toList 0 h2⟩
    · cases h2

def lookT {α : Type} : List (Nat × α) → Nat → Option α
  | [], _ => none
  | (k, v) :: l, n => if k = n then some v else lookT l n

theorem lookT_mem {α : Type} : ∀ {l : List (Nat × α)} {n : Nat} {v : α}, lookT l n = some v → (n, v) ∈ l
  | [], _, _, h => by simp [lookT] at h
  | (k, u) :: l, n, v, h => by
    simp only [lookT] at h
    split at h
    · rename_i e; cases h; subst e; simp
    · exact List.mem_cons_of_mem _ (lookT_mem h)

/-- A type table. -/
def Env.of (tys pts : List (Nat × Ty)) : Env := ⟨lookT tys, lookT pts⟩

theorem EnvOk.of {P : Program} {tys pts : List (Nat × Ty)} (h : (tys.all fun p => (chk P p.2).1 p.1) = true) : EnvOk P (Env.of tys pts) :=
  ⟨fun tid t ht => chk_ok.1 tid (List.all_eq_true.1 h _ (lookT_mem ht))⟩

/-! ## Contracts in hand -/
structure Con where
  en : Bool
  g : List AV → Option Ret

def Gam.of (l : List (Nat × Con)) : Gam := ⟨fun f al => match lookT l f with | some c => c.g al | none => none, fun f => match lookT l f with | some c => c.en | none => false, false⟩

structure ConOk (P : Program) (f : Nat) (c : Con) : Prop where
  ct : ∀ al r, c.g al = some r → Ct P f al r
  en : c.en = true → Enters P f

theorem GOk.of {P : Program} {l : List (Nat × Con)} (h : ∀ p ∈ l, ConOk P p.1 p.2) : GOk P (Gam.of l) ∧ EnOk P (Gam.of l) := by
  refine ⟨fun f al r hg => ?_, fun f hf => ?_⟩
  · simp only [Gam.of] at hg
    split at hg
    · rename_i c hc; exact (h _ (lookT_mem hc)).ct al r hg
    · cases hg
  · simp only [Gam.of] at hf
    split at hf
    · rename_i c hc; exact (h _ (lookT_mem hc)).en hf
    · cases hf

def AllOk (P : Program) (l : List (Nat × Con)) : Prop := ∀ p ∈ l, ConOk P p.1 p.2
theorem AllOk.nil {P : Program} : AllOk P [] := fun p hp => by simp at hp
theorem AllOk.cons {P : Program} {f : Nat} {c : Con} {l : List (Nat × Con)} (h : ConOk P f c) (k : AllOk P l) : AllOk P ((f, c) :: l) := fun p hp => by
  rcases List.mem_cons.1 hp with rfl | hp
  · exact h
  · exact k p hp

/-- A function has a body and is no function of the run time's. -/
def entersB (P : Program) (f : Nat) : Bool :=
  match P.funcs[f]? with
  | some fn => fn.body.isSome && !(fn.name == "runtime.NumGoroutine")
  | none => false

theorem Enters.of {P : Program} {f : Nat} (h : entersB P f = true) : Enters P f := by
  intro args w
  unfold entersB at h
  split at h
  · rename_i fn hf
    simp only [Bool.and_eq_true, Bool.not_eq_true'] at h
    obtain ⟨h1, h2⟩ := h
    obtain ⟨c, hc⟩ := Option.isSome_iff_exists.1 h1
    have h4 : ¬ fn.name = "runtime.NumGoroutine" := by simpa using h2
    simp only [callFunc, Sem.run_bind]
    simp [hf, h4, hc]
  · cases h

/-! ## Data arguments -/
def asT (t : Ty) : AV → Option t.den
  | .dat t' x => castD t' t x
  | _ => none
def asP (t : Ty) : AV → Option t.den
  | .dptr t' x => castD t' t x
  | _ => none
theorem asT_some {t : Ty} {v : AV} {x : t.den} (h : asT t v = some x) : v = .dat t x := by
  cases v <;> simp [asT] at h
  obtain ⟨e1, e2⟩ := castD_some h
  subst e1
  subst e2
  rfl
theorem asP_some {t : Ty} {v : AV} {x : t.den} (h : asP t v = some x) : v = .dptr t x := by
  cases v <;> simp [asP] at h
  obtain ⟨e1, e2⟩ := castD_some h
  subst e1
  subst e2
  rfl
def g1 (t : Ty) (F : t.den → Ret) : List AV → Option Ret
  | [v] => match asT t v with | some x => some (F x) | none => none
  | _ => none
def g2 (t u : Ty) (F : t.den → u.den → Ret) : List AV → Option Ret
  | [v, w] => match asT t v with | some x => (match asT u w with | some y => some (F x y) | none => none) | none => none
  | _ => none
def g3 (t u z : Ty) (F : t.den → u.den → z.den → Ret) : List AV → Option Ret
  | [v, w, q] => match asT t v with | some x => (match asT u w with | some y => (match asT z q with | some k => some (F x y k) | none => none) | none => none) | none => none
  | _ => none
theorem ConOk.g1 {P : Program} {f : Nat} {t : Ty} {F : t.den → Ret} (he : Enters P f) (h : ∀ x, Ct P f [.dat t x] (F x)) : ConOk P f ⟨true, Vee.g1 t F⟩ := by
  refine ⟨fun al r hr => ?_, fun _ => he⟩
  simp only [Vee.g1] at hr
  split at hr
  · split at hr
    · rename_i v x hx; cases hr; rw [asT_some hx]; exact h x
    · cases hr
  · cases hr
theorem ConOk.g2 {P : Program} {f : Nat} {t u : Ty} {F : t.den → u.den → Ret} (he : Enters P f) (h : ∀ x y, Ct P f [.dat t x, .dat u y] (F x y)) : ConOk P f ⟨true, Vee.g2 t u F⟩ := by
  refine ⟨fun al r hr => ?_, fun _ => he⟩
  simp only [Vee.g2] at hr
  split at hr
  · split at hr
    · rename_i x hx
      split at hr
      · rename_i y hy; cases hr; rw [asT_some hx, asT_some hy]; exact h x y
      · cases hr
    · cases hr
  · cases hr
theorem ConOk.g3 {P : Program} {f : Nat} {t u z : Ty} {F : t.den → u.den → z.den → Ret} (he : Enters P f) (h : ∀ x y k, Ct P f [.dat t x, .dat u y, .dat z k] (F x y k)) : ConOk P f ⟨true, Vee.g3 t u z F⟩ := by
  refine ⟨fun al r hr => ?_, fun _ => he⟩
  simp only [Vee.g3] at hr
  split at hr
  · split at hr
    · rename_i x hx
      split at hr
      · rename_i y hy
        split at hr
        · rename_i k hk; cases hr; rw [asT_some hx, asT_some hy, asT_some hk]; exact h x y k
        · cases hr
      · cases hr
    · cases hr
  · cases hr

/-! ## What a run is to end in -/
/-- How claims are put together: a variable while a body is computed. -/
structure Lg where
  br : Bool → Prop → Prop → Prop
  an : Prop → Prop → Prop
  lp : (St → Tr) → St → (Ex → St → Prop) → Prop
  nx : (Nat → St → Prop) → Nat → St → Prop

def Lg.std : Lg where
  br b y n := (b = true → y) ∧ (b = false → n)
  an p q := p ∧ q
  lp b s q := ∃ (I : Nat → St → Prop), (∃ n, I n s) ∧ ∀ n s, I n s → sat (b s) fun e s' => match e with
    | .nrm => ∃ m, m < n ∧ I m s'
    | e => q e s'
  nx I n s := ∃ m, m < n ∧ I m s

def satL (L : Lg) : Tr → (Ex → St → Prop) → Prop
  | .fin e s, Q => Q e s
  | .need p k, Q => L.an p (satL L k Q)
  | .br b y n, Q => L.br b (satL L y Q) (satL L n Q)
  | .lp b s k, Q => L.lp b s fun e s => satL L (k e s) Q
  | .both x y, Q => L.an (satL L x Q) (satL L y Q)
  | .bad, _ => False

theorem satL_std {t : Tr} {Q : Ex → St → Prop} : satL Lg.std t Q = sat t Q := by
  induction t generalizing Q with
  | fin e s => rfl
  | need p k ih => simp only [satL, sat, Lg.std, ← ih]
  | br b y n ih1 ih2 => simp only [satL, sat, Lg.std, ← ih1, ← ih2]
  | lp b s k ih1 ih2 =>
    have e : (fun e s => satL Lg.std (k e s) Q) = fun e s => sat (k e s) Q := by funext e s; exact ih2 e s
    change Lg.std.lp b s (fun e s => satL Lg.std (k e s) Q) = _
    rw [e]
    simp only [Lg.std, sat]
    congr 1
  | both x y ih1 ih2 => simp only [satL, sat, Lg.std, ← ih1, ← ih2]
  | bad => rfl

def andL (L : Lg) : List Prop → Prop
  | [] => True
  | [p] => p
  | p :: ps => L.an p (andL L ps)
theorem andL_all : ∀ {ps : List Prop}, andL Lg.std ps → ∀ p ∈ ps, p
  | [], _ => by simp
  | [p], h => fun x hx => by rw [List.mem_singleton.1 hx]; exact h
  | p :: q :: ps, h => by
    intro x hx
    rcases List.mem_cons.1 hx with rfl | hx
    · exact h.1
    · exact andL_all (ps := q :: ps) h.2 x hx

/-- One value that is handed back, and what is asked first. -/
def ret1 (t : Ty) (m : Md) (x : t.den) (pre : List Prop := []) : Ret := ⟨pre, [⟨t, m, x⟩]⟩

def endQ (L : Lg) (A : Alg) (τ : Env) (rvs : List ResultVar) (r : Ret) : Ex → St → Prop := fun e s =>
  match e with
  | .exit _ => False
  | _ => match exitT A τ s rvs r.outs with
    | some ps => andL L ps
    | none => False

def startS (fn : Func) (al : List AV) : St := ⟨al ++ List.replicate (fn.ntmps - al.length) .junk, []⟩
def bodyOf (fn : Func) : Code := match fn.body with | some c => c | none => .skip

/-- The whole of a function's claim, for computing. -/
def claim (L : Lg) (A : Alg) (τ : Env) (G : Gam) (O : Nat → Bool) (fn : Func) (al : List AV) (r : Ret) : Prop :=
  satL L (run A τ G O (bodyOf fn) (startS fn al)) (endQ L A τ fn.results.toList r)

theorem ct_claim {P : Program} {f : Nat} {fn : Func} {τ : Env} {G : Gam} {O : Nat → Bool} (hE : EnvOk P τ) (hG : GOk P G ∧ EnOk P G) (hm : P.follows .mixedOrders = true) (hen : Enters P f) (hf : P.funcs[f]? = some fn) (hb : fn.body.isSome = true)
    {al : List AV} {r : Ret} (h : (∀ p ∈ r.pre, p) → wfL al → claim Lg.std Alg.std τ G O fn al r) : Ct P f al r := by
  obtain ⟨c, hc⟩ := Option.isSome_iff_exists.1 hb
  refine ct_of_run τ G O hE hG.1 hG.2 hm hen hf hc fun hp hw => ?_
  have h1 := h hp hw
  unfold claim bodyOf startS at h1
  rw [hc, satL_std] at h1
  refine sat_mono (fun e s hq => ?_) h1
  unfold endQ at hq
  cases e with
  | exit id => exact hq.elim
  | nrm =>
    simp only at hq
    split at hq
    · rename_i ps hps; exact ⟨.inl rfl, ps, hps, andL_all hq⟩
    · exact hq.elim
  | ret =>
    simp only at hq
    split at hq
    · rename_i ps hps; exact ⟨.inr rfl, ps, hps, andL_all hq⟩
    · exact hq.elim

/-- A round of a loop, for computing. -/
def round (L : Lg) (b : St → Tr) (s : St) (I : Nat → St → Prop) (n : Nat) (q : Ex → St → Prop) : Prop :=
  satL L (b s) fun e s' => match e with
    | .nrm => L.nx I n s'
    | e => q e s'

theorem lp_intro {b : St → Tr} {s : St} {q : Ex → St → Prop} (I : Nat → St → Prop) (n : Nat) (h0 : I n s) (h : ∀ n s, I n s → round Lg.std b s I n q) : Lg.std.lp b s q := by
  refine ⟨I, ⟨n, h0⟩, fun n s hI => ?_⟩
  have := h n s hI
  unfold round at this
  rw [satL_std] at this
  exact this

end Go.Vee
