/-
  Contracts of functions of the program: what each returns for all arguments that its precondition lets in.
-/
import Derived.Test.YtcdlgemhmmkneaaVK2
set_option linter.unusedSimpArgs false
set_option linter.unusedVariables false
set_option maxRecDepth 100000
set_option maxHeartbeats 4000000
set_option synthInstance.maxHeartbeats 400000
set_option synthInstance.maxSize 2000
namespace Go.Vee
open Go
def F_b_Equal (a : List (Int)) (b : List (Int)) : Bool := decide (a = b)
def Q_b_Equal (a : List (Int)) (b : List (Int)) : Prop := True
def O_b_Equal : Opt := ⟨fun i => false, fun i => [], fun i => .done, fun i => none⟩
def τ_b_Equal : Env := Env.of [(4, .bool), (9, .str), (22, (.sl (.int .u8)))] []

theorem ct_b_Equal (a : List (Int)) (b : List (Int)) : Ct pg 80 [.dat (.sl (.int .u8)) a, .dat (.sl (.int .u8)) b] ⟨[Q_b_Equal a b], [⟨.bool, .sh, F_b_Equal a b⟩], []⟩ := by
  refine ct_claim (O := O_b_Equal) (τ := τ_b_Equal) (EnvOk.of (by kernel_rfl)) (GOk.of (.nil : AllOk pg [])) mixed (Enters.of (by kernel_rfl)) (fn := Go.Proofs.Try.f80) (by kernel_rfl) rfl (by kernel_rfl) ?_
  intro hp hw
  have hq : Q_b_Equal a b := hp _ (List.mem_singleton.2 rfl)
  clear hp
  change claim Lg.std Alg.std τ_b_Equal (Gam.of []) O_b_Equal Go.Proofs.Try.f80 [.dat (.sl (.int .u8)) a, .dat (.sl (.int .u8)) b] ⟨[Q_b_Equal a b], [⟨.bool, .sh, F_b_Equal a b⟩], []⟩
  generalize hR0 : F_b_Equal a b = R0
  generalize Q_b_Equal a b = Q0
  generalize hL : Lg.std = L
  generalize hA : Alg.std = A
  cbv
  subst hL hA
  try dsimp only [Ty.den]
  subst hR0
  simp only [Q_b_Equal] at hq
  simp only [Lg.std, Alg.std, List.drop_zero, List.take_length, F_b_Equal]
  all_goals grind
def con_b_Equal : Con := ⟨true, g2 (pD (.sl (.int .u8))) (pD (.sl (.int .u8))) fun a b => ⟨[Q_b_Equal a b], [⟨.bool, .sh, F_b_Equal a b⟩], []⟩, []⟩
theorem ok_b_Equal : ConOk pg 80 con_b_Equal := ConOk.g2 (Enters.of (by kernel_rfl)) ct_b_Equal

def F_i_SameRows_1 (a : (List (Int)) × (Int) × Unit) (b : (List (Int)) × (Int) × Unit) : Bool := decide (a = b)
def Q_i_SameRows_1 (a : (List (Int)) × (Int) × Unit) (b : (List (Int)) × (Int) × Unit) : Prop := True
def O_i_SameRows_1 : Opt := ⟨fun i => false, fun i => [], fun i => .done, fun i => none⟩
def τ_i_SameRows_1 : Env := Env.of [(2, (.int .i64)), (4, .bool), (22, (.sl (.int .u8))), (111, (.pair (.sl (.int .u8)) (.pair (.int .i64) .unit)))] []

theorem ct_i_SameRows_1 (a : (List (Int)) × (Int) × Unit) (b : (List (Int)) × (Int) × Unit) : Ct pg 79 [.dat (.pair (.sl (.int .u8)) (.pair (.int .i64) .unit)) a, .dat (.pair (.sl (.int .u8)) (.pair (.int .i64) .unit)) b] ⟨[Q_i_SameRows_1 a b], [⟨.bool, .sh, F_i_SameRows_1 a b⟩], []⟩ := by
  refine ct_claim (O := O_i_SameRows_1) (τ := τ_i_SameRows_1) (EnvOk.of (by kernel_rfl)) (GOk.of (.cons ok_b_Equal .nil : AllOk pg [(80, con_b_Equal)])) mixed (Enters.of (by kernel_rfl)) (fn := Go.Proofs.Try.f79) (by kernel_rfl) rfl (by kernel_rfl) ?_
  intro hp hw
  have hq : Q_i_SameRows_1 a b := hp _ (List.mem_singleton.2 rfl)
  clear hp
  change claim Lg.std Alg.std τ_i_SameRows_1 (Gam.of [(80, ⟨true, g2 (pD (.sl (.int .u8))) (pD (.sl (.int .u8))) fun a b => ⟨[Q_b_Equal a b], [⟨.bool, .sh, F_b_Equal a b⟩], []⟩, []⟩)]) O_i_SameRows_1 Go.Proofs.Try.f79 [.dat (.pair (.sl (.int .u8)) (.pair (.int .i64) .unit)) a, .dat (.pair (.sl (.int .u8)) (.pair (.int .i64) .unit)) b] ⟨[Q_i_SameRows_1 a b], [⟨.bool, .sh, F_i_SameRows_1 a b⟩], []⟩
  generalize hg_F_b_Equal : F_b_Equal = g_F_b_Equal
  generalize hg_Q_b_Equal : Q_b_Equal = g_Q_b_Equal
  generalize hR0 : F_i_SameRows_1 a b = R0
  generalize Q_i_SameRows_1 a b = Q0
  generalize hL : Lg.std = L
  generalize hA : Alg.std = A
  cbv
  subst hL hA
  try dsimp only [Ty.den]
  obtain ⟨f0, f1, ⟨⟩⟩ := a
  obtain ⟨g0, g1, ⟨⟩⟩ := b
  subst hR0 hg_F_b_Equal hg_Q_b_Equal
  simp only [Q_i_SameRows_1] at hq
  simp only [Lg.std, Alg.std, List.drop_zero, List.take_length, F_b_Equal, Q_b_Equal, F_i_SameRows_1]
  all_goals grind
def con_i_SameRows_1 : Con := ⟨true, g2 (pD (.pair (.sl (.int .u8)) (.pair (.int .i64) .unit))) (pD (.pair (.sl (.int .u8)) (.pair (.int .i64) .unit))) fun a b => ⟨[Q_i_SameRows_1 a b], [⟨.bool, .sh, F_i_SameRows_1 a b⟩], []⟩, []⟩
theorem ok_i_SameRows_1 : ConOk pg 79 con_i_SameRows_1 := ConOk.g2 (Enters.of (by kernel_rfl)) ct_i_SameRows_1

def F_sl_EqualFunc_Row__i_SameRows_1 (a : List ((List (Int)) × (Int) × Unit)) (b : List ((List (Int)) × (Int) × Unit)) (u : Unit) : Bool := decide (a = b)
def Q_sl_EqualFunc_Row__i_SameRows_1 (a : List ((List (Int)) × (Int) × Unit)) (b : List ((List (Int)) × (Int) × Unit)) (u : Unit) : Prop := True
def O_sl_EqualFunc_Row__i_SameRows_1 : Opt := ⟨fun i => false, fun i => (match decide (i = 4) with | true => [false, true, true, false, false, false, false, false, false, false, false, false, false, false, false, true, true, true, false, false, false, false, false, false, false, false, false, false, false, false, false, false] | false => []), fun i => .done, fun i => none⟩
def τ_sl_EqualFunc_Row__i_SameRows_1 : Env := Env.of [(3, (.int .i64)), (4, .bool), (34, (.sl (.pair (.sl (.int .u8)) (.pair (.int .i64) .unit)))), (111, (.pair (.sl (.int .u8)) (.pair (.int .i64) .unit)))] []

theorem ct_sl_EqualFunc_Row__i_SameRows_1 (a : List ((List (Int)) × (Int) × Unit)) (b : List ((List (Int)) × (Int) × Unit)) (u : Unit) : Ct pg 78 [.dat (.sl (.pair (.sl (.int .u8)) (.pair (.int .i64) .unit))) a, .dat (.sl (.pair (.sl (.int .u8)) (.pair (.int .i64) .unit))) b, .clo 79 []] ⟨[Q_sl_EqualFunc_Row__i_SameRows_1 a b u], [⟨.bool, .sh, F_sl_EqualFunc_Row__i_SameRows_1 a b u⟩], []⟩ := by
  refine ct_claim (O := O_sl_EqualFunc_Row__i_SameRows_1) (τ := τ_sl_EqualFunc_Row__i_SameRows_1) (EnvOk.of (by kernel_rfl)) (GOk.of (.cons ok_i_SameRows_1 .nil : AllOk pg [(79, con_i_SameRows_1)])) mixed (Enters.of (by kernel_rfl)) (fn := Go.Proofs.Try.f78) (by kernel_rfl) rfl (by kernel_rfl) ?_
  intro hp hw
  have hq : Q_sl_EqualFunc_Row__i_SameRows_1 a b u := hp _ (List.mem_singleton.2 rfl)
  clear hp
  change claim Lg.std Alg.std τ_sl_EqualFunc_Row__i_SameRows_1 (Gam.of [(79, ⟨true, g2 (pD (.pair (.sl (.int .u8)) (.pair (.int .i64) .unit))) (pD (.pair (.sl (.int .u8)) (.pair (.int .i64) .unit))) fun a b => ⟨[Q_i_SameRows_1 a b], [⟨.bool, .sh, F_i_SameRows_1 a b⟩], []⟩, []⟩)]) O_sl_EqualFunc_Row__i_SameRows_1 Go.Proofs.Try.f78 [.dat (.sl (.pair (.sl (.int .u8)) (.pair (.int .i64) .unit))) a, .dat (.sl (.pair (.sl (.int .u8)) (.pair (.int .i64) .unit))) b, .clo 79 []] ⟨[Q_sl_EqualFunc_Row__i_SameRows_1 a b u], [⟨.bool, .sh, F_sl_EqualFunc_Row__i_SameRows_1 a b u⟩], []⟩
  generalize hg_F_i_SameRows_1 : F_i_SameRows_1 = g_F_i_SameRows_1
  generalize hg_Q_i_SameRows_1 : Q_i_SameRows_1 = g_Q_i_SameRows_1
  generalize hR0 : F_sl_EqualFunc_Row__i_SameRows_1 a b u = R0
  generalize Q_sl_EqualFunc_Row__i_SameRows_1 a b u = Q0
  generalize hL : Lg.std = L
  generalize hA : Alg.std = A
  cbv
  subst hL hA
  try dsimp only [Ty.den]
  refine ⟨fun hne => ?_, fun heq => ?_⟩
  · subst hR0 hg_F_i_SameRows_1 hg_Q_i_SameRows_1
    simp only [Alg.std, F_i_SameRows_1, Q_i_SameRows_1, F_sl_EqualFunc_Row__i_SameRows_1] at *
    all_goals grind
  refine lp_v (V := (Int) × (Int)) (fun ((i, M) : (Int) × (Int)) => ⟨[.junk, .dat (.sl (.pair (.sl (.int .u8)) (.pair (.int .i64) .unit))) b, .clo 79 [], .junk, .junk, .junk, .junk, .junk, .junk, .junk, .junk, .junk, .junk, .junk, .junk, .dat (.sl (.pair (.sl (.int .u8)) (.pair (.int .i64) .unit))) a, .dat (.int .i64) M, .dat (.int .i64) i, .junk, .junk, .junk, .junk, .junk, .junk, .junk, .junk, .junk, .junk, .junk, .junk, .junk, .junk], []⟩) (fun ((i, M) : (Int) × (Int)) => M = a.length ∧ a.length = b.length ∧ 0 ≤ i ∧ i ≤ a.length ∧ decide (a = b) = decide (a.drop i.toNat = b.drop i.toNat)) (fun ((i, M) : (Int) × (Int)) => a.length - i.toNat) (0, _) rfl ?_ ?_
  · simp [Alg.std] at heq ⊢; omega
  rintro ⟨i, M⟩ hf I hI
  replace hf : M = a.length ∧ a.length = b.length ∧ 0 ≤ i ∧ i ≤ a.length ∧ decide (a = b) = decide (a.drop i.toNat = b.drop i.toNat) := hf
  generalize hL : Lg.std = L
  generalize hA : Alg.std = A
  cbv
  subst hL hA
  try dsimp only [Ty.den]
  subst hI
  simp only [Lg.std, Alg.std, List.drop_zero, List.take_length]
  obtain ⟨h1, h2, h3, h4, h5⟩ := hf
  have hl := hw.1.1
  have hdc := fun (h : i.toNat < a.length) => drop_cons a (([], 0, PUnit.unit) : (List (Int)) × (Int) × Unit) i.toNat h
  have he := fun (h : a.length ≤ i.toNat) => drop_nil a i.toNat h
  have hdc2 := fun (h : i.toNat < b.length) => drop_cons b (([], 0, PUnit.unit) : (List (Int)) × (Int) × Unit) i.toNat h
  have he2 := fun (h : b.length ≤ i.toNat) => drop_nil b i.toNat h
  repeat' (first | intro _ | apply And.intro)
  all_goals (try refine ⟨(_, _), rfl, ?_, ?_⟩)
  all_goals subst hR0 hg_F_i_SameRows_1 hg_Q_i_SameRows_1
  all_goals (try simp only [F_i_SameRows_1, Q_i_SameRows_1, F_sl_EqualFunc_Row__i_SameRows_1] at *)
  all_goals grind
def con_sl_EqualFunc_Row__i_SameRows_1 : Con := ⟨true, g3 (pD (.sl (.pair (.sl (.int .u8)) (.pair (.int .i64) .unit)))) (pD (.sl (.pair (.sl (.int .u8)) (.pair (.int .i64) .unit)))) (pC0 79) fun a b u => ⟨[Q_sl_EqualFunc_Row__i_SameRows_1 a b u], [⟨.bool, .sh, F_sl_EqualFunc_Row__i_SameRows_1 a b u⟩], []⟩, []⟩
theorem ok_sl_EqualFunc_Row__i_SameRows_1 : ConOk pg 78 con_sl_EqualFunc_Row__i_SameRows_1 := ConOk.g3 (Enters.of (by kernel_rfl)) ct_sl_EqualFunc_Row__i_SameRows_1

def F_i_SameRows (a : List ((List (Int)) × (Int) × Unit)) (b : List ((List (Int)) × (Int) × Unit)) : Bool := decide (a = b)
def Q_i_SameRows (a : List ((List (Int)) × (Int) × Unit)) (b : List ((List (Int)) × (Int) × Unit)) : Prop := True
def O_i_SameRows : Opt := ⟨fun i => false, fun i => [], fun i => .done, fun i => none⟩
def τ_i_SameRows : Env := Env.of [(4, .bool), (34, (.sl (.pair (.sl (.int .u8)) (.pair (.int .i64) .unit))))] []

theorem ct_i_SameRows (a : List ((List (Int)) × (Int) × Unit)) (b : List ((List (Int)) × (Int) × Unit)) : Ct pg 23 [.dat (.sl (.pair (.sl (.int .u8)) (.pair (.int .i64) .unit))) a, .dat (.sl (.pair (.sl (.int .u8)) (.pair (.int .i64) .unit))) b] ⟨[Q_i_SameRows a b], [⟨.bool, .sh, F_i_SameRows a b⟩], []⟩ := by
  refine ct_claim (O := O_i_SameRows) (τ := τ_i_SameRows) (EnvOk.of (by kernel_rfl)) (GOk.of (.cons ok_i_SameRows_1 (.cons ok_sl_EqualFunc_Row__i_SameRows_1 .nil) : AllOk pg [(79, con_i_SameRows_1), (78, con_sl_EqualFunc_Row__i_SameRows_1)])) mixed (Enters.of (by kernel_rfl)) (fn := Go.Proofs.Try.f23) (by kernel_rfl) rfl (by kernel_rfl) ?_
  intro hp hw
  have hq : Q_i_SameRows a b := hp _ (List.mem_singleton.2 rfl)
  clear hp
  change claim Lg.std Alg.std τ_i_SameRows (Gam.of [(79, ⟨true, g2 (pD (.pair (.sl (.int .u8)) (.pair (.int .i64) .unit))) (pD (.pair (.sl (.int .u8)) (.pair (.int .i64) .unit))) fun a b => ⟨[Q_i_SameRows_1 a b], [⟨.bool, .sh, F_i_SameRows_1 a b⟩], []⟩, []⟩), (78, ⟨true, g3 (pD (.sl (.pair (.sl (.int .u8)) (.pair (.int .i64) .unit)))) (pD (.sl (.pair (.sl (.int .u8)) (.pair (.int .i64) .unit)))) (pC0 79) fun a b u => ⟨[Q_sl_EqualFunc_Row__i_SameRows_1 a b u], [⟨.bool, .sh, F_sl_EqualFunc_Row__i_SameRows_1 a b u⟩], []⟩, []⟩)]) O_i_SameRows Go.Proofs.Try.f23 [.dat (.sl (.pair (.sl (.int .u8)) (.pair (.int .i64) .unit))) a, .dat (.sl (.pair (.sl (.int .u8)) (.pair (.int .i64) .unit))) b] ⟨[Q_i_SameRows a b], [⟨.bool, .sh, F_i_SameRows a b⟩], []⟩
  generalize hg_F_i_SameRows_1 : F_i_SameRows_1 = g_F_i_SameRows_1
  generalize hg_Q_i_SameRows_1 : Q_i_SameRows_1 = g_Q_i_SameRows_1
  generalize hg_F_sl_EqualFunc_Row__i_SameRows_1 : F_sl_EqualFunc_Row__i_SameRows_1 = g_F_sl_EqualFunc_Row__i_SameRows_1
  generalize hg_Q_sl_EqualFunc_Row__i_SameRows_1 : Q_sl_EqualFunc_Row__i_SameRows_1 = g_Q_sl_EqualFunc_Row__i_SameRows_1
  generalize hR0 : F_i_SameRows a b = R0
  generalize Q_i_SameRows a b = Q0
  generalize hL : Lg.std = L
  generalize hA : Alg.std = A
  cbv
  subst hL hA
  try dsimp only [Ty.den]
  subst hR0 hg_F_i_SameRows_1 hg_Q_i_SameRows_1 hg_F_sl_EqualFunc_Row__i_SameRows_1 hg_Q_sl_EqualFunc_Row__i_SameRows_1
  simp only [Q_i_SameRows] at hq
  simp only [Lg.std, Alg.std, List.drop_zero, List.take_length, F_i_SameRows_1, F_sl_EqualFunc_Row__i_SameRows_1, Q_i_SameRows_1, Q_sl_EqualFunc_Row__i_SameRows_1, F_i_SameRows]
  all_goals grind
def con_i_SameRows : Con := ⟨true, g2 (pD (.sl (.pair (.sl (.int .u8)) (.pair (.int .i64) .unit)))) (pD (.sl (.pair (.sl (.int .u8)) (.pair (.int .i64) .unit)))) fun a b => ⟨[Q_i_SameRows a b], [⟨.bool, .sh, F_i_SameRows a b⟩], []⟩, []⟩
theorem ok_i_SameRows : ConOk pg 23 con_i_SameRows := ConOk.g2 (Enters.of (by kernel_rfl)) ct_i_SameRows

def F_s_SameRows (a : List ((List (Int)) × (Int) × Unit)) (b : List ((List (Int)) × (Int) × Unit)) : Bool := decide (a = b)
def Q_s_SameRows (a : List ((List (Int)) × (Int) × Unit)) (b : List ((List (Int)) × (Int) × Unit)) : Prop := True
def O_s_SameRows : Opt := ⟨fun i => (match decide (i = 6) with | true => true | false => false), fun i => (match decide (i = 4) with | true => [true, true, false, false, false, true, false, false, false, false, false, false, false, false, false, false, false, false, false, false, false, false, false, false, false, false, false, false, false, false, false, false, false, false, false, false, false, false, false, false, false, false, false] | false => []), fun i => .done, fun i => none⟩
def τ_s_SameRows : Env := Env.of [(2, (.int .i64)), (3, (.int .i64)), (4, .bool), (9, .str), (22, (.sl (.int .u8))), (34, (.sl (.pair (.sl (.int .u8)) (.pair (.int .i64) .unit)))), (111, (.pair (.sl (.int .u8)) (.pair (.int .i64) .unit)))] []

theorem ct_s_SameRows (a : List ((List (Int)) × (Int) × Unit)) (b : List ((List (Int)) × (Int) × Unit)) : Ct pg 21 [.dat (.sl (.pair (.sl (.int .u8)) (.pair (.int .i64) .unit))) a, .dat (.sl (.pair (.sl (.int .u8)) (.pair (.int .i64) .unit))) b] ⟨[Q_s_SameRows a b], [⟨.bool, .sh, F_s_SameRows a b⟩], []⟩ := by
  refine ct_claim (O := O_s_SameRows) (τ := τ_s_SameRows) (EnvOk.of (by kernel_rfl)) (GOk.of (.nil : AllOk pg [])) mixed (Enters.of (by kernel_rfl)) (fn := Go.Proofs.Try.f21) (by kernel_rfl) rfl (by kernel_rfl) ?_
  intro hp hw
  have hq : Q_s_SameRows a b := hp _ (List.mem_singleton.2 rfl)
  clear hp
  change claim Lg.std Alg.std τ_s_SameRows (Gam.of []) O_s_SameRows Go.Proofs.Try.f21 [.dat (.sl (.pair (.sl (.int .u8)) (.pair (.int .i64) .unit))) a, .dat (.sl (.pair (.sl (.int .u8)) (.pair (.int .i64) .unit))) b] ⟨[Q_s_SameRows a b], [⟨.bool, .sh, F_s_SameRows a b⟩], []⟩
  generalize hR0 : F_s_SameRows a b = R0
  generalize Q_s_SameRows a b = Q0
  generalize hL : Lg.std = L
  generalize hA : Alg.std = A
  cbv
  subst hL hA
  try dsimp only [Ty.den]
  refine ⟨fun hne => ?_, fun heq => ?_⟩
  · subst hR0
    simp only [Alg.std, F_s_SameRows] at *
    all_goals grind
  refine lp_v (V := (Int)) (fun (i : Int) => ⟨[.dat (.sl (.pair (.sl (.int .u8)) (.pair (.int .i64) .unit))) a, .dat (.sl (.pair (.sl (.int .u8)) (.pair (.int .i64) .unit))) b, .junk, .junk, .junk, .dat (.int .i64) i, .junk, .junk, .junk, .junk, .junk, .junk, .junk, .junk, .junk, .junk, .junk, .junk, .junk, .junk, .junk, .junk, .junk, .junk, .junk, .junk, .junk, .junk, .junk, .junk, .junk, .junk, .junk, .junk, .junk, .junk, .junk, .junk, .junk, .junk, .junk, .junk, .junk], []⟩) (fun (i : Int) => a.length = b.length ∧ 0 ≤ i ∧ i ≤ a.length ∧ decide (a = b) = decide (a.drop i.toNat = b.drop i.toNat)) (fun (i : Int) => a.length - i.toNat) (0) rfl ?_ ?_
  · simp [Alg.std] at heq ⊢; omega
  rintro i hf I hI
  replace hf : a.length = b.length ∧ 0 ≤ i ∧ i ≤ a.length ∧ decide (a = b) = decide (a.drop i.toNat = b.drop i.toNat) := hf
  generalize hL : Lg.std = L
  generalize hA : Alg.std = A
  cbv
  subst hL hA
  try dsimp only [Ty.den]
  subst hI
  simp only [Lg.std, Alg.std, List.drop_zero, List.take_length]
  obtain ⟨h1, h2, h3, h4⟩ := hf
  have hl := hw.1.1
  have hdc := fun (h : i.toNat < a.length) => drop_cons a (([], 0, PUnit.unit) : (List (Int)) × (Int) × Unit) i.toNat h
  have he := fun (h : a.length ≤ i.toNat) => drop_nil a i.toNat h
  have hdc2 := fun (h : i.toNat < b.length) => drop_cons b (([], 0, PUnit.unit) : (List (Int)) × (Int) × Unit) i.toNat h
  have he2 := fun (h : b.length ≤ i.toNat) => drop_nil b i.toNat h
  repeat' (first | intro _ | apply And.intro)
  all_goals (try refine ⟨_, rfl, ?_, ?_⟩)
  all_goals subst hR0
  all_goals (try simp only [F_s_SameRows] at *)
  all_goals grind
def con_s_SameRows : Con := ⟨true, g2 (pD (.sl (.pair (.sl (.int .u8)) (.pair (.int .i64) .unit)))) (pD (.sl (.pair (.sl (.int .u8)) (.pair (.int .i64) .unit)))) fun a b => ⟨[Q_s_SameRows a b], [⟨.bool, .sh, F_s_SameRows a b⟩], []⟩, []⟩
theorem ok_s_SameRows : ConOk pg 21 con_s_SameRows := ConOk.g2 (Enters.of (by kernel_rfl)) ct_s_SameRows

def F_w_FnExactSameRows (a : List ((List (Int)) × (Int) × Unit)) (b : List ((List (Int)) × (Int) × Unit)) : Bool := true
def Q_w_FnExactSameRows (a : List ((List (Int)) × (Int) × Unit)) (b : List ((List (Int)) × (Int) × Unit)) : Prop := True
def O_w_FnExactSameRows : Opt := ⟨fun i => false, fun i => [], fun i => .done, fun i => none⟩
def τ_w_FnExactSameRows : Env := Env.of [(3, (.int .i64)), (4, .bool), (31, (.sl (.pair (.sl (.int .u8)) (.pair (.int .i64) .unit)))), (34, (.sl (.pair (.sl (.int .u8)) (.pair (.int .i64) .unit))))] []

theorem ct_w_FnExactSameRows (a : List ((List (Int)) × (Int) × Unit)) (b : List ((List (Int)) × (Int) × Unit)) : Ct pg 4 [.dat (.sl (.pair (.sl (.int .u8)) (.pair (.int .i64) .unit))) a, .dat (.sl (.pair (.sl (.int .u8)) (.pair (.int .i64) .unit))) b] ⟨[Q_w_FnExactSameRows a b], [⟨.bool, .sh, F_w_FnExactSameRows a b⟩], []⟩ := by
  refine ct_claim (O := O_w_FnExactSameRows) (τ := τ_w_FnExactSameRows) (EnvOk.of (by kernel_rfl)) (GOk.of (.cons ok_w_szRowS (.cons ok_w_toRowS (.cons ok_w_eqRowS (.cons ok_i_SameRows (.cons ok_s_SameRows .nil)))) : AllOk pg [(20, con_w_szRowS), (22, con_w_toRowS), (24, con_w_eqRowS), (23, con_i_SameRows), (21, con_s_SameRows)])) mixed (Enters.of (by kernel_rfl)) (fn := Go.Proofs.Try.f4) (by kernel_rfl) rfl (by kernel_rfl) ?_
  intro hp hw
  have hq : Q_w_FnExactSameRows a b := hp _ (List.mem_singleton.2 rfl)
  clear hp
  change claim Lg.std Alg.std τ_w_FnExactSameRows (Gam.of [(20, ⟨true, g2 (pD (.sl (.pair (.sl (.int .u8)) (.pair (.int .i64) .unit)))) (pD (.int .i64)) fun a left => ⟨[Q_w_szRowS a left], [⟨(.int .i64), .sh, F_w_szRowS a left⟩], []⟩, []⟩), (22, ⟨true, g1 (pD (.sl (.pair (.sl (.int .u8)) (.pair (.int .i64) .unit)))) fun a => ⟨[Q_w_toRowS a], [⟨(.sl (.pair (.sl (.int .u8)) (.pair (.int .i64) .unit))), (.ow (.pr (.ow .sh) (.pr .sh .sh))), F_w_toRowS a⟩], []⟩, []⟩), (24, ⟨true, g2 (pD (.sl (.pair (.sl (.int .u8)) (.pair (.int .i64) .unit)))) (pD (.sl (.pair (.sl (.int .u8)) (.pair (.int .i64) .unit)))) fun a b => ⟨[Q_w_eqRowS a b], [⟨.bool, .sh, F_w_eqRowS a b⟩], []⟩, []⟩), (23, ⟨true, g2 (pD (.sl (.pair (.sl (.int .u8)) (.pair (.int .i64) .unit)))) (pD (.sl (.pair (.sl (.int .u8)) (.pair (.int .i64) .unit)))) fun a b => ⟨[Q_i_SameRows a b], [⟨.bool, .sh, F_i_SameRows a b⟩], []⟩, []⟩), (21, ⟨true, g2 (pD (.sl (.pair (.sl (.int .u8)) (.pair (.int .i64) .unit)))) (pD (.sl (.pair (.sl (.int .u8)) (.pair (.int .i64) .unit)))) fun a b => ⟨[Q_s_SameRows a b], [⟨.bool, .sh, F_s_SameRows a b⟩], []⟩, []⟩)]) O_w_FnExactSameRows Go.Proofs.Try.f4 [.dat (.sl (.pair (.sl (.int .u8)) (.pair (.int .i64) .unit))) a, .dat (.sl (.pair (.sl (.int .u8)) (.pair (.int .i64) .unit))) b] ⟨[Q_w_FnExactSameRows a b], [⟨.bool, .sh, F_w_FnExactSameRows a b⟩], []⟩
  generalize hg_F_w_szRowS : F_w_szRowS = g_F_w_szRowS
  generalize hg_Q_w_szRowS : Q_w_szRowS = g_Q_w_szRowS
  generalize hg_F_w_toRowS : F_w_toRowS = g_F_w_toRowS
  generalize hg_Q_w_toRowS : Q_w_toRowS = g_Q_w_toRowS
  generalize hg_F_w_eqRowS : F_w_eqRowS = g_F_w_eqRowS
  generalize hg_Q_w_eqRowS : Q_w_eqRowS = g_Q_w_eqRowS
  generalize hg_F_i_SameRows : F_i_SameRows = g_F_i_SameRows
  generalize hg_Q_i_SameRows : Q_i_SameRows = g_Q_i_SameRows
  generalize hg_F_s_SameRows : F_s_SameRows = g_F_s_SameRows
  generalize hg_Q_s_SameRows : Q_s_SameRows = g_Q_s_SameRows
  generalize hR0 : F_w_FnExactSameRows a b = R0
  generalize Q_w_FnExactSameRows a b = Q0
  generalize hL : Lg.std = L
  generalize hA : Alg.std = A
  cbv
  subst hL hA
  try dsimp only [Ty.den]
  subst hR0 hg_F_w_szRowS hg_Q_w_szRowS hg_F_w_toRowS hg_Q_w_toRowS hg_F_w_eqRowS hg_Q_w_eqRowS hg_F_i_SameRows hg_Q_i_SameRows hg_F_s_SameRows hg_Q_s_SameRows
  simp only [Q_w_FnExactSameRows] at hq
  simp only [Lg.std, Alg.std, List.drop_zero, List.take_length, F_w_szRowS, F_w_toRowS, F_w_eqRowS, F_i_SameRows, F_s_SameRows, Q_w_szRowS, Q_w_toRowS, Q_w_eqRowS, Q_i_SameRows, Q_s_SameRows, F_w_FnExactSameRows]
  all_goals grind [szf]
def con_w_FnExactSameRows : Con := ⟨true, g2 (pD (.sl (.pair (.sl (.int .u8)) (.pair (.int .i64) .unit)))) (pD (.sl (.pair (.sl (.int .u8)) (.pair (.int .i64) .unit)))) fun a b => ⟨[Q_w_FnExactSameRows a b], [⟨.bool, .sh, F_w_FnExactSameRows a b⟩], []⟩, []⟩
theorem ok_w_FnExactSameRows : ConOk pg 4 con_w_FnExactSameRows := ConOk.g2 (Enters.of (by kernel_rfl)) ct_w_FnExactSameRows
end Go.Vee
