/-
  Contracts of functions of the program: what each returns for all arguments that its precondition lets in.
-/
import Derived.Test.YtjlojjkfdidkiaaVK4
set_option linter.unusedSimpArgs false
set_option linter.unusedVariables false
set_option maxRecDepth 100000
set_option maxHeartbeats 4000000
set_option synthInstance.maxHeartbeats 4000000
set_option synthInstance.maxSize 20000000
namespace Go.Vee
open Go
def F_i_SameDisks_1 (a : (Int) × (List (Int)) × Unit) (b : (Int) × (List (Int)) × Unit) : Bool := decide (a = b)
def Q_i_SameDisks_1 (a : (Int) × (List (Int)) × Unit) (b : (Int) × (List (Int)) × Unit) : Prop := True
def O_i_SameDisks_1 : Opt := ⟨fun i => false, fun i => [], fun i => .done, fun i => none, fun i => false, fun i => [], fun i => false, fun i => none, fun i => none⟩
def τ_i_SameDisks_1 : Env := Env.of [(2, (.int .i64)), (4, .bool), (34, (.sl (.int .u8))), (120, (.pair (.int .i64) (.pair (.sl (.int .u8)) .unit)))] [] []

theorem ct_i_SameDisks_1 (a : (Int) × (List (Int)) × Unit) (b : (Int) × (List (Int)) × Unit) : Ct pg 100 [.dat (.pair (.int .i64) (.pair (.sl (.int .u8)) .unit)) a, .dat (.pair (.int .i64) (.pair (.sl (.int .u8)) .unit)) b] ⟨[Q_i_SameDisks_1 a b], [⟨.bool, .sh, F_i_SameDisks_1 a b⟩], []⟩ := by
  refine ct_claim (O := O_i_SameDisks_1) (τ := τ_i_SameDisks_1) (EnvOk.of (by kernel_rfl) (by kernel_rfl)) (GOk.of (.cons ok_b_Equal .nil : AllOk pg [(81, con_b_Equal)])) mixed (Enters.of (by kernel_rfl)) (fn := Go.Proofs.Try.f100) (by kernel_rfl) rfl (by kernel_rfl) ?_
  intro hp hw
  have hq : Q_i_SameDisks_1 a b := hp _ (List.mem_singleton.2 rfl)
  clear hp
  change claim Lg.std Alg.std τ_i_SameDisks_1 (Gam.of [(81, con_b_Equal)]) O_i_SameDisks_1 Go.Proofs.Try.f100 [.dat (.pair (.int .i64) (.pair (.sl (.int .u8)) .unit)) a, .dat (.pair (.int .i64) (.pair (.sl (.int .u8)) .unit)) b] ⟨[Q_i_SameDisks_1 a b], [⟨.bool, .sh, F_i_SameDisks_1 a b⟩], []⟩
  delta con_b_Equal
  generalize hg_F_b_Equal : F_b_Equal = g_F_b_Equal
  generalize hg_Q_b_Equal : Q_b_Equal = g_Q_b_Equal
  generalize hR0 : F_i_SameDisks_1 a b = R0
  generalize Q_i_SameDisks_1 a b = Q0
  generalize hL : Lg.std = L
  generalize hA : Alg.std = A
  cbv
  subst hL hA
  try dsimp only [Ty.den]
  obtain ⟨a_0, a_1, ⟨⟩⟩ := a
  obtain ⟨b_0, b_1, ⟨⟩⟩ := b
  subst hR0 hg_F_b_Equal hg_Q_b_Equal
  simp only [Q_i_SameDisks_1] at hq
  simp only [Lg.std, Alg.std, List.drop_zero, List.take_length, F_b_Equal, Q_b_Equal, F_i_SameDisks_1]
  all_goals grind
def con_i_SameDisks_1 : Con := ⟨true, g2 (pD (.pair (.int .i64) (.pair (.sl (.int .u8)) .unit))) (pD (.pair (.int .i64) (.pair (.sl (.int .u8)) .unit))) fun a b => .one ⟨[Q_i_SameDisks_1 a b], [⟨.bool, .sh, F_i_SameDisks_1 a b⟩], []⟩, [], false, 0⟩
theorem ok_i_SameDisks_1 : ConOk pg 100 con_i_SameDisks_1 := ConOk.g2 (Enters.of (by kernel_rfl)) ct_i_SameDisks_1

def F_sl_EqualFunc_Put__i_SameDisks_1 (a : List ((Int) × (List (Int)) × Unit)) (b : List ((Int) × (List (Int)) × Unit)) (u : Unit) : Bool := decide (a = b)
def Q_sl_EqualFunc_Put__i_SameDisks_1 (a : List ((Int) × (List (Int)) × Unit)) (b : List ((Int) × (List (Int)) × Unit)) (u : Unit) : Prop := True
def O_sl_EqualFunc_Put__i_SameDisks_1 : Opt := ⟨fun i => false, fun i => (match decide (i = 4) with | true => [false, true, true, false, false, false, false, false, false, false, false, false, false, false, false, true, true, true, false, false, false, false, false, false, false, false, false, false, false, false, false, false] | false => []), fun i => .done, fun i => none, fun i => false, fun i => [], fun i => false, fun i => none, fun i => none⟩
def τ_sl_EqualFunc_Put__i_SameDisks_1 : Env := Env.of [(3, (.int .i64)), (4, .bool), (28, (.sl (.pair (.int .i64) (.pair (.sl (.int .u8)) .unit)))), (120, (.pair (.int .i64) (.pair (.sl (.int .u8)) .unit)))] [] []

theorem ct_sl_EqualFunc_Put__i_SameDisks_1 (a : List ((Int) × (List (Int)) × Unit)) (b : List ((Int) × (List (Int)) × Unit)) (u : Unit) : Ct pg 99 [.dat (.sl (.pair (.int .i64) (.pair (.sl (.int .u8)) .unit))) a, .dat (.sl (.pair (.int .i64) (.pair (.sl (.int .u8)) .unit))) b, .clo 100 []] ⟨[Q_sl_EqualFunc_Put__i_SameDisks_1 a b u], [⟨.bool, .sh, F_sl_EqualFunc_Put__i_SameDisks_1 a b u⟩], []⟩ := by
  refine ct_claim (O := O_sl_EqualFunc_Put__i_SameDisks_1) (τ := τ_sl_EqualFunc_Put__i_SameDisks_1) (EnvOk.of (by kernel_rfl) (by kernel_rfl)) (GOk.of (.cons ok_i_SameDisks_1 .nil : AllOk pg [(100, con_i_SameDisks_1)])) mixed (Enters.of (by kernel_rfl)) (fn := Go.Proofs.Try.f99) (by kernel_rfl) rfl (by kernel_rfl) ?_
  intro hp hw
  have hq : Q_sl_EqualFunc_Put__i_SameDisks_1 a b u := hp _ (List.mem_singleton.2 rfl)
  clear hp
  change claim Lg.std Alg.std τ_sl_EqualFunc_Put__i_SameDisks_1 (Gam.of [(100, con_i_SameDisks_1)]) O_sl_EqualFunc_Put__i_SameDisks_1 Go.Proofs.Try.f99 [.dat (.sl (.pair (.int .i64) (.pair (.sl (.int .u8)) .unit))) a, .dat (.sl (.pair (.int .i64) (.pair (.sl (.int .u8)) .unit))) b, .clo 100 []] ⟨[Q_sl_EqualFunc_Put__i_SameDisks_1 a b u], [⟨.bool, .sh, F_sl_EqualFunc_Put__i_SameDisks_1 a b u⟩], []⟩
  delta con_i_SameDisks_1
  generalize hg_F_i_SameDisks_1 : F_i_SameDisks_1 = g_F_i_SameDisks_1
  generalize hg_Q_i_SameDisks_1 : Q_i_SameDisks_1 = g_Q_i_SameDisks_1
  generalize hR0 : F_sl_EqualFunc_Put__i_SameDisks_1 a b u = R0
  generalize Q_sl_EqualFunc_Put__i_SameDisks_1 a b u = Q0
  generalize hL : Lg.std = L
  generalize hA : Alg.std = A
  cbv
  subst hL hA
  try dsimp only [Ty.den]
  refine ⟨fun hne => ?_, fun heq => ?_⟩
  · subst hR0 hg_F_i_SameDisks_1 hg_Q_i_SameDisks_1
    simp only [Alg.std, F_i_SameDisks_1, Q_i_SameDisks_1, F_sl_EqualFunc_Put__i_SameDisks_1] at *
    all_goals grind
  refine lp_v (V := (Int) × (Int)) (fun ((i, M) : (Int) × (Int)) => ⟨[Jk, .dat (.sl (.pair (.int .i64) (.pair (.sl (.int .u8)) .unit))) b, .clo 100 [], Jk, Jk, Jk, Jk, Jk, Jk, Jk, Jk, Jk, Jk, Jk, Jk, .dat (.sl (.pair (.int .i64) (.pair (.sl (.int .u8)) .unit))) a, .dat (.int .i64) M, .dat (.int .i64) i, Jk, Jk, Jk, Jk, Jk, Jk, Jk, Jk, Jk, Jk, Jk, Jk, Jk, Jk], []⟩) (fun ((i, M) : (Int) × (Int)) => M = a.length ∧ a.length = b.length ∧ 0 ≤ i ∧ i ≤ a.length ∧ decide (a = b) = decide (a.drop i.toNat = b.drop i.toNat)) (fun ((i, M) : (Int) × (Int)) => a.length - i.toNat) (0, _) rfl ?_ ?_
  · simp [Alg.std] at heq ⊢; omega
  rintro ⟨i, M⟩ hf I hI
  replace hf : M = a.length ∧ a.length = b.length ∧ 0 ≤ i ∧ i ≤ a.length ∧ decide (a = b) = decide (a.drop i.toNat = b.drop i.toNat) := hf
  generalize hL : Lg.std = L
  generalize hA : Alg.std = A
  cbv
  subst hL hA
  try dsimp only [Ty.den]
  subst hI
  simp only [Lg.std, Alg.std, List.drop_zero, List.take_length]
  obtain ⟨h1, h2, h3, h4, h5⟩ := hf
  have hl := hw.1.1
  have hdc := fun (h : i.toNat < a.length) => drop_cons a ((0, [], PUnit.unit) : (Int) × (List (Int)) × Unit) i.toNat h
  have he := fun (h : a.length ≤ i.toNat) => drop_nil a i.toNat h
  have hdc2 := fun (h : i.toNat < b.length) => drop_cons b ((0, [], PUnit.unit) : (Int) × (List (Int)) × Unit) i.toNat h
  have he2 := fun (h : b.length ≤ i.toNat) => drop_nil b i.toNat h
  repeat' (first | intro _ | apply And.intro)
  all_goals (try refine ⟨(_, _), rfl, ?_, ?_⟩)
  all_goals subst hR0 hg_F_i_SameDisks_1 hg_Q_i_SameDisks_1
  all_goals (try simp only [F_i_SameDisks_1, Q_i_SameDisks_1, F_sl_EqualFunc_Put__i_SameDisks_1] at *)
  all_goals grind
def con_sl_EqualFunc_Put__i_SameDisks_1 : Con := ⟨true, g3 (pD (.sl (.pair (.int .i64) (.pair (.sl (.int .u8)) .unit)))) (pD (.sl (.pair (.int .i64) (.pair (.sl (.int .u8)) .unit)))) (pC0 100) fun a b u => .one ⟨[Q_sl_EqualFunc_Put__i_SameDisks_1 a b u], [⟨.bool, .sh, F_sl_EqualFunc_Put__i_SameDisks_1 a b u⟩], []⟩, [], false, 0⟩
theorem ok_sl_EqualFunc_Put__i_SameDisks_1 : ConOk pg 99 con_sl_EqualFunc_Put__i_SameDisks_1 := ConOk.g3 (Enters.of (by kernel_rfl)) ct_sl_EqualFunc_Put__i_SameDisks_1

def F_i_SameDisks (a : (List (List (Int))) × (List ((Int) × (List (Int)) × Unit)) × Unit) (b : (List (List (Int))) × (List ((Int) × (List (Int)) × Unit)) × Unit) : Bool := decide (a = b)
def Q_i_SameDisks (a : (List (List (Int))) × (List ((Int) × (List (Int)) × Unit)) × Unit) (b : (List (List (Int))) × (List ((Int) × (List (Int)) × Unit)) × Unit) : Prop := True
def O_i_SameDisks : Opt := ⟨fun i => false, fun i => [], fun i => .done, fun i => none, fun i => false, fun i => [], fun i => false, fun i => none, fun i => none⟩
def τ_i_SameDisks : Env := Env.of [(4, .bool), (22, (.sl (.sl (.int .u8)))), (28, (.sl (.pair (.int .i64) (.pair (.sl (.int .u8)) .unit)))), (30, (.pair (.sl (.sl (.int .u8))) (.pair (.sl (.pair (.int .i64) (.pair (.sl (.int .u8)) .unit))) .unit)))] [] []

theorem ct_i_SameDisks (a : (List (List (Int))) × (List ((Int) × (List (Int)) × Unit)) × Unit) (b : (List (List (Int))) × (List ((Int) × (List (Int)) × Unit)) × Unit) : Ct pg 41 [.dat (.pair (.sl (.sl (.int .u8))) (.pair (.sl (.pair (.int .i64) (.pair (.sl (.int .u8)) .unit))) .unit)) a, .dat (.pair (.sl (.sl (.int .u8))) (.pair (.sl (.pair (.int .i64) (.pair (.sl (.int .u8)) .unit))) .unit)) b] ⟨[Q_i_SameDisks a b], [⟨.bool, .sh, F_i_SameDisks a b⟩], []⟩ := by
  refine ct_claim (O := O_i_SameDisks) (τ := τ_i_SameDisks) (EnvOk.of (by kernel_rfl) (by kernel_rfl)) (GOk.of (.cons ok_b_Equal (.cons ok_sl_EqualFunc_Lbyte__b_Equal (.cons ok_i_SameDisks_1 (.cons ok_sl_EqualFunc_Put__i_SameDisks_1 .nil))) : AllOk pg [(81, con_b_Equal), (98, con_sl_EqualFunc_Lbyte__b_Equal), (100, con_i_SameDisks_1), (99, con_sl_EqualFunc_Put__i_SameDisks_1)])) mixed (Enters.of (by kernel_rfl)) (fn := Go.Proofs.Try.f41) (by kernel_rfl) rfl (by kernel_rfl) ?_
  intro hp hw
  have hq : Q_i_SameDisks a b := hp _ (List.mem_singleton.2 rfl)
  clear hp
  change claim Lg.std Alg.std τ_i_SameDisks (Gam.of [(81, con_b_Equal), (98, con_sl_EqualFunc_Lbyte__b_Equal), (100, con_i_SameDisks_1), (99, con_sl_EqualFunc_Put__i_SameDisks_1)]) O_i_SameDisks Go.Proofs.Try.f41 [.dat (.pair (.sl (.sl (.int .u8))) (.pair (.sl (.pair (.int .i64) (.pair (.sl (.int .u8)) .unit))) .unit)) a, .dat (.pair (.sl (.sl (.int .u8))) (.pair (.sl (.pair (.int .i64) (.pair (.sl (.int .u8)) .unit))) .unit)) b] ⟨[Q_i_SameDisks a b], [⟨.bool, .sh, F_i_SameDisks a b⟩], []⟩
  delta con_b_Equal con_sl_EqualFunc_Lbyte__b_Equal con_i_SameDisks_1 con_sl_EqualFunc_Put__i_SameDisks_1
  generalize hg_F_b_Equal : F_b_Equal = g_F_b_Equal
  generalize hg_Q_b_Equal : Q_b_Equal = g_Q_b_Equal
  generalize hg_F_sl_EqualFunc_Lbyte__b_Equal : F_sl_EqualFunc_Lbyte__b_Equal = g_F_sl_EqualFunc_Lbyte__b_Equal
  generalize hg_Q_sl_EqualFunc_Lbyte__b_Equal : Q_sl_EqualFunc_Lbyte__b_Equal = g_Q_sl_EqualFunc_Lbyte__b_Equal
  generalize hg_F_i_SameDisks_1 : F_i_SameDisks_1 = g_F_i_SameDisks_1
  generalize hg_Q_i_SameDisks_1 : Q_i_SameDisks_1 = g_Q_i_SameDisks_1
  generalize hg_F_sl_EqualFunc_Put__i_SameDisks_1 : F_sl_EqualFunc_Put__i_SameDisks_1 = g_F_sl_EqualFunc_Put__i_SameDisks_1
  generalize hg_Q_sl_EqualFunc_Put__i_SameDisks_1 : Q_sl_EqualFunc_Put__i_SameDisks_1 = g_Q_sl_EqualFunc_Put__i_SameDisks_1
  generalize hR0 : F_i_SameDisks a b = R0
  generalize Q_i_SameDisks a b = Q0
  generalize hL : Lg.std = L
  generalize hA : Alg.std = A
  cbv
  subst hL hA
  try dsimp only [Ty.den]
  obtain ⟨a_0, a_1, ⟨⟩⟩ := a
  obtain ⟨b_0, b_1, ⟨⟩⟩ := b
  subst hR0 hg_F_b_Equal hg_Q_b_Equal hg_F_sl_EqualFunc_Lbyte__b_Equal hg_Q_sl_EqualFunc_Lbyte__b_Equal hg_F_i_SameDisks_1 hg_Q_i_SameDisks_1 hg_F_sl_EqualFunc_Put__i_SameDisks_1 hg_Q_sl_EqualFunc_Put__i_SameDisks_1
  simp only [Q_i_SameDisks] at hq
  simp only [Lg.std, Alg.std, List.drop_zero, List.take_length, F_b_Equal, F_sl_EqualFunc_Lbyte__b_Equal, F_i_SameDisks_1, F_sl_EqualFunc_Put__i_SameDisks_1, Q_b_Equal, Q_sl_EqualFunc_Lbyte__b_Equal, Q_i_SameDisks_1, Q_sl_EqualFunc_Put__i_SameDisks_1, F_i_SameDisks]
  all_goals grind
def con_i_SameDisks : Con := ⟨true, g2 (pD (.pair (.sl (.sl (.int .u8))) (.pair (.sl (.pair (.int .i64) (.pair (.sl (.int .u8)) .unit))) .unit))) (pD (.pair (.sl (.sl (.int .u8))) (.pair (.sl (.pair (.int .i64) (.pair (.sl (.int .u8)) .unit))) .unit))) fun a b => .one ⟨[Q_i_SameDisks a b], [⟨.bool, .sh, F_i_SameDisks a b⟩], []⟩, [], false, 0⟩
theorem ok_i_SameDisks : ConOk pg 41 con_i_SameDisks := ConOk.g2 (Enters.of (by kernel_rfl)) ct_i_SameDisks

def F_s_SameDisks (a : (List (List (Int))) × (List ((Int) × (List (Int)) × Unit)) × Unit) (b : (List (List (Int))) × (List ((Int) × (List (Int)) × Unit)) × Unit) : Bool := decide (a = b)
def Q_s_SameDisks (a : (List (List (Int))) × (List ((Int) × (List (Int)) × Unit)) × Unit) (b : (List (List (Int))) × (List ((Int) × (List (Int)) × Unit)) × Unit) : Prop := True
def O_s_SameDisks : Opt := ⟨fun i => (match decide (i = 11) with | true => true | false => (match decide (i = 6) with | true => true | false => false)), fun i => (match decide (i = 9) with | true => [false, false, true, true, false, false, true, false, false, false, false, false, false, false, false, false, false, false, false, false, false, false, false, false, false, false, false, false, false, false, false, false, false, false, false, false, false, false, false, false, false, false, false, false, false, false, false, false, false, false, false, false, false, false, false, false, false, false, false, false, false, false, false, false, false, false, false, false, false, false, false, false, false, false, false, false, false, false, false, false] | false => (match decide (i = 4) with | true => [false, false, true, true, false, true, false, false, false, false, false, false, false, false, false, false, false, false, false, false, false, false, false, false, false, false, false, false, false, false, false, false, false, false, false, false, false, false, false, false, false, false, false, false, false, false, false, false, false, false, false, false, false, false, false, false, false, false, false, false, false, false, false, false, false, false, false, false, false, false, false, false, false, false, false, false, false, false, false, false] | false => [])), fun i => .done, fun i => none, fun i => false, fun i => [], fun i => false, fun i => none, fun i => none⟩
def τ_s_SameDisks : Env := Env.of [(2, (.int .i64)), (3, (.int .i64)), (4, .bool), (9, .str), (22, (.sl (.sl (.int .u8)))), (28, (.sl (.pair (.int .i64) (.pair (.sl (.int .u8)) .unit)))), (30, (.pair (.sl (.sl (.int .u8))) (.pair (.sl (.pair (.int .i64) (.pair (.sl (.int .u8)) .unit))) .unit))), (34, (.sl (.int .u8))), (120, (.pair (.int .i64) (.pair (.sl (.int .u8)) .unit)))] [] []

theorem ct_s_SameDisks (a : (List (List (Int))) × (List ((Int) × (List (Int)) × Unit)) × Unit) (b : (List (List (Int))) × (List ((Int) × (List (Int)) × Unit)) × Unit) : Ct pg 42 [.dat (.pair (.sl (.sl (.int .u8))) (.pair (.sl (.pair (.int .i64) (.pair (.sl (.int .u8)) .unit))) .unit)) a, .dat (.pair (.sl (.sl (.int .u8))) (.pair (.sl (.pair (.int .i64) (.pair (.sl (.int .u8)) .unit))) .unit)) b] ⟨[Q_s_SameDisks a b], [⟨.bool, .sh, F_s_SameDisks a b⟩], []⟩ := by
  refine ct_claim (O := O_s_SameDisks) (τ := τ_s_SameDisks) (EnvOk.of (by kernel_rfl) (by kernel_rfl)) (GOk.of (.nil : AllOk pg [])) mixed (Enters.of (by kernel_rfl)) (fn := Go.Proofs.Try.f42) (by kernel_rfl) rfl (by kernel_rfl) ?_
  intro hp hw
  have hq : Q_s_SameDisks a b := hp _ (List.mem_singleton.2 rfl)
  clear hp
  change claim Lg.std Alg.std τ_s_SameDisks (Gam.of []) O_s_SameDisks Go.Proofs.Try.f42 [.dat (.pair (.sl (.sl (.int .u8))) (.pair (.sl (.pair (.int .i64) (.pair (.sl (.int .u8)) .unit))) .unit)) a, .dat (.pair (.sl (.sl (.int .u8))) (.pair (.sl (.pair (.int .i64) (.pair (.sl (.int .u8)) .unit))) .unit)) b] ⟨[Q_s_SameDisks a b], [⟨.bool, .sh, F_s_SameDisks a b⟩], []⟩
  generalize hR0 : F_s_SameDisks a b = R0
  generalize Q_s_SameDisks a b = Q0
  generalize hL : Lg.std = L
  generalize hA : Alg.std = A
  cbv
  subst hL hA
  try dsimp only [Ty.den]
  obtain ⟨a_0, a_1, ⟨⟩⟩ := a
  obtain ⟨b_0, b_1, ⟨⟩⟩ := b
  repeat' (first | intro _ | apply And.intro)
  all_goals first | trivial | ((fail_if_success (refine lp_v (V := Unit) (fun _ => ⟨[], []⟩) (fun _ => True) (fun _ => 0) () ?_ ?_ ?_)); subst hR0; (try simp only [Alg.std, F_s_SameDisks] at *); all_goals grind) | skip
  refine lp_v (V := (Int)) (fun (i : Int) => ⟨[Jk, Jk, .bptr 0 0, .bptr 1 0, Jk, .dat (.int .i64) i, Jk, Jk, Jk, Jk, Jk, Jk, Jk, Jk, Jk, Jk, Jk, Jk, Jk, Jk, Jk, Jk, Jk, Jk, Jk, Jk, Jk, Jk, Jk, Jk, Jk, Jk, Jk, Jk, Jk, Jk, Jk, Jk, Jk, Jk, Jk, Jk, Jk, Jk, Jk, Jk, Jk, Jk, Jk, Jk, Jk, Jk, Jk, Jk, Jk, Jk, Jk, Jk, Jk, Jk, Jk, Jk, Jk, Jk, Jk, Jk, Jk, Jk, Jk, Jk, Jk, Jk, Jk, Jk, Jk, Jk, Jk, Jk, Jk, Jk], [some (.box [.dat (.sl (.sl (.int .u8))) a_0, .dat (.sl (.pair (.int .i64) (.pair (.sl (.int .u8)) .unit))) a_1]), some (.box [.dat (.sl (.sl (.int .u8))) b_0, .dat (.sl (.pair (.int .i64) (.pair (.sl (.int .u8)) .unit))) b_1])]⟩) (fun (i : Int) => a_0.length = b_0.length ∧ 0 ≤ i ∧ i ≤ a_0.length ∧ decide (a_0 = b_0) = decide (a_0.drop i.toNat = b_0.drop i.toNat)) (fun (i : Int) => a_0.length - i.toNat) (0) rfl ?_ ?_
  · subst hR0
    simp only [Alg.std, F_s_SameDisks] at *
    all_goals grind
  rintro i hf I hI
  replace hf : a_0.length = b_0.length ∧ 0 ≤ i ∧ i ≤ a_0.length ∧ decide (a_0 = b_0) = decide (a_0.drop i.toNat = b_0.drop i.toNat) := hf
  generalize hL : Lg.std = L
  generalize hA : Alg.std = A
  cbv
  subst hL hA
  try dsimp only [Ty.den]
  subst hI
  obtain ⟨h1, h2, h3, h4⟩ := hf
  have hl := hw.1.1.1
  have hdc := fun (h : i.toNat < a_0.length) => drop_cons a_0 ([] : List Int) i.toNat h
  have he := fun (h : a_0.length ≤ i.toNat) => drop_nil a_0 i.toNat h
  have hdc2 := fun (h : i.toNat < b_0.length) => drop_cons b_0 ([] : List Int) i.toNat h
  have he2 := fun (h : b_0.length ≤ i.toNat) => drop_nil b_0 i.toNat h
  have hsu : (i + 1).toNat = i.toNat + 1 := by omega
  repeat' (first | intro _ | apply And.intro)
  all_goals first | (with_reducible exact True.intro) | ((fail_if_success (refine lp_v (V := Unit) (fun _ => ⟨[], []⟩) (fun _ => True) (fun _ => 0) () ?_ ?_ ?_)); (try simp only [Lg.std, Alg.std, List.drop_zero, List.take_length] at *); (try refine ⟨_, rfl, ?_, ?_⟩); (all_goals (subst hR0; (try simp only [Lg.std, Alg.std, List.drop_zero, List.take_length, F_s_SameDisks] at *); first | done | (grind)))) | skip
  refine lp_v (V := (Int)) (fun (i : Int) => ⟨[Jk, Jk, .bptr 0 0, .bptr 1 0, Jk, Jk, .dat (.int .i64) i, Jk, Jk, Jk, Jk, Jk, Jk, Jk, Jk, Jk, Jk, Jk, Jk, Jk, Jk, Jk, Jk, Jk, Jk, Jk, Jk, Jk, Jk, Jk, Jk, Jk, Jk, Jk, Jk, Jk, Jk, Jk, Jk, Jk, Jk, Jk, Jk, Jk, Jk, Jk, Jk, Jk, Jk, Jk, Jk, Jk, Jk, Jk, Jk, Jk, Jk, Jk, Jk, Jk, Jk, Jk, Jk, Jk, Jk, Jk, Jk, Jk, Jk, Jk, Jk, Jk, Jk, Jk, Jk, Jk, Jk, Jk, Jk, Jk], [some (.box [.dat (.sl (.sl (.int .u8))) a_0, .dat (.sl (.pair (.int .i64) (.pair (.sl (.int .u8)) .unit))) a_1]), some (.box [.dat (.sl (.sl (.int .u8))) b_0, .dat (.sl (.pair (.int .i64) (.pair (.sl (.int .u8)) .unit))) b_1])]⟩) (fun (i : Int) => a_1.length = b_1.length ∧ 0 ≤ i ∧ i ≤ a_1.length ∧ decide (a_1 = b_1) = decide (a_1.drop i.toNat = b_1.drop i.toNat)) (fun (i : Int) => a_1.length - i.toNat) (0) rfl ?_ ?_
  · subst hR0
    simp only [Alg.std, F_s_SameDisks] at *
    all_goals grind
  rintro i hf I hI
  replace hf : a_1.length = b_1.length ∧ 0 ≤ i ∧ i ≤ a_1.length ∧ decide (a_1 = b_1) = decide (a_1.drop i.toNat = b_1.drop i.toNat) := hf
  generalize hL : Lg.std = L
  generalize hA : Alg.std = A
  cbv
  subst hL hA
  try dsimp only [Ty.den]
  subst hI
  obtain ⟨h1, h2, h3, h4⟩ := hf
  have hl := hw.1.2.1.1
  have hdc := fun (h : i.toNat < a_1.length) => drop_cons a_1 ((0, [], PUnit.unit) : (Int) × (List (Int)) × Unit) i.toNat h
  have he := fun (h : a_1.length ≤ i.toNat) => drop_nil a_1 i.toNat h
  have hdc2 := fun (h : i.toNat < b_1.length) => drop_cons b_1 ((0, [], PUnit.unit) : (Int) × (List (Int)) × Unit) i.toNat h
  have he2 := fun (h : b_1.length ≤ i.toNat) => drop_nil b_1 i.toNat h
  have hsu : (i + 1).toNat = i.toNat + 1 := by omega
  repeat' (first | intro _ | apply And.intro)
  all_goals first | (with_reducible exact True.intro) | ((fail_if_success (refine lp_v (V := Unit) (fun _ => ⟨[], []⟩) (fun _ => True) (fun _ => 0) () ?_ ?_ ?_)); (try simp only [Lg.std, Alg.std, List.drop_zero, List.take_length] at *); (try refine ⟨_, rfl, ?_, ?_⟩); (all_goals (subst hR0; (try simp only [Lg.std, Alg.std, List.drop_zero, List.take_length, F_s_SameDisks] at *); first | done | ((try generalize a_1.getD i.toNat ((0, [], PUnit.unit) : (Int) × (List (Int)) × Unit) = xa at *); (try generalize b_1.getD i.toNat ((0, [], PUnit.unit) : (Int) × (List (Int)) × Unit) = xb at *); (try obtain ⟨xa0, xa1, ⟨⟩⟩ := xa); (try obtain ⟨xb0, xb1, ⟨⟩⟩ := xb); (try dsimp only at *); grind)))) | skip
def con_s_SameDisks : Con := ⟨true, g2 (pD (.pair (.sl (.sl (.int .u8))) (.pair (.sl (.pair (.int .i64) (.pair (.sl (.int .u8)) .unit))) .unit))) (pD (.pair (.sl (.sl (.int .u8))) (.pair (.sl (.pair (.int .i64) (.pair (.sl (.int .u8)) .unit))) .unit))) fun a b => .one ⟨[Q_s_SameDisks a b], [⟨.bool, .sh, F_s_SameDisks a b⟩], []⟩, [], false, 0⟩
theorem ok_s_SameDisks : ConOk pg 42 con_s_SameDisks := ConOk.g2 (Enters.of (by kernel_rfl)) ct_s_SameDisks
end Go.Vee
