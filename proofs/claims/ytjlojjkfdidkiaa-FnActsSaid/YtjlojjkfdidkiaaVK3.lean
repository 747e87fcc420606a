/-
  Contracts of functions of the program: what each returns for all arguments that its precondition lets in.
-/
import Derived.Test.YtjlojjkfdidkiaaVK2
set_option linter.unusedSimpArgs false
set_option linter.unusedVariables false
set_option maxRecDepth 100000
set_option maxHeartbeats 4000000
set_option synthInstance.maxHeartbeats 4000000
set_option synthInstance.maxSize 20000000
namespace Go.Vee
open Go
def F_sl_EqualFunc_Lbyte__b_Equal (a : List (List (Int))) (b : List (List (Int))) (u : Unit) : Bool := decide (a = b)
def Q_sl_EqualFunc_Lbyte__b_Equal (a : List (List (Int))) (b : List (List (Int))) (u : Unit) : Prop := True
def O_sl_EqualFunc_Lbyte__b_Equal : Opt := ⟨fun i => false, fun i => (match decide (i = 4) with | true => [false, true, true, false, false, false, false, false, false, false, false, false, false, false, false, true, true, true, false, false, false, false, false, false, false, false, false, false, false, false, false, false] | false => []), fun i => .done, fun i => none, fun i => false, fun i => [], fun i => false, fun i => none, fun i => none⟩
def τ_sl_EqualFunc_Lbyte__b_Equal : Env := Env.of [(3, (.int .i64)), (4, .bool), (22, (.sl (.sl (.int .u8)))), (34, (.sl (.int .u8)))] [] []

theorem ct_sl_EqualFunc_Lbyte__b_Equal (a : List (List (Int))) (b : List (List (Int))) (u : Unit) : Ct pg 98 [.dat (.sl (.sl (.int .u8))) a, .dat (.sl (.sl (.int .u8))) b, .clo 81 []] ⟨[Q_sl_EqualFunc_Lbyte__b_Equal a b u], [⟨.bool, .sh, F_sl_EqualFunc_Lbyte__b_Equal a b u⟩], []⟩ := by
  refine ct_claim (O := O_sl_EqualFunc_Lbyte__b_Equal) (τ := τ_sl_EqualFunc_Lbyte__b_Equal) (EnvOk.of (by kernel_rfl) (by kernel_rfl)) (GOk.of (.cons ok_b_Equal .nil : AllOk pg [(81, con_b_Equal)])) mixed (Enters.of (by kernel_rfl)) (fn := Go.Proofs.Try.f98) (by kernel_rfl) rfl (by kernel_rfl) ?_
  intro hp hw
  have hq : Q_sl_EqualFunc_Lbyte__b_Equal a b u := hp _ (List.mem_singleton.2 rfl)
  clear hp
  change claim Lg.std Alg.std τ_sl_EqualFunc_Lbyte__b_Equal (Gam.of [(81, con_b_Equal)]) O_sl_EqualFunc_Lbyte__b_Equal Go.Proofs.Try.f98 [.dat (.sl (.sl (.int .u8))) a, .dat (.sl (.sl (.int .u8))) b, .clo 81 []] ⟨[Q_sl_EqualFunc_Lbyte__b_Equal a b u], [⟨.bool, .sh, F_sl_EqualFunc_Lbyte__b_Equal a b u⟩], []⟩
  delta con_b_Equal
  generalize hg_F_b_Equal : F_b_Equal = g_F_b_Equal
  generalize hg_Q_b_Equal : Q_b_Equal = g_Q_b_Equal
  generalize hR0 : F_sl_EqualFunc_Lbyte__b_Equal a b u = R0
  generalize Q_sl_EqualFunc_Lbyte__b_Equal a b u = Q0
  generalize hL : Lg.std = L
  generalize hA : Alg.std = A
  cbv
  subst hL hA
  try dsimp only [Ty.den]
  refine ⟨fun hne => ?_, fun heq => ?_⟩
  · subst hR0 hg_F_b_Equal hg_Q_b_Equal
    simp only [Alg.std, F_b_Equal, Q_b_Equal, F_sl_EqualFunc_Lbyte__b_Equal] at *
    all_goals grind
  refine lp_v (V := (Int) × (Int)) (fun ((i, M) : (Int) × (Int)) => ⟨[Jk, .dat (.sl (.sl (.int .u8))) b, .clo 81 [], Jk, Jk, Jk, Jk, Jk, Jk, Jk, Jk, Jk, Jk, Jk, Jk, .dat (.sl (.sl (.int .u8))) a, .dat (.int .i64) M, .dat (.int .i64) i, Jk, Jk, Jk, Jk, Jk, Jk, Jk, Jk, Jk, Jk, Jk, Jk, Jk, Jk], []⟩) (fun ((i, M) : (Int) × (Int)) => M = a.length ∧ a.length = b.length ∧ 0 ≤ i ∧ i ≤ a.length ∧ decide (a = b) = decide (a.drop i.toNat = b.drop i.toNat)) (fun ((i, M) : (Int) × (Int)) => a.length - i.toNat) (0, _) rfl ?_ ?_
  · simp [Alg.std] at heq ⊢; omega
  rintro ⟨i, M⟩ hf I hI
  replace hf : M = a.length ∧ a.length = b.length ∧ 0 ≤ i ∧ i ≤ a.length ∧ decide (a = b) = decide (a.drop i.toNat = b.drop i.toNat) := hf
  generalize hL : Lg.std = L
  generalize hA : Alg.std = A
  cbv
  subst hL hA
  try dsimp only [Ty.den]
  subst hI
  simp only [Lg.std, Alg.std, List.drop_zero, List.take_length]
  obtain ⟨h1, h2, h3, h4, h5⟩ := hf
  have hl := hw.1.1
  have hdc := fun (h : i.toNat < a.length) => drop_cons a ([] : List (Int)) i.toNat h
  have he := fun (h : a.length ≤ i.toNat) => drop_nil a i.toNat h
  have hdc2 := fun (h : i.toNat < b.length) => drop_cons b ([] : List (Int)) i.toNat h
  have he2 := fun (h : b.length ≤ i.toNat) => drop_nil b i.toNat h
  repeat' (first | intro _ | apply And.intro)
  all_goals (try refine ⟨(_, _), rfl, ?_, ?_⟩)
  all_goals subst hR0 hg_F_b_Equal hg_Q_b_Equal
  all_goals (try simp only [F_b_Equal, Q_b_Equal, F_sl_EqualFunc_Lbyte__b_Equal] at *)
  all_goals grind
def con_sl_EqualFunc_Lbyte__b_Equal : Con := ⟨true, g3 (pD (.sl (.sl (.int .u8)))) (pD (.sl (.sl (.int .u8)))) (pC0 81) fun a b u => .one ⟨[Q_sl_EqualFunc_Lbyte__b_Equal a b u], [⟨.bool, .sh, F_sl_EqualFunc_Lbyte__b_Equal a b u⟩], []⟩, [], false, 0⟩
theorem ok_sl_EqualFunc_Lbyte__b_Equal : ConOk pg 98 con_sl_EqualFunc_Lbyte__b_Equal := ConOk.g3 (Enters.of (by kernel_rfl)) ct_sl_EqualFunc_Lbyte__b_Equal
end Go.Vee
