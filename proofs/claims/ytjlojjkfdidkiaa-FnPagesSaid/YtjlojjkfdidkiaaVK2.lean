/-
  Contracts of functions of the program: what each returns for all arguments that its precondition lets in.
-/
import Derived.Test.YtjlojjkfdidkiaaVK1
set_option linter.unusedSimpArgs false
set_option linter.unusedVariables false
set_option maxRecDepth 100000
set_option maxHeartbeats 4000000
set_option synthInstance.maxHeartbeats 4000000
set_option synthInstance.maxSize 20000000
namespace Go.Vee
open Go
def F_b_Equal (a : List (Int)) (b : List (Int)) : Bool := decide (a = b)
def Q_b_Equal (a : List (Int)) (b : List (Int)) : Prop := True
def O_b_Equal : Opt := ⟨fun i => false, fun i => [], fun i => .done, fun i => none, fun i => false, fun i => [], fun i => false, fun i => none, fun i => none⟩
def τ_b_Equal : Env := Env.of [(4, .bool), (9, .str), (34, (.sl (.int .u8)))] [] []

theorem ct_b_Equal (a : List (Int)) (b : List (Int)) : Ct pg 81 [.dat (.sl (.int .u8)) a, .dat (.sl (.int .u8)) b] ⟨[Q_b_Equal a b], [⟨.bool, .sh, F_b_Equal a b⟩], []⟩ := by
  refine ct_claim (O := O_b_Equal) (τ := τ_b_Equal) (EnvOk.of (by kernel_rfl) (by kernel_rfl)) (GOk.of (.nil : AllOk pg [])) mixed (Enters.of (by kernel_rfl)) (fn := Go.Proofs.Try.f81) (by kernel_rfl) rfl (by kernel_rfl) ?_
  intro hp hw
  have hq : Q_b_Equal a b := hp _ (List.mem_singleton.2 rfl)
  clear hp
  change claim Lg.std Alg.std τ_b_Equal (Gam.of []) O_b_Equal Go.Proofs.Try.f81 [.dat (.sl (.int .u8)) a, .dat (.sl (.int .u8)) b] ⟨[Q_b_Equal a b], [⟨.bool, .sh, F_b_Equal a b⟩], []⟩
  generalize hR0 : F_b_Equal a b = R0
  generalize Q_b_Equal a b = Q0
  generalize hL : Lg.std = L
  generalize hA : Alg.std = A
  cbv
  subst hL hA
  try dsimp only [Ty.den]
  subst hR0
  simp only [Q_b_Equal] at hq
  simp only [Lg.std, Alg.std, List.drop_zero, List.take_length, F_b_Equal]
  all_goals grind
def con_b_Equal : Con := ⟨true, g2 (pD (.sl (.int .u8))) (pD (.sl (.int .u8))) fun a b => .one ⟨[Q_b_Equal a b], [⟨.bool, .sh, F_b_Equal a b⟩], []⟩, [], false, 0⟩
theorem ok_b_Equal : ConOk pg 81 con_b_Equal := ConOk.g2 (Enters.of (by kernel_rfl)) ct_b_Equal
end Go.Vee
