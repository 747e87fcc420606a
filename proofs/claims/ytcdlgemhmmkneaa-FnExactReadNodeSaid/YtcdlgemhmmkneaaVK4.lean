/-
  Contracts of functions of the program: what each returns for all arguments that its precondition lets in.
-/
import Derived.Test.YtcdlgemhmmkneaaVK3
set_option linter.unusedSimpArgs false
set_option linter.unusedVariables false
set_option maxRecDepth 100000
set_option maxHeartbeats 4000000
set_option synthInstance.maxHeartbeats 4000000
set_option synthInstance.maxSize 20000
namespace Go.Vee
open Go
def F_i_pair (n : Int) : List (Int) := pairOf n
def Q_i_pair (n : Int) : Prop := True
def O_i_pair : Opt := ⟨fun i => false, fun i => [], fun i => .done, fun i => none, fun i => false, fun i => []⟩
def τ_i_pair : Env := Env.of [(2, (.int .i64)), (5, (.int .u8)), (22, (.sl (.int .u8))), (171, (.int .u64))] [] []

theorem ct_i_pair (n : Int) : Ct pg 100 [.dat (.int .i64) n] ⟨[Q_i_pair n], [⟨(.sl (.int .u8)), (.ow .sh), F_i_pair n⟩], []⟩ := by
  refine ct_claim (O := O_i_pair) (τ := τ_i_pair) (EnvOk.of (by kernel_rfl) (by kernel_rfl)) (GOk.of (.nil : AllOk pg [])) mixed (Enters.of (by kernel_rfl)) (fn := Go.Proofs.Try.f100) (by kernel_rfl) rfl (by kernel_rfl) ?_
  intro hp hw
  have hq : Q_i_pair n := hp _ (List.mem_singleton.2 rfl)
  clear hp
  change claim Lg.std Alg.std τ_i_pair (Gam.of []) O_i_pair Go.Proofs.Try.f100 [.dat (.int .i64) n] ⟨[Q_i_pair n], [⟨(.sl (.int .u8)), (.ow .sh), F_i_pair n⟩], []⟩
  generalize hR0 : F_i_pair n = R0
  generalize Q_i_pair n = Q0
  generalize hL : Lg.std = L
  generalize hA : Alg.std = A
  cbv
  subst hL hA
  try dsimp only [Ty.den]
  have hn := i64w hw.1
  subst hR0
  simp [Lg.std, Alg.std, F_i_pair, pairOf, wrap8, fdiv256]
def con_i_pair : Con := ⟨true, g1 (pD (.int .i64)) fun n => ⟨[Q_i_pair n], [⟨(.sl (.int .u8)), (.ow .sh), F_i_pair n⟩], []⟩, []⟩
theorem ok_i_pair : ConOk pg 100 con_i_pair := ConOk.g1 (Enters.of (by kernel_rfl)) ct_i_pair
end Go.Vee
