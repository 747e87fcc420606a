/-
  Contracts of functions of the program: what each returns for all arguments that its precondition lets in.
-/
import Derived.Test.YtjlojjkfdidkiaaVS
set_option linter.unusedSimpArgs false
set_option linter.unusedVariables false
set_option maxRecDepth 100000
set_option maxHeartbeats 4000000
set_option synthInstance.maxHeartbeats 4000000
set_option synthInstance.maxSize 20000000
namespace Go.Vee
open Go
def F_s_l1In (n : Int) (lo : Int) (hi : Int) : Bool := decide (lo ≤ n ∧ n ≤ hi)
def Q_s_l1In (n : Int) (lo : Int) (hi : Int) : Prop := True
def O_s_l1In : Opt := ⟨fun i => false, fun i => [], fun i => .done, fun i => none, fun i => false, fun i => [], fun i => false, fun i => none, fun i => none⟩
def τ_s_l1In : Env := Env.of [(2, (.int .i64)), (4, .bool)] [] []

theorem ct_s_l1In (n : Int) (lo : Int) (hi : Int) : Ct pg 65 [.dat (.int .i64) n, .dat (.int .i64) lo, .dat (.int .i64) hi] ⟨[Q_s_l1In n lo hi], [⟨.bool, .sh, F_s_l1In n lo hi⟩], []⟩ := by
  refine ct_claim (O := O_s_l1In) (τ := τ_s_l1In) (EnvOk.of (by kernel_rfl) (by kernel_rfl)) (GOk.of (.nil : AllOk pg [])) mixed (Enters.of (by kernel_rfl)) (fn := Go.Proofs.Try.f65) (by kernel_rfl) rfl (by kernel_rfl) ?_
  intro hp hw
  have hq : Q_s_l1In n lo hi := hp _ (List.mem_singleton.2 rfl)
  clear hp
  change claim Lg.std Alg.std τ_s_l1In (Gam.of []) O_s_l1In Go.Proofs.Try.f65 [.dat (.int .i64) n, .dat (.int .i64) lo, .dat (.int .i64) hi] ⟨[Q_s_l1In n lo hi], [⟨.bool, .sh, F_s_l1In n lo hi⟩], []⟩
  generalize hR0 : F_s_l1In n lo hi = R0
  generalize Q_s_l1In n lo hi = Q0
  generalize hL : Lg.std = L
  generalize hA : Alg.std = A
  cbv
  subst hL hA
  try dsimp only [Ty.den]
  subst hR0
  simp only [Q_s_l1In] at hq
  simp only [Lg.std, Alg.std, List.drop_zero, List.take_length, F_s_l1In]
  all_goals grind
def con_s_l1In : Con := ⟨true, g3 (pD (.int .i64)) (pD (.int .i64)) (pD (.int .i64)) fun n lo hi => .one ⟨[Q_s_l1In n lo hi], [⟨.bool, .sh, F_s_l1In n lo hi⟩], []⟩, [], false, 0⟩
theorem ok_s_l1In : ConOk pg 65 con_s_l1In := ConOk.g3 (Enters.of (by kernel_rfl)) ct_s_l1In

def F_i_within (n : Int) (lo : Int) (hi : Int) : Bool := decide (lo ≤ n ∧ n ≤ hi)
def Q_i_within (n : Int) (lo : Int) (hi : Int) : Prop := True
def O_i_within : Opt := ⟨fun i => false, fun i => [], fun i => .done, fun i => none, fun i => false, fun i => [], fun i => false, fun i => none, fun i => none⟩
def τ_i_within : Env := Env.of [(2, (.int .i64)), (4, .bool)] [] []

theorem ct_i_within (n : Int) (lo : Int) (hi : Int) : Ct pg 67 [.dat (.int .i64) n, .dat (.int .i64) lo, .dat (.int .i64) hi] ⟨[Q_i_within n lo hi], [⟨.bool, .sh, F_i_within n lo hi⟩], []⟩ := by
  refine ct_claim (O := O_i_within) (τ := τ_i_within) (EnvOk.of (by kernel_rfl) (by kernel_rfl)) (GOk.of (.nil : AllOk pg [])) mixed (Enters.of (by kernel_rfl)) (fn := Go.Proofs.Try.f67) (by kernel_rfl) rfl (by kernel_rfl) ?_
  intro hp hw
  have hq : Q_i_within n lo hi := hp _ (List.mem_singleton.2 rfl)
  clear hp
  change claim Lg.std Alg.std τ_i_within (Gam.of []) O_i_within Go.Proofs.Try.f67 [.dat (.int .i64) n, .dat (.int .i64) lo, .dat (.int .i64) hi] ⟨[Q_i_within n lo hi], [⟨.bool, .sh, F_i_within n lo hi⟩], []⟩
  generalize hR0 : F_i_within n lo hi = R0
  generalize Q_i_within n lo hi = Q0
  generalize hL : Lg.std = L
  generalize hA : Alg.std = A
  cbv
  subst hL hA
  try dsimp only [Ty.den]
  subst hR0
  simp only [Q_i_within] at hq
  simp only [Lg.std, Alg.std, List.drop_zero, List.take_length, F_i_within]
  all_goals grind
def con_i_within : Con := ⟨true, g3 (pD (.int .i64)) (pD (.int .i64)) (pD (.int .i64)) fun n lo hi => .one ⟨[Q_i_within n lo hi], [⟨.bool, .sh, F_i_within n lo hi⟩], []⟩, [], false, 0⟩
theorem ok_i_within : ConOk pg 67 con_i_within := ConOk.g3 (Enters.of (by kernel_rfl)) ct_i_within
end Go.Vee
