/-
  Contracts of functions of the program: what each returns for all arguments that its precondition lets in.
-/
import Derived.Test.YtjlojjkfdidkiaaVK3
set_option linter.unusedSimpArgs false
set_option linter.unusedVariables false
set_option maxRecDepth 100000
set_option maxHeartbeats 4000000
set_option synthInstance.maxHeartbeats 4000000
set_option synthInstance.maxSize 20000000
namespace Go.Vee
open Go
def F_s_l1Copy (data : List (Int)) : List (Int) := data
def Q_s_l1Copy (data : List (Int)) : Prop := data.length ≤ 1048576
def O_s_l1Copy : Opt := ⟨fun i => false, fun i => [], fun i => .done, fun i => none, fun i => false, fun i => [], fun i => false, fun i => none, fun i => none⟩
def τ_s_l1Copy : Env := Env.of [(2, (.int .i64)), (34, (.sl (.int .u8)))] [] []

theorem ct_s_l1Copy (data : List (Int)) : Ct pg 77 [.dat (.sl (.int .u8)) data] ⟨[Q_s_l1Copy data], [⟨(.sl (.int .u8)), (.ow .sh), F_s_l1Copy data⟩], []⟩ := by
  refine ct_claim (O := O_s_l1Copy) (τ := τ_s_l1Copy) (EnvOk.of (by kernel_rfl) (by kernel_rfl)) (GOk.of (.nil : AllOk pg [])) mixed (Enters.of (by kernel_rfl)) (fn := Go.Proofs.Try.f77) (by kernel_rfl) rfl (by kernel_rfl) ?_
  intro hp hw
  have hq : Q_s_l1Copy data := hp _ (List.mem_singleton.2 rfl)
  clear hp
  change claim Lg.std Alg.std τ_s_l1Copy (Gam.of []) O_s_l1Copy Go.Proofs.Try.f77 [.dat (.sl (.int .u8)) data] ⟨[Q_s_l1Copy data], [⟨(.sl (.int .u8)), (.ow .sh), F_s_l1Copy data⟩], []⟩
  generalize hR0 : F_s_l1Copy data = R0
  generalize Q_s_l1Copy data = Q0
  generalize hL : Lg.std = L
  generalize hA : Alg.std = A
  cbv
  subst hL hA
  try dsimp only [Ty.den]
  subst hR0
  simp only [Q_s_l1Copy] at hq
  simp only [Lg.std, Alg.std, List.drop_zero, List.take_length, F_s_l1Copy]
  all_goals grind
def con_s_l1Copy : Con := ⟨true, g1 (pD (.sl (.int .u8))) fun data => .one ⟨[Q_s_l1Copy data], [⟨(.sl (.int .u8)), (.ow .sh), F_s_l1Copy data⟩], []⟩, [], false, 0⟩
theorem ok_s_l1Copy : ConOk pg 77 con_s_l1Copy := ConOk.g1 (Enters.of (by kernel_rfl)) ct_s_l1Copy

def F_sl_Clone_byte (s : List (Int)) : List (Int) := s
def Q_sl_Clone_byte (s : List (Int)) : Prop := s.length ≤ 1048576
def O_sl_Clone_byte : Opt := ⟨fun i => false, fun i => [], fun i => .done, fun i => none, fun i => false, fun i => [], fun i => false, fun i => none, fun i => none⟩
def τ_sl_Clone_byte : Env := Env.of [(2, (.int .i64)), (4, .bool), (34, (.sl (.int .u8)))] [] []

theorem ct_sl_Clone_byte (s : List (Int)) : Ct pg 84 [.dat (.sl (.int .u8)) s] ⟨[Q_sl_Clone_byte s], [⟨(.sl (.int .u8)), (.ow .sh), F_sl_Clone_byte s⟩], []⟩ := by
  refine ct_claim (O := O_sl_Clone_byte) (τ := τ_sl_Clone_byte) (EnvOk.of (by kernel_rfl) (by kernel_rfl)) (GOk.of (.nil : AllOk pg [])) mixed (Enters.of (by kernel_rfl)) (fn := Go.Proofs.Try.f84) (by kernel_rfl) rfl (by kernel_rfl) ?_
  intro hp hw
  have hq : Q_sl_Clone_byte s := hp _ (List.mem_singleton.2 rfl)
  clear hp
  change claim Lg.std Alg.std τ_sl_Clone_byte (Gam.of []) O_sl_Clone_byte Go.Proofs.Try.f84 [.dat (.sl (.int .u8)) s] ⟨[Q_sl_Clone_byte s], [⟨(.sl (.int .u8)), (.ow .sh), F_sl_Clone_byte s⟩], []⟩
  generalize hR0 : F_sl_Clone_byte s = R0
  generalize Q_sl_Clone_byte s = Q0
  generalize hL : Lg.std = L
  generalize hA : Alg.std = A
  cbv
  subst hL hA
  try dsimp only [Ty.den]
  subst hR0
  simp only [Q_sl_Clone_byte] at hq
  simp only [Lg.std, Alg.std, List.drop_zero, List.take_length, F_sl_Clone_byte]
  all_goals grind
def con_sl_Clone_byte : Con := ⟨true, g1 (pD (.sl (.int .u8))) fun s => .one ⟨[Q_sl_Clone_byte s], [⟨(.sl (.int .u8)), (.ow .sh), F_sl_Clone_byte s⟩], []⟩, [], false, 0⟩
theorem ok_sl_Clone_byte : ConOk pg 84 con_sl_Clone_byte := ConOk.g1 (Enters.of (by kernel_rfl)) ct_sl_Clone_byte
end Go.Vee
