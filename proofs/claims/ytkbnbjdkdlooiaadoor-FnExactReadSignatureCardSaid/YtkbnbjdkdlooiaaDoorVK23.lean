/-
  Contracts of functions of the program: what each returns for all arguments that its precondition lets in.
-/
import Derived.Test.YtkbnbjdkdlooiaaDoorVK22
set_option linter.unusedSimpArgs false
set_option linter.unusedVariables false
set_option maxRecDepth 100000
set_option maxHeartbeats 4000000
set_option synthInstance.maxHeartbeats 4000000
set_option synthInstance.maxSize 20000
namespace Go.Vee
open Go
abbrev SuperT := Int × Int × Int × Int × Int × Int × Bool × List Int × SigT × Unit
abbrev zSig : SigT := ([], ())
abbrev zSuper : SuperT := (0, 0, 0, 0, 0, 0, false, [], zSig, ())
def isPg (n : Int) : Bool := decide (2 ≤ n ∧ n ≤ 63)
def isRt (n : Int) : Bool := decide (n = 0) || isPg n
def gens (n : Int) : Bool := decide (1 ≤ n ∧ n ≤ 60000)
def superFault (p : SuperT) : Int :=
  if ¬ (gens p.1 = true ∧ gens p.2.2.2.2.2.1 = true ∧ isRt p.2.1 = true ∧ isRt p.2.2.1 = true ∧ isRt p.2.2.2.2.1 = true ∧ isPg p.2.2.2.1 = true) then 3
  else if p.2.2.2.2.2.2.2.1.length > 16 then 2
  else if (p.2.2.2.2.2.2.1 = true ∧ p.2.2.2.2.1 = 0) ∨ (p.2.2.2.2.2.2.1 = false ∧ (p.2.2.1 ≠ 0 ∨ p.2.2.2.2.1 ≠ 0 ∨ p.2.2.2.2.2.2.2.1.length > 0)) then 8
  else sigFault p.2.2.2.2.2.2.2.2.1

def F_w_eqSignatureResult (a : (Int) × ((List ((List Int) × (Int) × Unit)) × Unit) × Unit) (b : (Int) × ((List ((List Int) × (Int) × Unit)) × Unit) × Unit) : Bool := decide (a = b)
def Q_w_eqSignatureResult (a : (Int) × ((List ((List Int) × (Int) × Unit)) × Unit) × Unit) (b : (Int) × ((List ((List Int) × (Int) × Unit)) × Unit) × Unit) : Prop := True
def O_w_eqSignatureResult : Opt := ⟨fun i => false, fun i => [], fun i => .done, fun i => none, fun i => false, fun i => []⟩
def τ_w_eqSignatureResult : Env := Env.of [(2, (.int .i64)), (4, .bool), (32, (.pair (.sl (.pair .str (.pair (.int .i64) .unit))) .unit)), (39, (.pair (.int .i64) (.pair (.pair (.sl (.pair .str (.pair (.int .i64) .unit))) .unit) .unit)))] [] []

theorem ct_w_eqSignatureResult (a : (Int) × ((List ((List Int) × (Int) × Unit)) × Unit) × Unit) (b : (Int) × ((List ((List Int) × (Int) × Unit)) × Unit) × Unit) : Ct pg 17 [.dat (.pair (.int .i64) (.pair (.pair (.sl (.pair .str (.pair (.int .i64) .unit))) .unit) .unit)) a, .dat (.pair (.int .i64) (.pair (.pair (.sl (.pair .str (.pair (.int .i64) .unit))) .unit) .unit)) b] ⟨[Q_w_eqSignatureResult a b], [⟨.bool, .sh, F_w_eqSignatureResult a b⟩], []⟩ := by
  refine ct_claim (O := O_w_eqSignatureResult) (τ := τ_w_eqSignatureResult) (EnvOk.of (by kernel_rfl) (by kernel_rfl)) (GOk.of (.cons ok_w_eqSignature .nil : AllOk pg [(27, con_w_eqSignature)])) mixed (Enters.of (by kernel_rfl)) (fn := Go.Proofs.Tryd.f17) (by kernel_rfl) rfl (by kernel_rfl) ?_
  intro hp hw
  have hq : Q_w_eqSignatureResult a b := hp _ (List.mem_singleton.2 rfl)
  clear hp
  change claim Lg.std Alg.std τ_w_eqSignatureResult (Gam.of [(27, ⟨true, g2 (pD (.pair (.sl (.pair .str (.pair (.int .i64) .unit))) .unit)) (pD (.pair (.sl (.pair .str (.pair (.int .i64) .unit))) .unit)) fun a b => ⟨[Q_w_eqSignature a b], [⟨.bool, .sh, F_w_eqSignature a b⟩], []⟩, [], false, 0⟩)]) O_w_eqSignatureResult Go.Proofs.Tryd.f17 [.dat (.pair (.int .i64) (.pair (.pair (.sl (.pair .str (.pair (.int .i64) .unit))) .unit) .unit)) a, .dat (.pair (.int .i64) (.pair (.pair (.sl (.pair .str (.pair (.int .i64) .unit))) .unit) .unit)) b] ⟨[Q_w_eqSignatureResult a b], [⟨.bool, .sh, F_w_eqSignatureResult a b⟩], []⟩
  generalize hg_F_w_eqSignature : F_w_eqSignature = g_F_w_eqSignature
  generalize hg_Q_w_eqSignature : Q_w_eqSignature = g_Q_w_eqSignature
  generalize hR0 : F_w_eqSignatureResult a b = R0
  generalize Q_w_eqSignatureResult a b = Q0
  generalize hL : Lg.std = L
  generalize hA : Alg.std = A
  cbv
  subst hL hA
  try dsimp only [Ty.den]
  obtain ⟨f0, f1, ⟨⟩⟩ := a
  obtain ⟨g0, g1, ⟨⟩⟩ := b
  subst hR0 hg_F_w_eqSignature hg_Q_w_eqSignature
  simp only [Q_w_eqSignatureResult] at hq
  simp only [Lg.std, Alg.std, List.drop_zero, List.take_length, F_w_eqSignature, Q_w_eqSignature, F_w_eqSignatureResult]
  all_goals grind
def con_w_eqSignatureResult : Con := ⟨true, g2 (pD (.pair (.int .i64) (.pair (.pair (.sl (.pair .str (.pair (.int .i64) .unit))) .unit) .unit))) (pD (.pair (.int .i64) (.pair (.pair (.sl (.pair .str (.pair (.int .i64) .unit))) .unit) .unit))) fun a b => ⟨[Q_w_eqSignatureResult a b], [⟨.bool, .sh, F_w_eqSignatureResult a b⟩], []⟩, [], false, 0⟩
theorem ok_w_eqSignatureResult : ConOk pg 17 con_w_eqSignatureResult := ConOk.g2 (Enters.of (by kernel_rfl)) ct_w_eqSignatureResult
end Go.Vee
