/-
  Contracts of functions of the program: what each returns for all arguments that its precondition lets in.
-/
import Derived.Test.YtkbnbjdkdlooiaaGreatDoorVK14
set_option linter.unusedSimpArgs false
set_option linter.unusedVariables false
set_option maxRecDepth 100000
set_option maxHeartbeats 4000000
set_option synthInstance.maxHeartbeats 4000000
set_option synthInstance.maxSize 20000000
namespace Go.Vee
open Go
abbrev SuperT := Int × Int × Int × Int × Int × Int × Bool × List Int × SigT × Unit
abbrev zSig : SigT := ([], ())
abbrev zSuper : SuperT := (0, 0, 0, 0, 0, 0, false, [], zSig, ())
def isPg (n : Int) : Bool := decide (2 ≤ n ∧ n ≤ 63)
def isRt (n : Int) : Bool := decide (n = 0) || isPg n
def gens (n : Int) : Bool := decide (1 ≤ n ∧ n ≤ 60000)
def superFault (p : SuperT) : Int :=
  if ¬ (gens p.1 = true ∧ gens p.2.2.2.2.2.1 = true ∧ isRt p.2.1 = true ∧ isRt p.2.2.1 = true ∧ isRt p.2.2.2.2.1 = true ∧ isPg p.2.2.2.1 = true) then 3
  else if p.2.2.2.2.2.2.2.1.length > 16 then 2
  else if (p.2.2.2.2.2.2.1 = true ∧ p.2.2.2.2.1 = 0) ∨ (p.2.2.2.2.2.2.1 = false ∧ (p.2.2.1 ≠ 0 ∨ p.2.2.2.2.1 ≠ 0 ∨ p.2.2.2.2.2.2.2.1.length > 0)) then 8
  else sigFault p.2.2.2.2.2.2.2.2.1


def F_w_eqSuperResult (a : (Int) × ((Int) × (Int) × (Int) × (Int) × (Int) × (Int) × (Bool) × (List (Int)) × ((List ((List Int) × (Int) × Unit)) × Unit) × Unit) × Unit) (b : (Int) × ((Int) × (Int) × (Int) × (Int) × (Int) × (Int) × (Bool) × (List (Int)) × ((List ((List Int) × (Int) × Unit)) × Unit) × Unit) × Unit) : Bool := decide (a = b)
def Q_w_eqSuperResult (a : (Int) × ((Int) × (Int) × (Int) × (Int) × (Int) × (Int) × (Bool) × (List (Int)) × ((List ((List Int) × (Int) × Unit)) × Unit) × Unit) × Unit) (b : (Int) × ((Int) × (Int) × (Int) × (Int) × (Int) × (Int) × (Bool) × (List (Int)) × ((List ((List Int) × (Int) × Unit)) × Unit) × Unit) × Unit) : Prop := True
def O_w_eqSuperResult : Opt := ⟨fun i => false, fun i => [], fun i => .done, fun i => none, fun i => false, fun i => [], fun i => false, fun i => none⟩
def τ_w_eqSuperResult : Env := Env.of [(2, (.int .i64)), (4, .bool), (32, (.pair (.int .i64) (.pair (.int .i64) (.pair (.int .i64) (.pair (.int .i64) (.pair (.int .i64) (.pair (.int .i64) (.pair .bool (.pair (.sl (.int .u8)) (.pair (.pair (.sl (.pair .str (.pair (.int .i64) .unit))) .unit) .unit)))))))))), (34, (.pair (.int .i64) (.pair (.pair (.int .i64) (.pair (.int .i64) (.pair (.int .i64) (.pair (.int .i64) (.pair (.int .i64) (.pair (.int .i64) (.pair .bool (.pair (.sl (.int .u8)) (.pair (.pair (.sl (.pair .str (.pair (.int .i64) .unit))) .unit) .unit))))))))) .unit)))] [] []

theorem ct_w_eqSuperResult (a : (Int) × ((Int) × (Int) × (Int) × (Int) × (Int) × (Int) × (Bool) × (List (Int)) × ((List ((List Int) × (Int) × Unit)) × Unit) × Unit) × Unit) (b : (Int) × ((Int) × (Int) × (Int) × (Int) × (Int) × (Int) × (Bool) × (List (Int)) × ((List ((List Int) × (Int) × Unit)) × Unit) × Unit) × Unit) : Ct pg 12 [.dat (.pair (.int .i64) (.pair (.pair (.int .i64) (.pair (.int .i64) (.pair (.int .i64) (.pair (.int .i64) (.pair (.int .i64) (.pair (.int .i64) (.pair .bool (.pair (.sl (.int .u8)) (.pair (.pair (.sl (.pair .str (.pair (.int .i64) .unit))) .unit) .unit))))))))) .unit)) a, .dat (.pair (.int .i64) (.pair (.pair (.int .i64) (.pair (.int .i64) (.pair (.int .i64) (.pair (.int .i64) (.pair (.int .i64) (.pair (.int .i64) (.pair .bool (.pair (.sl (.int .u8)) (.pair (.pair (.sl (.pair .str (.pair (.int .i64) .unit))) .unit) .unit))))))))) .unit)) b] ⟨[Q_w_eqSuperResult a b], [⟨.bool, .sh, F_w_eqSuperResult a b⟩], []⟩ := by
  refine ct_claim (O := O_w_eqSuperResult) (τ := τ_w_eqSuperResult) (EnvOk.of (by kernel_rfl) (by kernel_rfl)) (GOk.of (.cons ok_w_eqSuper .nil : AllOk pg [(37, con_w_eqSuper)])) mixed (Enters.of (by kernel_rfl)) (fn := Go.Proofs.Tryz.f12) (by kernel_rfl) rfl (by kernel_rfl) ?_
  intro hp hw
  have hq : Q_w_eqSuperResult a b := hp _ (List.mem_singleton.2 rfl)
  clear hp
  change claim Lg.std Alg.std τ_w_eqSuperResult (Gam.of [(37, ⟨true, g2 (pD (.pair (.int .i64) (.pair (.int .i64) (.pair (.int .i64) (.pair (.int .i64) (.pair (.int .i64) (.pair (.int .i64) (.pair .bool (.pair (.sl (.int .u8)) (.pair (.pair (.sl (.pair .str (.pair (.int .i64) .unit))) .unit) .unit)))))))))) (pD (.pair (.int .i64) (.pair (.int .i64) (.pair (.int .i64) (.pair (.int .i64) (.pair (.int .i64) (.pair (.int .i64) (.pair .bool (.pair (.sl (.int .u8)) (.pair (.pair (.sl (.pair .str (.pair (.int .i64) .unit))) .unit) .unit)))))))))) fun a b => .one ⟨[Q_w_eqSuper a b], [⟨.bool, .sh, F_w_eqSuper a b⟩], []⟩, [], false, 0⟩)]) O_w_eqSuperResult Go.Proofs.Tryz.f12 [.dat (.pair (.int .i64) (.pair (.pair (.int .i64) (.pair (.int .i64) (.pair (.int .i64) (.pair (.int .i64) (.pair (.int .i64) (.pair (.int .i64) (.pair .bool (.pair (.sl (.int .u8)) (.pair (.pair (.sl (.pair .str (.pair (.int .i64) .unit))) .unit) .unit))))))))) .unit)) a, .dat (.pair (.int .i64) (.pair (.pair (.int .i64) (.pair (.int .i64) (.pair (.int .i64) (.pair (.int .i64) (.pair (.int .i64) (.pair (.int .i64) (.pair .bool (.pair (.sl (.int .u8)) (.pair (.pair (.sl (.pair .str (.pair (.int .i64) .unit))) .unit) .unit))))))))) .unit)) b] ⟨[Q_w_eqSuperResult a b], [⟨.bool, .sh, F_w_eqSuperResult a b⟩], []⟩
  generalize hg_F_w_eqSuper : F_w_eqSuper = g_F_w_eqSuper
  generalize hg_Q_w_eqSuper : Q_w_eqSuper = g_Q_w_eqSuper
  generalize hR0 : F_w_eqSuperResult a b = R0
  generalize Q_w_eqSuperResult a b = Q0
  generalize hL : Lg.std = L
  generalize hA : Alg.std = A
  cbv
  subst hL hA
  try dsimp only [Ty.den]
  obtain ⟨f0, f1, ⟨⟩⟩ := a
  obtain ⟨g0, g1, ⟨⟩⟩ := b
  subst hR0 hg_F_w_eqSuper hg_Q_w_eqSuper
  simp only [Q_w_eqSuperResult] at hq
  simp only [Lg.std, Alg.std, List.drop_zero, List.take_length, F_w_eqSuper, Q_w_eqSuper, F_w_eqSuperResult]
  all_goals grind
def con_w_eqSuperResult : Con := ⟨true, g2 (pD (.pair (.int .i64) (.pair (.pair (.int .i64) (.pair (.int .i64) (.pair (.int .i64) (.pair (.int .i64) (.pair (.int .i64) (.pair (.int .i64) (.pair .bool (.pair (.sl (.int .u8)) (.pair (.pair (.sl (.pair .str (.pair (.int .i64) .unit))) .unit) .unit))))))))) .unit))) (pD (.pair (.int .i64) (.pair (.pair (.int .i64) (.pair (.int .i64) (.pair (.int .i64) (.pair (.int .i64) (.pair (.int .i64) (.pair (.int .i64) (.pair .bool (.pair (.sl (.int .u8)) (.pair (.pair (.sl (.pair .str (.pair (.int .i64) .unit))) .unit) .unit))))))))) .unit))) fun a b => .one ⟨[Q_w_eqSuperResult a b], [⟨.bool, .sh, F_w_eqSuperResult a b⟩], []⟩, [], false, 0⟩
theorem ok_w_eqSuperResult : ConOk pg 12 con_w_eqSuperResult := ConOk.g2 (Enters.of (by kernel_rfl)) ct_w_eqSuperResult

def F_i_SuperFault_1 (n : Int) : Bool := isRt n
def Q_i_SuperFault_1 (n : Int) : Prop := True
def O_i_SuperFault_1 : Opt := ⟨fun i => false, fun i => [], fun i => .done, fun i => none, fun i => false, fun i => [], fun i => false, fun i => none⟩
def τ_i_SuperFault_1 : Env := Env.of [(2, (.int .i64)), (4, .bool)] [] []

theorem ct_i_SuperFault_1 (n : Int) : Ct pg 155 [.dat (.int .i64) n] ⟨[Q_i_SuperFault_1 n], [⟨.bool, .sh, F_i_SuperFault_1 n⟩], []⟩ := by
  refine ct_claim (O := O_i_SuperFault_1) (τ := τ_i_SuperFault_1) (EnvOk.of (by kernel_rfl) (by kernel_rfl)) (GOk.of (.cons ok_i_isPage .nil : AllOk pg [(156, con_i_isPage)])) mixed (Enters.of (by kernel_rfl)) (fn := Go.Proofs.Tryz.f155) (by kernel_rfl) rfl (by kernel_rfl) ?_
  intro hp hw
  have hq : Q_i_SuperFault_1 n := hp _ (List.mem_singleton.2 rfl)
  clear hp
  change claim Lg.std Alg.std τ_i_SuperFault_1 (Gam.of [(156, ⟨true, g1 (pD (.int .i64)) fun n => .one ⟨[Q_i_isPage n], [⟨.bool, .sh, F_i_isPage n⟩], []⟩, [], false, 0⟩)]) O_i_SuperFault_1 Go.Proofs.Tryz.f155 [.dat (.int .i64) n] ⟨[Q_i_SuperFault_1 n], [⟨.bool, .sh, F_i_SuperFault_1 n⟩], []⟩
  generalize hg_F_i_isPage : F_i_isPage = g_F_i_isPage
  generalize hg_Q_i_isPage : Q_i_isPage = g_Q_i_isPage
  generalize hR0 : F_i_SuperFault_1 n = R0
  generalize Q_i_SuperFault_1 n = Q0
  generalize hL : Lg.std = L
  generalize hA : Alg.std = A
  cbv
  subst hL hA
  try dsimp only [Ty.den]
  subst hR0 hg_F_i_isPage hg_Q_i_isPage
  simp only [Q_i_SuperFault_1] at hq
  simp only [Lg.std, Alg.std, List.drop_zero, List.take_length, F_i_isPage, Q_i_isPage, F_i_SuperFault_1]
  all_goals grind [isRt, isPg]
def con_i_SuperFault_1 : Con := ⟨true, g1 (pD (.int .i64)) fun n => .one ⟨[Q_i_SuperFault_1 n], [⟨.bool, .sh, F_i_SuperFault_1 n⟩], []⟩, [], false, 0⟩
theorem ok_i_SuperFault_1 : ConOk pg 155 con_i_SuperFault_1 := ConOk.g1 (Enters.of (by kernel_rfl)) ct_i_SuperFault_1

def F_s_l18Page (n : Int) : Bool := isRt n
def Q_s_l18Page (n : Int) : Prop := True
def O_s_l18Page : Opt := ⟨fun i => false, fun i => [], fun i => .done, fun i => none, fun i => false, fun i => [], fun i => false, fun i => none⟩
def τ_s_l18Page : Env := Env.of [(2, (.int .i64)), (4, .bool)] [] []

theorem ct_s_l18Page (n : Int) : Ct pg 143 [.dat (.int .i64) n] ⟨[Q_s_l18Page n], [⟨.bool, .sh, F_s_l18Page n⟩], []⟩ := by
  refine ct_claim (O := O_s_l18Page) (τ := τ_s_l18Page) (EnvOk.of (by kernel_rfl) (by kernel_rfl)) (GOk.of (.cons ok_s_l15Id .nil : AllOk pg [(144, con_s_l15Id)])) mixed (Enters.of (by kernel_rfl)) (fn := Go.Proofs.Tryz.f143) (by kernel_rfl) rfl (by kernel_rfl) ?_
  intro hp hw
  have hq : Q_s_l18Page n := hp _ (List.mem_singleton.2 rfl)
  clear hp
  change claim Lg.std Alg.std τ_s_l18Page (Gam.of [(144, ⟨true, g1 (pD (.int .i64)) fun n => .one ⟨[Q_s_l15Id n], [⟨.bool, .sh, F_s_l15Id n⟩], []⟩, [], false, 0⟩)]) O_s_l18Page Go.Proofs.Tryz.f143 [.dat (.int .i64) n] ⟨[Q_s_l18Page n], [⟨.bool, .sh, F_s_l18Page n⟩], []⟩
  generalize hg_F_s_l15Id : F_s_l15Id = g_F_s_l15Id
  generalize hg_Q_s_l15Id : Q_s_l15Id = g_Q_s_l15Id
  generalize hR0 : F_s_l18Page n = R0
  generalize Q_s_l18Page n = Q0
  generalize hL : Lg.std = L
  generalize hA : Alg.std = A
  cbv
  subst hL hA
  try dsimp only [Ty.den]
  subst hR0 hg_F_s_l15Id hg_Q_s_l15Id
  simp only [Q_s_l18Page] at hq
  simp only [Lg.std, Alg.std, List.drop_zero, List.take_length, F_s_l15Id, Q_s_l15Id, F_s_l18Page]
  all_goals grind [isRt, isPg]
def con_s_l18Page : Con := ⟨true, g1 (pD (.int .i64)) fun n => .one ⟨[Q_s_l18Page n], [⟨.bool, .sh, F_s_l18Page n⟩], []⟩, [], false, 0⟩
theorem ok_s_l18Page : ConOk pg 143 con_s_l18Page := ConOk.g1 (Enters.of (by kernel_rfl)) ct_s_l18Page

def F_i_SuperFault (p : (Int) × (Int) × (Int) × (Int) × (Int) × (Int) × (Bool) × (List (Int)) × ((List ((List Int) × (Int) × Unit)) × Unit) × Unit) : Int := superFault p
def Q_i_SuperFault (p : (Int) × (Int) × (Int) × (Int) × (Int) × (Int) × (Bool) × (List (Int)) × ((List ((List Int) × (Int) × Unit)) × Unit) × Unit) : Prop := True
def O_i_SuperFault : Opt := ⟨fun i => false, fun i => [], fun i => .done, fun i => none, fun i => false, fun i => [], fun i => false, fun i => none⟩
def τ_i_SuperFault : Env := Env.of [(2, (.int .i64)), (3, (.int .i64)), (4, .bool), (5, (.int .u8)), (27, (.sl (.int .u8))), (30, (.pair (.sl (.pair .str (.pair (.int .i64) .unit))) .unit)), (32, (.pair (.int .i64) (.pair (.int .i64) (.pair (.int .i64) (.pair (.int .i64) (.pair (.int .i64) (.pair (.int .i64) (.pair .bool (.pair (.sl (.int .u8)) (.pair (.pair (.sl (.pair .str (.pair (.int .i64) .unit))) .unit) .unit))))))))))] [] []

theorem ct_i_SuperFault (p : (Int) × (Int) × (Int) × (Int) × (Int) × (Int) × (Bool) × (List (Int)) × ((List ((List Int) × (Int) × Unit)) × Unit) × Unit) : Ct pg 87 [.dat (.pair (.int .i64) (.pair (.int .i64) (.pair (.int .i64) (.pair (.int .i64) (.pair (.int .i64) (.pair (.int .i64) (.pair .bool (.pair (.sl (.int .u8)) (.pair (.pair (.sl (.pair .str (.pair (.int .i64) .unit))) .unit) .unit))))))))) p] ⟨[Q_i_SuperFault p], [⟨(.int .i64), .sh, F_i_SuperFault p⟩], []⟩ := by
  refine ct_claim (O := O_i_SuperFault) (τ := τ_i_SuperFault) (EnvOk.of (by kernel_rfl) (by kernel_rfl)) (GOk.of (.cons ok_i_within (.cons ok_i_isPage (.cons ok_i_SignatureFault (.cons ok_i_SuperFault_1 .nil))) : AllOk pg [(102, con_i_within), (156, con_i_isPage), (69, con_i_SignatureFault), (155, con_i_SuperFault_1)])) mixed (Enters.of (by kernel_rfl)) (fn := Go.Proofs.Tryz.f87) (by kernel_rfl) rfl (by kernel_rfl) ?_
  intro hp hw
  have hq : Q_i_SuperFault p := hp _ (List.mem_singleton.2 rfl)
  clear hp
  change claim Lg.std Alg.std τ_i_SuperFault (Gam.of [(102, ⟨true, g3 (pD (.int .i64)) (pD (.int .i64)) (pD (.int .i64)) fun n lo hi => .one ⟨[Q_i_within n lo hi], [⟨.bool, .sh, F_i_within n lo hi⟩], []⟩, [], false, 0⟩), (156, ⟨true, g1 (pD (.int .i64)) fun n => .one ⟨[Q_i_isPage n], [⟨.bool, .sh, F_i_isPage n⟩], []⟩, [], false, 0⟩), (69, ⟨true, g1 (pD (.pair (.sl (.pair .str (.pair (.int .i64) .unit))) .unit)) fun s => .one ⟨[Q_i_SignatureFault s], [⟨(.int .i64), .sh, F_i_SignatureFault s⟩], []⟩, [], false, 0⟩), (155, ⟨true, g1 (pD (.int .i64)) fun n => .one ⟨[Q_i_SuperFault_1 n], [⟨.bool, .sh, F_i_SuperFault_1 n⟩], []⟩, [], false, 0⟩)]) O_i_SuperFault Go.Proofs.Tryz.f87 [.dat (.pair (.int .i64) (.pair (.int .i64) (.pair (.int .i64) (.pair (.int .i64) (.pair (.int .i64) (.pair (.int .i64) (.pair .bool (.pair (.sl (.int .u8)) (.pair (.pair (.sl (.pair .str (.pair (.int .i64) .unit))) .unit) .unit))))))))) p] ⟨[Q_i_SuperFault p], [⟨(.int .i64), .sh, F_i_SuperFault p⟩], []⟩
  generalize hg_F_i_within : F_i_within = g_F_i_within
  generalize hg_Q_i_within : Q_i_within = g_Q_i_within
  generalize hg_F_i_isPage : F_i_isPage = g_F_i_isPage
  generalize hg_Q_i_isPage : Q_i_isPage = g_Q_i_isPage
  generalize hg_F_i_SignatureFault : F_i_SignatureFault = g_F_i_SignatureFault
  generalize hg_Q_i_SignatureFault : Q_i_SignatureFault = g_Q_i_SignatureFault
  generalize hg_F_i_SuperFault_1 : F_i_SuperFault_1 = g_F_i_SuperFault_1
  generalize hg_Q_i_SuperFault_1 : Q_i_SuperFault_1 = g_Q_i_SuperFault_1
  generalize hR0 : F_i_SuperFault p = R0
  generalize Q_i_SuperFault p = Q0
  generalize hL : Lg.std = L
  generalize hA : Alg.std = A
  cbv
  subst hL hA
  try dsimp only [Ty.den]
  obtain ⟨p_0, p_1, p_2, p_3, p_4, p_5, p_6, p_7, ⟨p_8_0, ⟨⟩⟩, ⟨⟩⟩ := p
  have hl7 : p_7.length ≤ 9223372036854775807 := hw.1.2.2.2.2.2.2.2.1.1
  subst hR0 hg_F_i_within hg_Q_i_within hg_F_i_isPage hg_Q_i_isPage hg_F_i_SignatureFault hg_Q_i_SignatureFault hg_F_i_SuperFault_1 hg_Q_i_SuperFault_1
  simp only [Lg.std, Alg.std, List.drop_zero, List.take_length, F_i_within, F_i_isPage, F_i_SignatureFault, F_i_SuperFault_1, Q_i_within, Q_i_isPage, Q_i_SignatureFault, Q_i_SuperFault_1, F_i_SuperFault, superFault]
  repeat' (first | intro _ | apply And.intro)
  all_goals grind [isRt, isPg, gens]
def con_i_SuperFault : Con := ⟨true, g1 (pD (.pair (.int .i64) (.pair (.int .i64) (.pair (.int .i64) (.pair (.int .i64) (.pair (.int .i64) (.pair (.int .i64) (.pair .bool (.pair (.sl (.int .u8)) (.pair (.pair (.sl (.pair .str (.pair (.int .i64) .unit))) .unit) .unit)))))))))) fun p => .one ⟨[Q_i_SuperFault p], [⟨(.int .i64), .sh, F_i_SuperFault p⟩], []⟩, [], false, 0⟩
theorem ok_i_SuperFault : ConOk pg 87 con_i_SuperFault := ConOk.g1 (Enters.of (by kernel_rfl)) ct_i_SuperFault

def F_s_SuperFault (p : (Int) × (Int) × (Int) × (Int) × (Int) × (Int) × (Bool) × (List (Int)) × ((List ((List Int) × (Int) × Unit)) × Unit) × Unit) : Int := superFault p
def Q_s_SuperFault (p : (Int) × (Int) × (Int) × (Int) × (Int) × (Int) × (Bool) × (List (Int)) × ((List ((List Int) × (Int) × Unit)) × Unit) × Unit) : Prop := True
def O_s_SuperFault : Opt := ⟨fun i => false, fun i => [], fun i => .done, fun i => none, fun i => false, fun i => [], fun i => false, fun i => none⟩
def τ_s_SuperFault : Env := Env.of [(2, (.int .i64)), (3, (.int .i64)), (4, .bool), (5, (.int .u8)), (27, (.sl (.int .u8))), (30, (.pair (.sl (.pair .str (.pair (.int .i64) .unit))) .unit)), (32, (.pair (.int .i64) (.pair (.int .i64) (.pair (.int .i64) (.pair (.int .i64) (.pair (.int .i64) (.pair (.int .i64) (.pair .bool (.pair (.sl (.int .u8)) (.pair (.pair (.sl (.pair .str (.pair (.int .i64) .unit))) .unit) .unit))))))))))] [] []

theorem ct_s_SuperFault (p : (Int) × (Int) × (Int) × (Int) × (Int) × (Int) × (Bool) × (List (Int)) × ((List ((List Int) × (Int) × Unit)) × Unit) × Unit) : Ct pg 82 [.dat (.pair (.int .i64) (.pair (.int .i64) (.pair (.int .i64) (.pair (.int .i64) (.pair (.int .i64) (.pair (.int .i64) (.pair .bool (.pair (.sl (.int .u8)) (.pair (.pair (.sl (.pair .str (.pair (.int .i64) .unit))) .unit) .unit))))))))) p] ⟨[Q_s_SuperFault p], [⟨(.int .i64), .sh, F_s_SuperFault p⟩], []⟩ := by
  refine ct_claim (O := O_s_SuperFault) (τ := τ_s_SuperFault) (EnvOk.of (by kernel_rfl) (by kernel_rfl)) (GOk.of (.cons ok_s_l1In (.cons ok_s_l15Id (.cons ok_s_SignatureFault (.cons ok_s_l18Page .nil))) : AllOk pg [(100, con_s_l1In), (144, con_s_l15Id), (66, con_s_SignatureFault), (143, con_s_l18Page)])) mixed (Enters.of (by kernel_rfl)) (fn := Go.Proofs.Tryz.f82) (by kernel_rfl) rfl (by kernel_rfl) ?_
  intro hp hw
  have hq : Q_s_SuperFault p := hp _ (List.mem_singleton.2 rfl)
  clear hp
  change claim Lg.std Alg.std τ_s_SuperFault (Gam.of [(100, ⟨true, g3 (pD (.int .i64)) (pD (.int .i64)) (pD (.int .i64)) fun n lo hi => .one ⟨[Q_s_l1In n lo hi], [⟨.bool, .sh, F_s_l1In n lo hi⟩], []⟩, [], false, 0⟩), (144, ⟨true, g1 (pD (.int .i64)) fun n => .one ⟨[Q_s_l15Id n], [⟨.bool, .sh, F_s_l15Id n⟩], []⟩, [], false, 0⟩), (66, ⟨true, g1 (pD (.pair (.sl (.pair .str (.pair (.int .i64) .unit))) .unit)) fun s => .one ⟨[Q_s_SignatureFault s], [⟨(.int .i64), .sh, F_s_SignatureFault s⟩], []⟩, [], false, 0⟩), (143, ⟨true, g1 (pD (.int .i64)) fun n => .one ⟨[Q_s_l18Page n], [⟨.bool, .sh, F_s_l18Page n⟩], []⟩, [], false, 0⟩)]) O_s_SuperFault Go.Proofs.Tryz.f82 [.dat (.pair (.int .i64) (.pair (.int .i64) (.pair (.int .i64) (.pair (.int .i64) (.pair (.int .i64) (.pair (.int .i64) (.pair .bool (.pair (.sl (.int .u8)) (.pair (.pair (.sl (.pair .str (.pair (.int .i64) .unit))) .unit) .unit))))))))) p] ⟨[Q_s_SuperFault p], [⟨(.int .i64), .sh, F_s_SuperFault p⟩], []⟩
  generalize hg_F_s_l1In : F_s_l1In = g_F_s_l1In
  generalize hg_Q_s_l1In : Q_s_l1In = g_Q_s_l1In
  generalize hg_F_s_l15Id : F_s_l15Id = g_F_s_l15Id
  generalize hg_Q_s_l15Id : Q_s_l15Id = g_Q_s_l15Id
  generalize hg_F_s_SignatureFault : F_s_SignatureFault = g_F_s_SignatureFault
  generalize hg_Q_s_SignatureFault : Q_s_SignatureFault = g_Q_s_SignatureFault
  generalize hg_F_s_l18Page : F_s_l18Page = g_F_s_l18Page
  generalize hg_Q_s_l18Page : Q_s_l18Page = g_Q_s_l18Page
  generalize hR0 : F_s_SuperFault p = R0
  generalize Q_s_SuperFault p = Q0
  generalize hL : Lg.std = L
  generalize hA : Alg.std = A
  cbv
  subst hL hA
  try dsimp only [Ty.den]
  obtain ⟨p_0, p_1, p_2, p_3, p_4, p_5, p_6, p_7, ⟨p_8_0, ⟨⟩⟩, ⟨⟩⟩ := p
  have hl7 : p_7.length ≤ 9223372036854775807 := hw.1.2.2.2.2.2.2.2.1.1
  subst hR0 hg_F_s_l1In hg_Q_s_l1In hg_F_s_l15Id hg_Q_s_l15Id hg_F_s_SignatureFault hg_Q_s_SignatureFault hg_F_s_l18Page hg_Q_s_l18Page
  simp only [Lg.std, Alg.std, List.drop_zero, List.take_length, F_s_l1In, F_s_l15Id, F_s_SignatureFault, F_s_l18Page, Q_s_l1In, Q_s_l15Id, Q_s_SignatureFault, Q_s_l18Page, F_s_SuperFault, superFault]
  repeat' (first | intro _ | apply And.intro)
  all_goals grind [isRt, isPg, gens]
def con_s_SuperFault : Con := ⟨true, g1 (pD (.pair (.int .i64) (.pair (.int .i64) (.pair (.int .i64) (.pair (.int .i64) (.pair (.int .i64) (.pair (.int .i64) (.pair .bool (.pair (.sl (.int .u8)) (.pair (.pair (.sl (.pair .str (.pair (.int .i64) .unit))) .unit) .unit)))))))))) fun p => .one ⟨[Q_s_SuperFault p], [⟨(.int .i64), .sh, F_s_SuperFault p⟩], []⟩, [], false, 0⟩
theorem ok_s_SuperFault : ConOk pg 82 con_s_SuperFault := ConOk.g1 (Enters.of (by kernel_rfl)) ct_s_SuperFault
end Go.Vee
