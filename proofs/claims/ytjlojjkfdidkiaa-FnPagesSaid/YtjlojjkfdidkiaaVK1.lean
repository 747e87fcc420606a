/-
  Contracts of functions of the program: what each returns for all arguments that its precondition lets in.
-/
import Derived.Test.YtjlojjkfdidkiaaVS
set_option linter.unusedSimpArgs false
set_option linter.unusedVariables false
set_option maxRecDepth 100000
set_option maxHeartbeats 4000000
set_option synthInstance.maxHeartbeats 4000000
set_option synthInstance.maxSize 20000000
namespace Go.Vee
open Go
def F_s_l1In (n : Int) (lo : Int) (hi : Int) : Bool := decide (lo ≤ n ∧ n ≤ hi)
def Q_s_l1In (n : Int) (lo : Int) (hi : Int) : Prop := True
def O_s_l1In : Opt := ⟨fun i => false, fun i => [], fun i => .done, fun i => none, fun i => false, fun i => [], fun i => false, fun i => none, fun i => none⟩
def τ_s_l1In : Env := Env.of [(2, (.int .i64)), (4, .bool)] [] []

theorem ct_s_l1In (n : Int) (lo : Int) (hi : Int) : Ct pg 65 [.dat (.int .i64) n, .dat (.int .i64) lo, .dat (.int .i64) hi] ⟨[Q_s_l1In n lo hi], [⟨.bool, .sh, F_s_l1In n lo hi⟩], []⟩ := by
  refine ct_claim (O := O_s_l1In) (τ := τ_s_l1In) (EnvOk.of (by kernel_rfl) (by kernel_rfl)) (GOk.of (.nil : AllOk pg [])) mixed (Enters.of (by kernel_rfl)) (fn := Go.Proofs.Try.f65) (by kernel_rfl) rfl (by kernel_rfl) ?_
  intro hp hw
  have hq : Q_s_l1In n lo hi := hp _ (List.mem_singleton.2 rfl)
  clear hp
  change claim Lg.std Alg.std τ_s_l1In (Gam.of []) O_s_l1In Go.Proofs.Try.f65 [.dat (.int .i64) n, .dat (.int .i64) lo, .dat (.int .i64) hi] ⟨[Q_s_l1In n lo hi], [⟨.bool, .sh, F_s_l1In n lo hi⟩], []⟩
  generalize hR0 : F_s_l1In n lo hi = R0
  generalize Q_s_l1In n lo hi = Q0
  generalize hL : Lg.std = L
  generalize hA : Alg.std = A
  cbv
  subst hL hA
  try dsimp only [Ty.den]
  subst hR0
  simp only [Q_s_l1In] at hq
  simp only [Lg.std, Alg.std, List.drop_zero, List.take_length, F_s_l1In]
  all_goals grind
def con_s_l1In : Con := ⟨true, g3 (pD (.int .i64)) (pD (.int .i64)) (pD (.int .i64)) fun n lo hi => .one ⟨[Q_s_l1In n lo hi], [⟨.bool, .sh, F_s_l1In n lo hi⟩], []⟩, [], false, 0⟩
theorem ok_s_l1In : ConOk pg 65 con_s_l1In := ConOk.g3 (Enters.of (by kernel_rfl)) ct_s_l1In

def F_i_within (n : Int) (lo : Int) (hi : Int) : Bool := decide (lo ≤ n ∧ n ≤ hi)
def Q_i_within (n : Int) (lo : Int) (hi : Int) : Prop := True
def O_i_within : Opt := ⟨fun i => false, fun i => [], fun i => .done, fun i => none, fun i => false, fun i => [], fun i => false, fun i => none, fun i => none⟩
def τ_i_within : Env := Env.of [(2, (.int .i64)), (4, .bool)] [] []

theorem ct_i_within (n : Int) (lo : Int) (hi : Int) : Ct pg 67 [.dat (.int .i64) n, .dat (.int .i64) lo, .dat (.int .i64) hi] ⟨[Q_i_within n lo hi], [⟨.bool, .sh, F_i_within n lo hi⟩], []⟩ := by
  refine ct_claim (O := O_i_within) (τ := τ_i_within) (EnvOk.of (by kernel_rfl) (by kernel_rfl)) (GOk.of (.nil : AllOk pg [])) mixed (Enters.of (by kernel_rfl)) (fn := Go.Proofs.Try.f67) (by kernel_rfl) rfl (by kernel_rfl) ?_
  intro hp hw
  have hq : Q_i_within n lo hi := hp _ (List.mem_singleton.2 rfl)
  clear hp
  change claim Lg.std Alg.std τ_i_within (Gam.of []) O_i_within Go.Proofs.Try.f67 [.dat (.int .i64) n, .dat (.int .i64) lo, .dat (.int .i64) hi] ⟨[Q_i_within n lo hi], [⟨.bool, .sh, F_i_within n lo hi⟩], []⟩
  generalize hR0 : F_i_within n lo hi = R0
  generalize Q_i_within n lo hi = Q0
  generalize hL : Lg.std = L
  generalize hA : Alg.std = A
  cbv
  subst hL hA
  try dsimp only [Ty.den]
  subst hR0
  simp only [Q_i_within] at hq
  simp only [Lg.std, Alg.std, List.drop_zero, List.take_length, F_i_within]
  all_goals grind
def con_i_within : Con := ⟨true, g3 (pD (.int .i64)) (pD (.int .i64)) (pD (.int .i64)) fun n lo hi => .one ⟨[Q_i_within n lo hi], [⟨.bool, .sh, F_i_within n lo hi⟩], []⟩, [], false, 0⟩
theorem ok_i_within : ConOk pg 67 con_i_within := ConOk.g3 (Enters.of (by kernel_rfl)) ct_i_within

def F_s_l15Id (n : Int) : Bool := decide (2 ≤ n ∧ n ≤ 63)
def Q_s_l15Id (n : Int) : Prop := True
def O_s_l15Id : Opt := ⟨fun i => false, fun i => [], fun i => .done, fun i => none, fun i => false, fun i => [], fun i => false, fun i => none, fun i => none⟩
def τ_s_l15Id : Env := Env.of [(2, (.int .i64)), (4, .bool)] [] []

theorem ct_s_l15Id (n : Int) : Ct pg 85 [.dat (.int .i64) n] ⟨[Q_s_l15Id n], [⟨.bool, .sh, F_s_l15Id n⟩], []⟩ := by
  refine ct_claim (O := O_s_l15Id) (τ := τ_s_l15Id) (EnvOk.of (by kernel_rfl) (by kernel_rfl)) (GOk.of (.cons ok_s_l1In .nil : AllOk pg [(65, con_s_l1In)])) mixed (Enters.of (by kernel_rfl)) (fn := Go.Proofs.Try.f85) (by kernel_rfl) rfl (by kernel_rfl) ?_
  intro hp hw
  have hq : Q_s_l15Id n := hp _ (List.mem_singleton.2 rfl)
  clear hp
  change claim Lg.std Alg.std τ_s_l15Id (Gam.of [(65, con_s_l1In)]) O_s_l15Id Go.Proofs.Try.f85 [.dat (.int .i64) n] ⟨[Q_s_l15Id n], [⟨.bool, .sh, F_s_l15Id n⟩], []⟩
  delta con_s_l1In
  generalize hg_F_s_l1In : F_s_l1In = g_F_s_l1In
  generalize hg_Q_s_l1In : Q_s_l1In = g_Q_s_l1In
  generalize hR0 : F_s_l15Id n = R0
  generalize Q_s_l15Id n = Q0
  generalize hL : Lg.std = L
  generalize hA : Alg.std = A
  cbv
  subst hL hA
  try dsimp only [Ty.den]
  subst hR0 hg_F_s_l1In hg_Q_s_l1In
  simp only [Q_s_l15Id] at hq
  simp only [Lg.std, Alg.std, List.drop_zero, List.take_length, F_s_l1In, Q_s_l1In, F_s_l15Id]
  all_goals grind
def con_s_l15Id : Con := ⟨true, g1 (pD (.int .i64)) fun n => .one ⟨[Q_s_l15Id n], [⟨.bool, .sh, F_s_l15Id n⟩], []⟩, [], false, 0⟩
theorem ok_s_l15Id : ConOk pg 85 con_s_l15Id := ConOk.g1 (Enters.of (by kernel_rfl)) ct_s_l15Id

def F_i_isPage (n : Int) : Bool := decide (2 ≤ n ∧ n ≤ 63)
def Q_i_isPage (n : Int) : Prop := True
def O_i_isPage : Opt := ⟨fun i => false, fun i => [], fun i => .done, fun i => none, fun i => false, fun i => [], fun i => false, fun i => none, fun i => none⟩
def τ_i_isPage : Env := Env.of [(2, (.int .i64)), (4, .bool)] [] []

theorem ct_i_isPage (n : Int) : Ct pg 80 [.dat (.int .i64) n] ⟨[Q_i_isPage n], [⟨.bool, .sh, F_i_isPage n⟩], []⟩ := by
  refine ct_claim (O := O_i_isPage) (τ := τ_i_isPage) (EnvOk.of (by kernel_rfl) (by kernel_rfl)) (GOk.of (.cons ok_i_within .nil : AllOk pg [(67, con_i_within)])) mixed (Enters.of (by kernel_rfl)) (fn := Go.Proofs.Try.f80) (by kernel_rfl) rfl (by kernel_rfl) ?_
  intro hp hw
  have hq : Q_i_isPage n := hp _ (List.mem_singleton.2 rfl)
  clear hp
  change claim Lg.std Alg.std τ_i_isPage (Gam.of [(67, con_i_within)]) O_i_isPage Go.Proofs.Try.f80 [.dat (.int .i64) n] ⟨[Q_i_isPage n], [⟨.bool, .sh, F_i_isPage n⟩], []⟩
  delta con_i_within
  generalize hg_F_i_within : F_i_within = g_F_i_within
  generalize hg_Q_i_within : Q_i_within = g_Q_i_within
  generalize hR0 : F_i_isPage n = R0
  generalize Q_i_isPage n = Q0
  generalize hL : Lg.std = L
  generalize hA : Alg.std = A
  cbv
  subst hL hA
  try dsimp only [Ty.den]
  subst hR0 hg_F_i_within hg_Q_i_within
  simp only [Q_i_isPage] at hq
  simp only [Lg.std, Alg.std, List.drop_zero, List.take_length, F_i_within, Q_i_within, F_i_isPage]
  all_goals grind
def con_i_isPage : Con := ⟨true, g1 (pD (.int .i64)) fun n => .one ⟨[Q_i_isPage n], [⟨.bool, .sh, F_i_isPage n⟩], []⟩, [], false, 0⟩
theorem ok_i_isPage : ConOk pg 80 con_i_isPage := ConOk.g1 (Enters.of (by kernel_rfl)) ct_i_isPage

def F_s_PageFault (p : (Int) × (Int) × (List (Int)) × Unit) : Int := pageFault p
def Q_s_PageFault (p : (Int) × (Int) × (List (Int)) × Unit) : Prop := True
def O_s_PageFault : Opt := ⟨fun i => false, fun i => [], fun i => .done, fun i => none, fun i => false, fun i => [], fun i => false, fun i => none, fun i => none⟩
def τ_s_PageFault : Env := Env.of [(2, (.int .i64)), (3, (.int .i64)), (4, .bool), (34, (.sl (.int .u8))), (54, (.pair (.int .i64) (.pair (.int .i64) (.pair (.sl (.int .u8)) .unit))))] [] []

theorem ct_s_PageFault (p : (Int) × (Int) × (List (Int)) × Unit) : Ct pg 72 [.dat (.pair (.int .i64) (.pair (.int .i64) (.pair (.sl (.int .u8)) .unit))) p] ⟨[Q_s_PageFault p], [⟨(.int .i64), .sh, F_s_PageFault p⟩], []⟩ := by
  refine ct_claim (O := O_s_PageFault) (τ := τ_s_PageFault) (EnvOk.of (by kernel_rfl) (by kernel_rfl)) (GOk.of (.cons ok_s_l1In (.cons ok_s_l15Id .nil) : AllOk pg [(65, con_s_l1In), (85, con_s_l15Id)])) mixed (Enters.of (by kernel_rfl)) (fn := Go.Proofs.Try.f72) (by kernel_rfl) rfl (by kernel_rfl) ?_
  intro hp hw
  have hq : Q_s_PageFault p := hp _ (List.mem_singleton.2 rfl)
  clear hp
  change claim Lg.std Alg.std τ_s_PageFault (Gam.of [(65, con_s_l1In), (85, con_s_l15Id)]) O_s_PageFault Go.Proofs.Try.f72 [.dat (.pair (.int .i64) (.pair (.int .i64) (.pair (.sl (.int .u8)) .unit))) p] ⟨[Q_s_PageFault p], [⟨(.int .i64), .sh, F_s_PageFault p⟩], []⟩
  delta con_s_l1In con_s_l15Id
  generalize hg_F_s_l1In : F_s_l1In = g_F_s_l1In
  generalize hg_Q_s_l1In : Q_s_l1In = g_Q_s_l1In
  generalize hg_F_s_l15Id : F_s_l15Id = g_F_s_l15Id
  generalize hg_Q_s_l15Id : Q_s_l15Id = g_Q_s_l15Id
  generalize hR0 : F_s_PageFault p = R0
  generalize Q_s_PageFault p = Q0
  generalize hL : Lg.std = L
  generalize hA : Alg.std = A
  cbv
  subst hL hA
  try dsimp only [Ty.den]
  subst hR0 hg_F_s_l1In hg_Q_s_l1In hg_F_s_l15Id hg_Q_s_l15Id
  simp only [Q_s_PageFault] at hq
  simp only [Lg.std, Alg.std, List.drop_zero, List.take_length, F_s_l1In, F_s_l15Id, Q_s_l1In, Q_s_l15Id, F_s_PageFault]
  all_goals grind [pageFault]
def con_s_PageFault : Con := ⟨true, g1 (pD (.pair (.int .i64) (.pair (.int .i64) (.pair (.sl (.int .u8)) .unit)))) fun p => .one ⟨[Q_s_PageFault p], [⟨(.int .i64), .sh, F_s_PageFault p⟩], []⟩, [], false, 0⟩
theorem ok_s_PageFault : ConOk pg 72 con_s_PageFault := ConOk.g1 (Enters.of (by kernel_rfl)) ct_s_PageFault

def F_i_PageFault (p : (Int) × (Int) × (List (Int)) × Unit) : Int := pageFault p
def Q_i_PageFault (p : (Int) × (Int) × (List (Int)) × Unit) : Prop := True
def O_i_PageFault : Opt := ⟨fun i => false, fun i => [], fun i => .done, fun i => none, fun i => false, fun i => [], fun i => false, fun i => none, fun i => none⟩
def τ_i_PageFault : Env := Env.of [(2, (.int .i64)), (3, (.int .i64)), (4, .bool), (34, (.sl (.int .u8))), (54, (.pair (.int .i64) (.pair (.int .i64) (.pair (.sl (.int .u8)) .unit))))] [] []

theorem ct_i_PageFault (p : (Int) × (Int) × (List (Int)) × Unit) : Ct pg 34 [.dat (.pair (.int .i64) (.pair (.int .i64) (.pair (.sl (.int .u8)) .unit))) p] ⟨[Q_i_PageFault p], [⟨(.int .i64), .sh, F_i_PageFault p⟩], []⟩ := by
  refine ct_claim (O := O_i_PageFault) (τ := τ_i_PageFault) (EnvOk.of (by kernel_rfl) (by kernel_rfl)) (GOk.of (.cons ok_i_within (.cons ok_i_isPage .nil) : AllOk pg [(67, con_i_within), (80, con_i_isPage)])) mixed (Enters.of (by kernel_rfl)) (fn := Go.Proofs.Try.f34) (by kernel_rfl) rfl (by kernel_rfl) ?_
  intro hp hw
  have hq : Q_i_PageFault p := hp _ (List.mem_singleton.2 rfl)
  clear hp
  change claim Lg.std Alg.std τ_i_PageFault (Gam.of [(67, con_i_within), (80, con_i_isPage)]) O_i_PageFault Go.Proofs.Try.f34 [.dat (.pair (.int .i64) (.pair (.int .i64) (.pair (.sl (.int .u8)) .unit))) p] ⟨[Q_i_PageFault p], [⟨(.int .i64), .sh, F_i_PageFault p⟩], []⟩
  delta con_i_within con_i_isPage
  generalize hg_F_i_within : F_i_within = g_F_i_within
  generalize hg_Q_i_within : Q_i_within = g_Q_i_within
  generalize hg_F_i_isPage : F_i_isPage = g_F_i_isPage
  generalize hg_Q_i_isPage : Q_i_isPage = g_Q_i_isPage
  generalize hR0 : F_i_PageFault p = R0
  generalize Q_i_PageFault p = Q0
  generalize hL : Lg.std = L
  generalize hA : Alg.std = A
  cbv
  subst hL hA
  try dsimp only [Ty.den]
  subst hR0 hg_F_i_within hg_Q_i_within hg_F_i_isPage hg_Q_i_isPage
  simp only [Q_i_PageFault] at hq
  simp only [Lg.std, Alg.std, List.drop_zero, List.take_length, F_i_within, F_i_isPage, Q_i_within, Q_i_isPage, F_i_PageFault]
  all_goals grind [pageFault]
def con_i_PageFault : Con := ⟨true, g1 (pD (.pair (.int .i64) (.pair (.int .i64) (.pair (.sl (.int .u8)) .unit)))) fun p => .one ⟨[Q_i_PageFault p], [⟨(.int .i64), .sh, F_i_PageFault p⟩], []⟩, [], false, 0⟩
theorem ok_i_PageFault : ConOk pg 34 con_i_PageFault := ConOk.g1 (Enters.of (by kernel_rfl)) ct_i_PageFault

def F_s_l1Sum (a : List (Int)) : Int := sumOf 29 a
def Q_s_l1Sum (a : List (Int)) : Prop := True
def O_s_l1Sum : Opt := ⟨fun i => false, fun i => (match decide (i = 3) with | true => [true, false, false, true, true, false, false, false, false, false, false, false, false, false, false, false, false, false, false, false, false, false] | false => []), fun i => .done, fun i => none, fun i => false, fun i => [], fun i => false, fun i => none, fun i => none⟩
def τ_s_l1Sum : Env := Env.of [(2, (.int .i64)), (3, (.int .i64)), (4, .bool), (5, (.int .u8)), (34, (.sl (.int .u8)))] [] []

theorem ct_s_l1Sum (a : List (Int)) : Ct pg 79 [.dat (.sl (.int .u8)) a] ⟨[Q_s_l1Sum a], [⟨(.int .i64), .sh, F_s_l1Sum a⟩], []⟩ := by
  refine ct_claim (O := O_s_l1Sum) (τ := τ_s_l1Sum) (EnvOk.of (by kernel_rfl) (by kernel_rfl)) (GOk.of (.nil : AllOk pg [])) mixed (Enters.of (by kernel_rfl)) (fn := Go.Proofs.Try.f79) (by kernel_rfl) rfl (by kernel_rfl) ?_
  intro hp hw
  have hq : Q_s_l1Sum a := hp _ (List.mem_singleton.2 rfl)
  clear hp
  change claim Lg.std Alg.std τ_s_l1Sum (Gam.of []) O_s_l1Sum Go.Proofs.Try.f79 [.dat (.sl (.int .u8)) a] ⟨[Q_s_l1Sum a], [⟨(.int .i64), .sh, F_s_l1Sum a⟩], []⟩
  generalize hR0 : F_s_l1Sum a = R0
  generalize Q_s_l1Sum a = Q0
  generalize hL : Lg.std = L
  generalize hA : Alg.std = A
  cbv
  subst hL hA
  try dsimp only [Ty.den]
  refine lp_v (V := (Int) × (Int)) (fun ((i, z) : (Int) × (Int)) => ⟨[.dat (.sl (.int .u8)) a, Jk, Jk, .dat (.int .i64) z, .dat (.int .i64) i, Jk, Jk, Jk, Jk, Jk, Jk, Jk, Jk, Jk, Jk, Jk, Jk, Jk, Jk, Jk, Jk, Jk], []⟩) (fun ((i, z) : (Int) × (Int)) => 0 ≤ i ∧ i ≤ a.length ∧ 0 ≤ z ∧ z < 65521 ∧ sumOf 29 a = sumOf z (a.drop i.toNat)) (fun ((i, z) : (Int) × (Int)) => a.length - i.toNat) (0, 29) rfl ?_ ?_
  · simp
  rintro ⟨i, z⟩ hf I hI
  replace hf : 0 ≤ i ∧ i ≤ a.length ∧ 0 ≤ z ∧ z < 65521 ∧ sumOf 29 a = sumOf z (a.drop i.toNat) := hf
  generalize hL : Lg.std = L
  generalize hA : Alg.std = A
  cbv
  subst hL hA
  try dsimp only [Ty.den]
  subst hI
  simp only [Lg.std, Alg.std, List.drop_zero, List.take_length]
  obtain ⟨h1, h2, h3, h4, h5⟩ := hf
  have hl := hw.1.1
  have hb := u8at hw.1.2 i.toNat
  have hdc := fun (h : i.toNat < a.length) => drop_cons a 0 i.toNat h
  have he := fun (h : a.length ≤ i.toNat) => drop_nil a i.toNat h
  repeat' (first | intro _ | apply And.intro)
  all_goals (try refine ⟨(_, _), rfl, ?_, ?_⟩)
  all_goals subst hR0
  all_goals (try simp only [F_s_l1Sum] at *)
  all_goals grind [sumOf]
def con_s_l1Sum : Con := ⟨true, g1 (pD (.sl (.int .u8))) fun a => .one ⟨[Q_s_l1Sum a], [⟨(.int .i64), .sh, F_s_l1Sum a⟩], []⟩, [], false, 0⟩
theorem ok_s_l1Sum : ConOk pg 79 con_s_l1Sum := ConOk.g1 (Enters.of (by kernel_rfl)) ct_s_l1Sum
end Go.Vee
