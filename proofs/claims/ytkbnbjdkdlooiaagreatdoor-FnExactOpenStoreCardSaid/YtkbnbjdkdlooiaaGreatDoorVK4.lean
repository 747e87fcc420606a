/-
  Contracts of functions of the program: what each returns for all arguments that its precondition lets in.
-/
import Derived.Test.YtkbnbjdkdlooiaaGreatDoorVK3
set_option linter.unusedSimpArgs false
set_option linter.unusedVariables false
set_option maxRecDepth 100000
set_option maxHeartbeats 4000000
set_option synthInstance.maxHeartbeats 4000000
set_option synthInstance.maxSize 20000000
namespace Go.Vee
open Go
def F_i_SumOf (a : List (Int)) : (Int) × (Int) × Unit := if a.length > 2000 then (2, 0, ()) else (0, sumOf 29 a, ())
def Q_i_SumOf (a : List (Int)) : Prop := True
def O_i_SumOf : Opt := ⟨fun i => false, fun i => (match decide (i = 5) with | true => [false, false, true, true, false, false, false, false, false, false, true, true, true, false, false, false, false, false, false, false, false, false, false, false, false, false] | false => []), fun i => .done, fun i => none, fun i => false, fun i => [], fun i => false, fun i => none⟩
def τ_i_SumOf : Env := Env.of [(2, (.int .i64)), (3, (.int .i64)), (4, .bool), (5, (.int .u8)), (27, (.sl (.int .u8))), (165, (.pair (.int .i64) (.pair (.int .i64) .unit)))] [] []

theorem ct_i_SumOf (a : List (Int)) : Ct pg 117 [.dat (.sl (.int .u8)) a] ⟨[Q_i_SumOf a], [⟨(.pair (.int .i64) (.pair (.int .i64) .unit)), .sh, F_i_SumOf a⟩], []⟩ := by
  refine ct_claim (O := O_i_SumOf) (τ := τ_i_SumOf) (EnvOk.of (by kernel_rfl) (by kernel_rfl)) (GOk.of (.nil : AllOk pg [])) mixed (Enters.of (by kernel_rfl)) (fn := Go.Proofs.Tryz.f117) (by kernel_rfl) rfl (by kernel_rfl) ?_
  intro hp hw
  have hq : Q_i_SumOf a := hp _ (List.mem_singleton.2 rfl)
  clear hp
  change claim Lg.std Alg.std τ_i_SumOf (Gam.of []) O_i_SumOf Go.Proofs.Tryz.f117 [.dat (.sl (.int .u8)) a] ⟨[Q_i_SumOf a], [⟨(.pair (.int .i64) (.pair (.int .i64) .unit)), .sh, F_i_SumOf a⟩], []⟩
  generalize hR0 : F_i_SumOf a = R0
  generalize Q_i_SumOf a = Q0
  generalize hL : Lg.std = L
  generalize hA : Alg.std = A
  cbv
  subst hL hA
  try dsimp only [Ty.den]
  refine ⟨fun h => ?_, fun h => ?_⟩
  · subst hR0
    simp only [Alg.std, F_i_SumOf] at *
    all_goals grind
  refine lp_v (V := (Int) × (Int) × (Int)) (fun ((i, z, M) : (Int) × (Int) × (Int)) => ⟨[.junk, .junk, .bptr 0 0, .dat (.int .i64) z, .junk, .junk, .junk, .junk, .junk, .junk, .dat (.sl (.int .u8)) a, .dat (.int .i64) M, .dat (.int .i64) i, .junk, .junk, .junk, .junk, .junk, .junk, .junk, .junk, .junk, .junk, .junk, .junk, .junk], [some (.box [.dat (.int .i64) 0, .dat (.int .i64) 0])]⟩) (fun ((i, z, M) : (Int) × (Int) × (Int)) => M = a.length ∧ 0 ≤ i ∧ i ≤ a.length ∧ 0 ≤ z ∧ z < 65521 ∧ a.length ≤ 2000 ∧ sumOf 29 a = sumOf z (a.drop i.toNat)) (fun ((i, z, M) : (Int) × (Int) × (Int)) => a.length - i.toNat) (0, 29, _) rfl ?_ ?_
  · simp [Alg.std] at h ⊢; omega
  rintro ⟨i, z, M⟩ hf I hI
  replace hf : M = a.length ∧ 0 ≤ i ∧ i ≤ a.length ∧ 0 ≤ z ∧ z < 65521 ∧ a.length ≤ 2000 ∧ sumOf 29 a = sumOf z (a.drop i.toNat) := hf
  generalize hL : Lg.std = L
  generalize hA : Alg.std = A
  cbv
  subst hL hA
  try dsimp only [Ty.den]
  subst hI
  simp only [Lg.std, Alg.std, List.drop_zero, List.take_length]
  obtain ⟨h1, h2, h3, h4, h5, h6, h7⟩ := hf
  have hl := hw.1.1
  have hb := u8at hw.1.2 i.toNat
  have hdc := fun (h : i.toNat < a.length) => drop_cons a 0 i.toNat h
  have he := fun (h : a.length ≤ i.toNat) => drop_nil a i.toNat h
  repeat' (first | intro _ | apply And.intro)
  all_goals (try refine ⟨(_, _, _), rfl, ?_, ?_⟩)
  all_goals subst hR0
  all_goals (try simp only [F_i_SumOf] at *)
  all_goals grind [sumOf]
def con_i_SumOf : Con := ⟨true, g1 (pD (.sl (.int .u8))) fun a => .one ⟨[Q_i_SumOf a], [⟨(.pair (.int .i64) (.pair (.int .i64) .unit)), .sh, F_i_SumOf a⟩], []⟩, [], false, 0⟩
theorem ok_i_SumOf : ConOk pg 117 con_i_SumOf := ConOk.g1 (Enters.of (by kernel_rfl)) ct_i_SumOf

def F_i_pair (n : Int) : List (Int) := pairOf n
def Q_i_pair (n : Int) : Prop := True
def O_i_pair : Opt := ⟨fun i => false, fun i => [], fun i => .done, fun i => none, fun i => false, fun i => [], fun i => false, fun i => none⟩
def τ_i_pair : Env := Env.of [(2, (.int .i64)), (5, (.int .u8)), (27, (.sl (.int .u8))), (230, (.int .u64))] [] []

theorem ct_i_pair (n : Int) : Ct pg 116 [.dat (.int .i64) n] ⟨[Q_i_pair n], [⟨(.sl (.int .u8)), (.ow .sh), F_i_pair n⟩], []⟩ := by
  refine ct_claim (O := O_i_pair) (τ := τ_i_pair) (EnvOk.of (by kernel_rfl) (by kernel_rfl)) (GOk.of (.nil : AllOk pg [])) mixed (Enters.of (by kernel_rfl)) (fn := Go.Proofs.Tryz.f116) (by kernel_rfl) rfl (by kernel_rfl) ?_
  intro hp hw
  have hq : Q_i_pair n := hp _ (List.mem_singleton.2 rfl)
  clear hp
  change claim Lg.std Alg.std τ_i_pair (Gam.of []) O_i_pair Go.Proofs.Tryz.f116 [.dat (.int .i64) n] ⟨[Q_i_pair n], [⟨(.sl (.int .u8)), (.ow .sh), F_i_pair n⟩], []⟩
  generalize hR0 : F_i_pair n = R0
  generalize Q_i_pair n = Q0
  generalize hL : Lg.std = L
  generalize hA : Alg.std = A
  cbv
  subst hL hA
  try dsimp only [Ty.den]
  have hn := i64w hw.1
  subst hR0
  simp [Lg.std, Alg.std, F_i_pair, pairOf, wrap8, fdiv256]
def con_i_pair : Con := ⟨true, g1 (pD (.int .i64)) fun n => .one ⟨[Q_i_pair n], [⟨(.sl (.int .u8)), (.ow .sh), F_i_pair n⟩], []⟩, [], false, 0⟩
theorem ok_i_pair : ConOk pg 116 con_i_pair := ConOk.g1 (Enters.of (by kernel_rfl)) ct_i_pair

def F_s_l1Pair (n : Int) : List (Int) := pairOf n
def Q_s_l1Pair (n : Int) : Prop := 0 ≤ n
def O_s_l1Pair : Opt := ⟨fun i => false, fun i => [], fun i => .done, fun i => none, fun i => false, fun i => [], fun i => false, fun i => none⟩
def τ_s_l1Pair : Env := Env.of [(2, (.int .i64)), (5, (.int .u8)), (27, (.sl (.int .u8)))] [] []

theorem ct_s_l1Pair (n : Int) : Ct pg 179 [.dat (.int .i64) n] ⟨[Q_s_l1Pair n], [⟨(.sl (.int .u8)), (.ow .sh), F_s_l1Pair n⟩], []⟩ := by
  refine ct_claim (O := O_s_l1Pair) (τ := τ_s_l1Pair) (EnvOk.of (by kernel_rfl) (by kernel_rfl)) (GOk.of (.nil : AllOk pg [])) mixed (Enters.of (by kernel_rfl)) (fn := Go.Proofs.Tryz.f179) (by kernel_rfl) rfl (by kernel_rfl) ?_
  intro hp hw
  have hq : Q_s_l1Pair n := hp _ (List.mem_singleton.2 rfl)
  clear hp
  change claim Lg.std Alg.std τ_s_l1Pair (Gam.of []) O_s_l1Pair Go.Proofs.Tryz.f179 [.dat (.int .i64) n] ⟨[Q_s_l1Pair n], [⟨(.sl (.int .u8)), (.ow .sh), F_s_l1Pair n⟩], []⟩
  generalize hR0 : F_s_l1Pair n = R0
  generalize Q_s_l1Pair n = Q0
  generalize hL : Lg.std = L
  generalize hA : Alg.std = A
  cbv
  subst hL hA
  try dsimp only [Ty.den]
  have hn := i64w hw.1
  simp only [Q_s_l1Pair] at hq
  subst hR0
  simp [Lg.std, Alg.std, F_s_l1Pair, pairOf, wrap8]
  all_goals omega
def con_s_l1Pair : Con := ⟨true, g1 (pD (.int .i64)) fun n => .one ⟨[Q_s_l1Pair n], [⟨(.sl (.int .u8)), (.ow .sh), F_s_l1Pair n⟩], []⟩, [], false, 0⟩
theorem ok_s_l1Pair : ConOk pg 179 con_s_l1Pair := ConOk.g1 (Enters.of (by kernel_rfl)) ct_s_l1Pair
end Go.Vee
