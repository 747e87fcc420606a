/-
  Contracts of functions of the program: what each returns for all arguments that its precondition lets in.
-/
import Derived.Test.YtcdlgemhmmkneaaVS
set_option linter.unusedSimpArgs false
set_option linter.unusedVariables false
set_option maxRecDepth 100000
set_option maxHeartbeats 4000000
set_option synthInstance.maxHeartbeats 4000000
set_option synthInstance.maxSize 20000
namespace Go.Vee
open Go
def F_w_szByteS (a : List (Int)) (left : Int) : Int := szf (tot (.sl (.int .u8)) a) left
def Q_w_szByteS (a : List (Int)) (left : Int) : Prop := 0 ≤ left ∧ left ≤ 1048576
def O_w_szByteS : Opt := ⟨fun i => false, fun i => [], fun i => .done, fun i => none, fun i => false, fun i => []⟩
def τ_w_szByteS : Env := Env.of [(3, (.int .i64)), (4, .bool), (22, (.sl (.int .u8)))] [] []

theorem ct_w_szByteS (a : List (Int)) (left : Int) : Ct pg 71 [.dat (.sl (.int .u8)) a, .dat (.int .i64) left] ⟨[Q_w_szByteS a left], [⟨(.int .i64), .sh, F_w_szByteS a left⟩], []⟩ := by
  refine ct_claim (O := O_w_szByteS) (τ := τ_w_szByteS) (EnvOk.of (by kernel_rfl) (by kernel_rfl)) (GOk.of (.nil : AllOk pg [])) mixed (Enters.of (by kernel_rfl)) (fn := Go.Proofs.Try.f71) (by kernel_rfl) rfl (by kernel_rfl) ?_
  intro hp hw
  have hq : Q_w_szByteS a left := hp _ (List.mem_singleton.2 rfl)
  clear hp
  change claim Lg.std Alg.std τ_w_szByteS (Gam.of []) O_w_szByteS Go.Proofs.Try.f71 [.dat (.sl (.int .u8)) a, .dat (.int .i64) left] ⟨[Q_w_szByteS a left], [⟨(.int .i64), .sh, F_w_szByteS a left⟩], []⟩
  generalize hR0 : F_w_szByteS a left = R0
  generalize Q_w_szByteS a left = Q0
  generalize hL : Lg.std = L
  generalize hA : Alg.std = A
  cbv
  subst hL hA
  try dsimp only [Ty.den]
  have hl : a.length ≤ 9223372036854775807 := hw.1.1
  simp only [Q_w_szByteS] at hq
  subst hR0
  simp only [Lg.std, Alg.std, List.drop_zero, List.take_length, F_w_szByteS, szf, tot_int]
  all_goals grind
def con_w_szByteS : Con := ⟨true, g2 (pD (.sl (.int .u8))) (pD (.int .i64)) fun a left => ⟨[Q_w_szByteS a left], [⟨(.int .i64), .sh, F_w_szByteS a left⟩], []⟩, []⟩
theorem ok_w_szByteS : ConOk pg 71 con_w_szByteS := ConOk.g2 (Enters.of (by kernel_rfl)) ct_w_szByteS

def F_w_toByteS (a : List (Int)) : List (Int) := a
def Q_w_toByteS (a : List (Int)) : Prop := tot (.sl (.int .u8)) a ≤ 1048576
def O_w_toByteS : Opt := ⟨fun i => false, fun i => (match decide (i = 3) with | true => [true, false, false, true, true, false, false, false, false, false, false, false, false, false, false, false, false, false, false, false, false, false] | false => []), fun i => .done, fun i => none, fun i => false, fun i => []⟩
def τ_w_toByteS : Env := Env.of [(2, (.int .i64)), (3, (.int .i64)), (4, .bool), (5, (.int .u8)), (22, (.sl (.int .u8)))] [] []

theorem ct_w_toByteS (a : List (Int)) : Ct pg 42 [.dat (.sl (.int .u8)) a] ⟨[Q_w_toByteS a], [⟨(.sl (.int .u8)), (.ow .sh), F_w_toByteS a⟩], []⟩ := by
  refine ct_claim (O := O_w_toByteS) (τ := τ_w_toByteS) (EnvOk.of (by kernel_rfl) (by kernel_rfl)) (GOk.of (.nil : AllOk pg [])) mixed (Enters.of (by kernel_rfl)) (fn := Go.Proofs.Try.f42) (by kernel_rfl) rfl (by kernel_rfl) ?_
  intro hp hw
  have hq : Q_w_toByteS a := hp _ (List.mem_singleton.2 rfl)
  clear hp
  change claim Lg.std Alg.std τ_w_toByteS (Gam.of []) O_w_toByteS Go.Proofs.Try.f42 [.dat (.sl (.int .u8)) a] ⟨[Q_w_toByteS a], [⟨(.sl (.int .u8)), (.ow .sh), F_w_toByteS a⟩], []⟩
  generalize hR0 : F_w_toByteS a = R0
  generalize Q_w_toByteS a = Q0
  generalize hL : Lg.std = L
  generalize hA : Alg.std = A
  cbv
  subst hL hA
  try dsimp only [Ty.den]
  simp only [Q_w_toByteS, tot_int] at hq
  refine ⟨trivial, by simp only [Alg.std]; omega, ?_⟩
  refine lp_v (V := (Int) × (Nat) × (List Int)) (fun ((i, N, xs) : (Int) × (Nat) × (List Int)) => ⟨[.dat (.sl (.int .u8)) a, .junk, .junk, .ref (.int .u8) 0 0 [] 0 N, .dat (.int .i64) i, .junk, .junk, .junk, .junk, .junk, .junk, .junk, .junk, .junk, .junk, .junk, .junk, .junk, .junk, .junk, .junk, .junk], [some (.row 0 (.int .u8) .sh xs)]⟩) (fun ((i, N, xs) : (Int) × (Nat) × (List Int)) => N = a.length ∧ 0 ≤ i ∧ i ≤ a.length ∧ xs = a.take i.toNat ++ List.replicate (a.length - i.toNat) 0) (fun ((i, N, xs) : (Int) × (Nat) × (List Int)) => a.length - i.toNat) (0, _, _) rfl ?_ ?_
  · simp [Alg.std]
  rintro ⟨i, N, xs⟩ hf I hI
  replace hf : N = a.length ∧ 0 ≤ i ∧ i ≤ a.length ∧ xs = a.take i.toNat ++ List.replicate (a.length - i.toNat) 0 := hf
  generalize hL : Lg.std = L
  generalize hA : Alg.std = A
  cbv
  subst hL hA
  try dsimp only [Ty.den]
  subst hI
  simp only [Lg.std, Alg.std, List.drop_zero, List.take_length]
  obtain ⟨h1, h2, h3, h4⟩ := hf
  have hk := fun (h : i.toNat < a.length) => copy_step a 0 i.toNat h
  have hl : xs.length = a.length := by rw [h4]; simp; omega
  repeat' (first | intro _ | apply And.intro)
  all_goals (try refine ⟨(_, _, _), rfl, ?_, ?_⟩)
  all_goals subst hR0
  all_goals (try simp only [F_w_toByteS] at *)
  all_goals grind
def con_w_toByteS : Con := ⟨true, g1 (pD (.sl (.int .u8))) fun a => ⟨[Q_w_toByteS a], [⟨(.sl (.int .u8)), (.ow .sh), F_w_toByteS a⟩], []⟩, []⟩
theorem ok_w_toByteS : ConOk pg 42 con_w_toByteS := ConOk.g1 (Enters.of (by kernel_rfl)) ct_w_toByteS

def F_w_eqByteS (a : List (Int)) (b : List (Int)) : Bool := decide (a = b)
def Q_w_eqByteS (a : List (Int)) (b : List (Int)) : Prop := True
def O_w_eqByteS : Opt := ⟨fun i => (match decide (i = 6) with | true => true | false => false), fun i => (match decide (i = 4) with | true => [true, true, false, false, false, true, false, false, false, false, false, false, false, false, false, false, false, false, false, false, false, false, false, false, false, false] | false => []), fun i => .done, fun i => none, fun i => false, fun i => []⟩
def τ_w_eqByteS : Env := Env.of [(3, (.int .i64)), (4, .bool), (5, (.int .u8)), (22, (.sl (.int .u8)))] [] []

theorem ct_w_eqByteS (a : List (Int)) (b : List (Int)) : Ct pg 45 [.dat (.sl (.int .u8)) a, .dat (.sl (.int .u8)) b] ⟨[Q_w_eqByteS a b], [⟨.bool, .sh, F_w_eqByteS a b⟩], []⟩ := by
  refine ct_claim (O := O_w_eqByteS) (τ := τ_w_eqByteS) (EnvOk.of (by kernel_rfl) (by kernel_rfl)) (GOk.of (.nil : AllOk pg [])) mixed (Enters.of (by kernel_rfl)) (fn := Go.Proofs.Try.f45) (by kernel_rfl) rfl (by kernel_rfl) ?_
  intro hp hw
  have hq : Q_w_eqByteS a b := hp _ (List.mem_singleton.2 rfl)
  clear hp
  change claim Lg.std Alg.std τ_w_eqByteS (Gam.of []) O_w_eqByteS Go.Proofs.Try.f45 [.dat (.sl (.int .u8)) a, .dat (.sl (.int .u8)) b] ⟨[Q_w_eqByteS a b], [⟨.bool, .sh, F_w_eqByteS a b⟩], []⟩
  generalize hR0 : F_w_eqByteS a b = R0
  generalize Q_w_eqByteS a b = Q0
  generalize hL : Lg.std = L
  generalize hA : Alg.std = A
  cbv
  subst hL hA
  try dsimp only [Ty.den]
  refine ⟨fun hne => ?_, fun heq => ?_⟩
  · subst hR0
    simp only [Alg.std, F_w_eqByteS] at *
    all_goals grind
  refine lp_v (V := (Int)) (fun (i : Int) => ⟨[.dat (.sl (.int .u8)) a, .dat (.sl (.int .u8)) b, .junk, .junk, .junk, .dat (.int .i64) i, .junk, .junk, .junk, .junk, .junk, .junk, .junk, .junk, .junk, .junk, .junk, .junk, .junk, .junk, .junk, .junk, .junk, .junk, .junk, .junk], []⟩) (fun (i : Int) => a.length = b.length ∧ 0 ≤ i ∧ i ≤ a.length ∧ decide (a = b) = decide (a.drop i.toNat = b.drop i.toNat)) (fun (i : Int) => a.length - i.toNat) (0) rfl ?_ ?_
  · simp [Alg.std] at heq ⊢; omega
  rintro i hf I hI
  replace hf : a.length = b.length ∧ 0 ≤ i ∧ i ≤ a.length ∧ decide (a = b) = decide (a.drop i.toNat = b.drop i.toNat) := hf
  generalize hL : Lg.std = L
  generalize hA : Alg.std = A
  cbv
  subst hL hA
  try dsimp only [Ty.den]
  subst hI
  simp only [Lg.std, Alg.std, List.drop_zero, List.take_length]
  obtain ⟨h1, h2, h3, h4⟩ := hf
  have hl := hw.1.1
  have hdc := fun (h : i.toNat < a.length) => drop_cons a 0 i.toNat h
  have he := fun (h : a.length ≤ i.toNat) => drop_nil a i.toNat h
  have hdc2 := fun (h : i.toNat < b.length) => drop_cons b 0 i.toNat h
  have he2 := fun (h : b.length ≤ i.toNat) => drop_nil b i.toNat h
  repeat' (first | intro _ | apply And.intro)
  all_goals (try refine ⟨_, rfl, ?_, ?_⟩)
  all_goals subst hR0
  all_goals (try simp only [F_w_eqByteS] at *)
  all_goals grind
def con_w_eqByteS : Con := ⟨true, g2 (pD (.sl (.int .u8))) (pD (.sl (.int .u8))) fun a b => ⟨[Q_w_eqByteS a b], [⟨.bool, .sh, F_w_eqByteS a b⟩], []⟩, []⟩
theorem ok_w_eqByteS : ConOk pg 45 con_w_eqByteS := ConOk.g2 (Enters.of (by kernel_rfl)) ct_w_eqByteS
end Go.Vee
