/-
  Contracts of functions of the program: what each returns for all arguments that its precondition lets in.
-/
import Derived.Test.YtkbnbjdkdlooiaaGreatDoorVS
set_option linter.unusedSimpArgs false
set_option linter.unusedVariables false
set_option maxRecDepth 100000
set_option maxHeartbeats 4000000
set_option synthInstance.maxHeartbeats 4000000
set_option synthInstance.maxSize 20000000
namespace Go.Vee
open Go
def F_s_l1In (n : Int) (lo : Int) (hi : Int) : Bool := decide (lo ≤ n ∧ n ≤ hi)
def Q_s_l1In (n : Int) (lo : Int) (hi : Int) : Prop := True
def O_s_l1In : Opt := ⟨fun i => false, fun i => [], fun i => .done, fun i => none, fun i => false, fun i => [], fun i => false, fun i => none⟩
def τ_s_l1In : Env := Env.of [(2, (.int .i64)), (4, .bool)] [] []

theorem ct_s_l1In (n : Int) (lo : Int) (hi : Int) : Ct pg 100 [.dat (.int .i64) n, .dat (.int .i64) lo, .dat (.int .i64) hi] ⟨[Q_s_l1In n lo hi], [⟨.bool, .sh, F_s_l1In n lo hi⟩], []⟩ := by
  refine ct_claim (O := O_s_l1In) (τ := τ_s_l1In) (EnvOk.of (by kernel_rfl) (by kernel_rfl)) (GOk.of (.nil : AllOk pg [])) mixed (Enters.of (by kernel_rfl)) (fn := Go.Proofs.Tryz.f100) (by kernel_rfl) rfl (by kernel_rfl) ?_
  intro hp hw
  have hq : Q_s_l1In n lo hi := hp _ (List.mem_singleton.2 rfl)
  clear hp
  change claim Lg.std Alg.std τ_s_l1In (Gam.of []) O_s_l1In Go.Proofs.Tryz.f100 [.dat (.int .i64) n, .dat (.int .i64) lo, .dat (.int .i64) hi] ⟨[Q_s_l1In n lo hi], [⟨.bool, .sh, F_s_l1In n lo hi⟩], []⟩
  generalize hR0 : F_s_l1In n lo hi = R0
  generalize Q_s_l1In n lo hi = Q0
  generalize hL : Lg.std = L
  generalize hA : Alg.std = A
  cbv
  subst hL hA
  try dsimp only [Ty.den]
  subst hR0
  simp only [Q_s_l1In] at hq
  simp only [Lg.std, Alg.std, List.drop_zero, List.take_length, F_s_l1In]
  all_goals grind
def con_s_l1In : Con := ⟨true, g3 (pD (.int .i64)) (pD (.int .i64)) (pD (.int .i64)) fun n lo hi => .one ⟨[Q_s_l1In n lo hi], [⟨.bool, .sh, F_s_l1In n lo hi⟩], []⟩, [], false, 0⟩
theorem ok_s_l1In : ConOk pg 100 con_s_l1In := ConOk.g3 (Enters.of (by kernel_rfl)) ct_s_l1In

def F_i_within (n : Int) (lo : Int) (hi : Int) : Bool := decide (lo ≤ n ∧ n ≤ hi)
def Q_i_within (n : Int) (lo : Int) (hi : Int) : Prop := True
def O_i_within : Opt := ⟨fun i => false, fun i => [], fun i => .done, fun i => none, fun i => false, fun i => [], fun i => false, fun i => none⟩
def τ_i_within : Env := Env.of [(2, (.int .i64)), (4, .bool)] [] []

theorem ct_i_within (n : Int) (lo : Int) (hi : Int) : Ct pg 102 [.dat (.int .i64) n, .dat (.int .i64) lo, .dat (.int .i64) hi] ⟨[Q_i_within n lo hi], [⟨.bool, .sh, F_i_within n lo hi⟩], []⟩ := by
  refine ct_claim (O := O_i_within) (τ := τ_i_within) (EnvOk.of (by kernel_rfl) (by kernel_rfl)) (GOk.of (.nil : AllOk pg [])) mixed (Enters.of (by kernel_rfl)) (fn := Go.Proofs.Tryz.f102) (by kernel_rfl) rfl (by kernel_rfl) ?_
  intro hp hw
  have hq : Q_i_within n lo hi := hp _ (List.mem_singleton.2 rfl)
  clear hp
  change claim Lg.std Alg.std τ_i_within (Gam.of []) O_i_within Go.Proofs.Tryz.f102 [.dat (.int .i64) n, .dat (.int .i64) lo, .dat (.int .i64) hi] ⟨[Q_i_within n lo hi], [⟨.bool, .sh, F_i_within n lo hi⟩], []⟩
  generalize hR0 : F_i_within n lo hi = R0
  generalize Q_i_within n lo hi = Q0
  generalize hL : Lg.std = L
  generalize hA : Alg.std = A
  cbv
  subst hL hA
  try dsimp only [Ty.den]
  subst hR0
  simp only [Q_i_within] at hq
  simp only [Lg.std, Alg.std, List.drop_zero, List.take_length, F_i_within]
  all_goals grind
def con_i_within : Con := ⟨true, g3 (pD (.int .i64)) (pD (.int .i64)) (pD (.int .i64)) fun n lo hi => .one ⟨[Q_i_within n lo hi], [⟨.bool, .sh, F_i_within n lo hi⟩], []⟩, [], false, 0⟩
theorem ok_i_within : ConOk pg 102 con_i_within := ConOk.g3 (Enters.of (by kernel_rfl)) ct_i_within

def F_w_toByteS (a : List (Int)) : List (Int) := a
def Q_w_toByteS (a : List (Int)) : Prop := tot (.sl (.int .u8)) a ≤ 1048576
def O_w_toByteS : Opt := ⟨fun i => false, fun i => (match decide (i = 3) with | true => [true, false, false, true, true, false, false, false, false, false, false, false, false, false, false, false, false, false, false, false, false, false] | false => []), fun i => .done, fun i => none, fun i => false, fun i => [], fun i => false, fun i => none⟩
def τ_w_toByteS : Env := Env.of [(2, (.int .i64)), (3, (.int .i64)), (4, .bool), (5, (.int .u8)), (27, (.sl (.int .u8)))] [] []

theorem ct_w_toByteS (a : List (Int)) : Ct pg 20 [.dat (.sl (.int .u8)) a] ⟨[Q_w_toByteS a], [⟨(.sl (.int .u8)), (.ow .sh), F_w_toByteS a⟩], []⟩ := by
  refine ct_claim (O := O_w_toByteS) (τ := τ_w_toByteS) (EnvOk.of (by kernel_rfl) (by kernel_rfl)) (GOk.of (.nil : AllOk pg [])) mixed (Enters.of (by kernel_rfl)) (fn := Go.Proofs.Tryz.f20) (by kernel_rfl) rfl (by kernel_rfl) ?_
  intro hp hw
  have hq : Q_w_toByteS a := hp _ (List.mem_singleton.2 rfl)
  clear hp
  change claim Lg.std Alg.std τ_w_toByteS (Gam.of []) O_w_toByteS Go.Proofs.Tryz.f20 [.dat (.sl (.int .u8)) a] ⟨[Q_w_toByteS a], [⟨(.sl (.int .u8)), (.ow .sh), F_w_toByteS a⟩], []⟩
  generalize hR0 : F_w_toByteS a = R0
  generalize Q_w_toByteS a = Q0
  generalize hL : Lg.std = L
  generalize hA : Alg.std = A
  cbv
  subst hL hA
  try dsimp only [Ty.den]
  simp only [Q_w_toByteS, tot_int] at hq
  refine ⟨trivial, by simp only [Alg.std]; omega, ?_⟩
  refine lp_v (V := (Int) × (Nat) × (List Int)) (fun ((i, N, xs) : (Int) × (Nat) × (List Int)) => ⟨[.dat (.sl (.int .u8)) a, .junk, .junk, .ref (.int .u8) 0 0 [] 0 N, .dat (.int .i64) i, .junk, .junk, .junk, .junk, .junk, .junk, .junk, .junk, .junk, .junk, .junk, .junk, .junk, .junk, .junk, .junk, .junk], [some (.row 0 (.int .u8) .sh xs)]⟩) (fun ((i, N, xs) : (Int) × (Nat) × (List Int)) => N = a.length ∧ 0 ≤ i ∧ i ≤ a.length ∧ xs = a.take i.toNat ++ List.replicate (a.length - i.toNat) 0) (fun ((i, N, xs) : (Int) × (Nat) × (List Int)) => a.length - i.toNat) (0, _, _) rfl ?_ ?_
  · simp [Alg.std]
  rintro ⟨i, N, xs⟩ hf I hI
  replace hf : N = a.length ∧ 0 ≤ i ∧ i ≤ a.length ∧ xs = a.take i.toNat ++ List.replicate (a.length - i.toNat) 0 := hf
  generalize hL : Lg.std = L
  generalize hA : Alg.std = A
  cbv
  subst hL hA
  try dsimp only [Ty.den]
  subst hI
  simp only [Lg.std, Alg.std, List.drop_zero, List.take_length]
  obtain ⟨h1, h2, h3, h4⟩ := hf
  have hk := fun (h : i.toNat < a.length) => copy_step a 0 i.toNat h
  have hl : xs.length = a.length := by rw [h4]; simp; omega
  repeat' (first | intro _ | apply And.intro)
  all_goals (try refine ⟨(_, _, _), rfl, ?_, ?_⟩)
  all_goals subst hR0
  all_goals (try simp only [F_w_toByteS] at *)
  all_goals grind
def con_w_toByteS : Con := ⟨true, g1 (pD (.sl (.int .u8))) fun a => .one ⟨[Q_w_toByteS a], [⟨(.sl (.int .u8)), (.ow .sh), F_w_toByteS a⟩], []⟩, [], false, 0⟩
theorem ok_w_toByteS : ConOk pg 20 con_w_toByteS := ConOk.g1 (Enters.of (by kernel_rfl)) ct_w_toByteS

def F_w_eqByteS (a : List (Int)) (b : List (Int)) : Bool := decide (a = b)
def Q_w_eqByteS (a : List (Int)) (b : List (Int)) : Prop := True
def O_w_eqByteS : Opt := ⟨fun i => (match decide (i = 6) with | true => true | false => false), fun i => (match decide (i = 4) with | true => [true, true, false, false, false, true, false, false, false, false, false, false, false, false, false, false, false, false, false, false, false, false, false, false, false, false] | false => []), fun i => .done, fun i => none, fun i => false, fun i => [], fun i => false, fun i => none⟩
def τ_w_eqByteS : Env := Env.of [(3, (.int .i64)), (4, .bool), (5, (.int .u8)), (27, (.sl (.int .u8)))] [] []

theorem ct_w_eqByteS (a : List (Int)) (b : List (Int)) : Ct pg 24 [.dat (.sl (.int .u8)) a, .dat (.sl (.int .u8)) b] ⟨[Q_w_eqByteS a b], [⟨.bool, .sh, F_w_eqByteS a b⟩], []⟩ := by
  refine ct_claim (O := O_w_eqByteS) (τ := τ_w_eqByteS) (EnvOk.of (by kernel_rfl) (by kernel_rfl)) (GOk.of (.nil : AllOk pg [])) mixed (Enters.of (by kernel_rfl)) (fn := Go.Proofs.Tryz.f24) (by kernel_rfl) rfl (by kernel_rfl) ?_
  intro hp hw
  have hq : Q_w_eqByteS a b := hp _ (List.mem_singleton.2 rfl)
  clear hp
  change claim Lg.std Alg.std τ_w_eqByteS (Gam.of []) O_w_eqByteS Go.Proofs.Tryz.f24 [.dat (.sl (.int .u8)) a, .dat (.sl (.int .u8)) b] ⟨[Q_w_eqByteS a b], [⟨.bool, .sh, F_w_eqByteS a b⟩], []⟩
  generalize hR0 : F_w_eqByteS a b = R0
  generalize Q_w_eqByteS a b = Q0
  generalize hL : Lg.std = L
  generalize hA : Alg.std = A
  cbv
  subst hL hA
  try dsimp only [Ty.den]
  refine ⟨fun hne => ?_, fun heq => ?_⟩
  · subst hR0
    simp only [Alg.std, F_w_eqByteS] at *
    all_goals grind
  refine lp_v (V := (Int)) (fun (i : Int) => ⟨[.dat (.sl (.int .u8)) a, .dat (.sl (.int .u8)) b, .junk, .junk, .junk, .dat (.int .i64) i, .junk, .junk, .junk, .junk, .junk, .junk, .junk, .junk, .junk, .junk, .junk, .junk, .junk, .junk, .junk, .junk, .junk, .junk, .junk, .junk], []⟩) (fun (i : Int) => a.length = b.length ∧ 0 ≤ i ∧ i ≤ a.length ∧ decide (a = b) = decide (a.drop i.toNat = b.drop i.toNat)) (fun (i : Int) => a.length - i.toNat) (0) rfl ?_ ?_
  · simp [Alg.std] at heq ⊢; omega
  rintro i hf I hI
  replace hf : a.length = b.length ∧ 0 ≤ i ∧ i ≤ a.length ∧ decide (a = b) = decide (a.drop i.toNat = b.drop i.toNat) := hf
  generalize hL : Lg.std = L
  generalize hA : Alg.std = A
  cbv
  subst hL hA
  try dsimp only [Ty.den]
  subst hI
  simp only [Lg.std, Alg.std, List.drop_zero, List.take_length]
  obtain ⟨h1, h2, h3, h4⟩ := hf
  have hl := hw.1.1
  have hdc := fun (h : i.toNat < a.length) => drop_cons a 0 i.toNat h
  have he := fun (h : a.length ≤ i.toNat) => drop_nil a i.toNat h
  have hdc2 := fun (h : i.toNat < b.length) => drop_cons b 0 i.toNat h
  have he2 := fun (h : b.length ≤ i.toNat) => drop_nil b i.toNat h
  repeat' (first | intro _ | apply And.intro)
  all_goals (try refine ⟨_, rfl, ?_, ?_⟩)
  all_goals subst hR0
  all_goals (try simp only [F_w_eqByteS] at *)
  all_goals grind
def con_w_eqByteS : Con := ⟨true, g2 (pD (.sl (.int .u8))) (pD (.sl (.int .u8))) fun a b => .one ⟨[Q_w_eqByteS a b], [⟨.bool, .sh, F_w_eqByteS a b⟩], []⟩, [], false, 0⟩
theorem ok_w_eqByteS : ConOk pg 24 con_w_eqByteS := ConOk.g2 (Enters.of (by kernel_rfl)) ct_w_eqByteS

def F_w_eqInt64S (a : List (Int)) (b : List (Int)) : Bool := decide (a = b)
def Q_w_eqInt64S (a : List (Int)) (b : List (Int)) : Prop := True
def O_w_eqInt64S : Opt := ⟨fun i => (match decide (i = 6) with | true => true | false => false), fun i => (match decide (i = 4) with | true => [true, true, false, false, false, true, false, false, false, false, false, false, false, false, false, false, false, false, false, false, false, false, false, false, false, false] | false => []), fun i => .done, fun i => none, fun i => false, fun i => [], fun i => false, fun i => none⟩
def τ_w_eqInt64S : Env := Env.of [(2, (.int .i64)), (3, (.int .i64)), (4, .bool), (62, (.sl (.int .i64)))] [] []

theorem ct_w_eqInt64S (a : List (Int)) (b : List (Int)) : Ct pg 90 [.dat (.sl (.int .i64)) a, .dat (.sl (.int .i64)) b] ⟨[Q_w_eqInt64S a b], [⟨.bool, .sh, F_w_eqInt64S a b⟩], []⟩ := by
  refine ct_claim (O := O_w_eqInt64S) (τ := τ_w_eqInt64S) (EnvOk.of (by kernel_rfl) (by kernel_rfl)) (GOk.of (.nil : AllOk pg [])) mixed (Enters.of (by kernel_rfl)) (fn := Go.Proofs.Tryz.f90) (by kernel_rfl) rfl (by kernel_rfl) ?_
  intro hp hw
  have hq : Q_w_eqInt64S a b := hp _ (List.mem_singleton.2 rfl)
  clear hp
  change claim Lg.std Alg.std τ_w_eqInt64S (Gam.of []) O_w_eqInt64S Go.Proofs.Tryz.f90 [.dat (.sl (.int .i64)) a, .dat (.sl (.int .i64)) b] ⟨[Q_w_eqInt64S a b], [⟨.bool, .sh, F_w_eqInt64S a b⟩], []⟩
  generalize hR0 : F_w_eqInt64S a b = R0
  generalize Q_w_eqInt64S a b = Q0
  generalize hL : Lg.std = L
  generalize hA : Alg.std = A
  cbv
  subst hL hA
  try dsimp only [Ty.den]
  refine ⟨fun hne => ?_, fun heq => ?_⟩
  · subst hR0
    simp only [Alg.std, F_w_eqInt64S] at *
    all_goals grind
  refine lp_v (V := (Int)) (fun (i : Int) => ⟨[.dat (.sl (.int .i64)) a, .dat (.sl (.int .i64)) b, .junk, .junk, .junk, .dat (.int .i64) i, .junk, .junk, .junk, .junk, .junk, .junk, .junk, .junk, .junk, .junk, .junk, .junk, .junk, .junk, .junk, .junk, .junk, .junk, .junk, .junk], []⟩) (fun (i : Int) => a.length = b.length ∧ 0 ≤ i ∧ i ≤ a.length ∧ decide (a = b) = decide (a.drop i.toNat = b.drop i.toNat)) (fun (i : Int) => a.length - i.toNat) (0) rfl ?_ ?_
  · simp [Alg.std] at heq ⊢; omega
  rintro i hf I hI
  replace hf : a.length = b.length ∧ 0 ≤ i ∧ i ≤ a.length ∧ decide (a = b) = decide (a.drop i.toNat = b.drop i.toNat) := hf
  generalize hL : Lg.std = L
  generalize hA : Alg.std = A
  cbv
  subst hL hA
  try dsimp only [Ty.den]
  subst hI
  simp only [Lg.std, Alg.std, List.drop_zero, List.take_length]
  obtain ⟨h1, h2, h3, h4⟩ := hf
  have hl := hw.1.1
  have hdc := fun (h : i.toNat < a.length) => drop_cons a 0 i.toNat h
  have he := fun (h : a.length ≤ i.toNat) => drop_nil a i.toNat h
  have hdc2 := fun (h : i.toNat < b.length) => drop_cons b 0 i.toNat h
  have he2 := fun (h : b.length ≤ i.toNat) => drop_nil b i.toNat h
  repeat' (first | intro _ | apply And.intro)
  all_goals (try refine ⟨_, rfl, ?_, ?_⟩)
  all_goals subst hR0
  all_goals (try simp only [F_w_eqInt64S] at *)
  all_goals grind
def con_w_eqInt64S : Con := ⟨true, g2 (pD (.sl (.int .i64))) (pD (.sl (.int .i64))) fun a b => .one ⟨[Q_w_eqInt64S a b], [⟨.bool, .sh, F_w_eqInt64S a b⟩], []⟩, [], false, 0⟩
theorem ok_w_eqInt64S : ConOk pg 90 con_w_eqInt64S := ConOk.g2 (Enters.of (by kernel_rfl)) ct_w_eqInt64S

def F_w_heldInt64S (a : List (Int)) (k : Int) : Int := hd false (.sl (.int .i64)) a k
def Q_w_heldInt64S (a : List (Int)) (k : Int) : Prop := 0 ≤ k ∧ k + cnt false (.sl (.int .i64)) a ≤ 4611686018427387904
def O_w_heldInt64S : Opt := ⟨fun i => false, fun i => (match decide (i = 2) with | true => [true, true, false, false, false, true, false, false, false, false, false, false, false, false, false, false, false, false, false, false, false] | false => []), fun i => .done, fun i => none, fun i => false, fun i => [], fun i => false, fun i => none⟩
def τ_w_heldInt64S : Env := Env.of [(2, (.int .i64)), (3, (.int .i64)), (4, .bool), (62, (.sl (.int .i64)))] [] []

theorem ct_w_heldInt64S (a : List (Int)) (k : Int) : Ct pg 141 [.dat (.sl (.int .i64)) a, .dat (.int .i64) k] ⟨[Q_w_heldInt64S a k], [⟨(.int .i64), .sh, F_w_heldInt64S a k⟩], []⟩ := by
  refine ct_claim (O := O_w_heldInt64S) (τ := τ_w_heldInt64S) (EnvOk.of (by kernel_rfl) (by kernel_rfl)) (GOk.of (.nil : AllOk pg [])) mixed (Enters.of (by kernel_rfl)) (fn := Go.Proofs.Tryz.f141) (by kernel_rfl) rfl (by kernel_rfl) ?_
  intro hp hw
  have hq : Q_w_heldInt64S a k := hp _ (List.mem_singleton.2 rfl)
  clear hp
  change claim Lg.std Alg.std τ_w_heldInt64S (Gam.of []) O_w_heldInt64S Go.Proofs.Tryz.f141 [.dat (.sl (.int .i64)) a, .dat (.int .i64) k] ⟨[Q_w_heldInt64S a k], [⟨(.int .i64), .sh, F_w_heldInt64S a k⟩], []⟩
  generalize hR0 : F_w_heldInt64S a k = R0
  generalize Q_w_heldInt64S a k = Q0
  generalize hL : Lg.std = L
  generalize hA : Alg.std = A
  cbv
  subst hL hA
  try dsimp only [Ty.den]
  simp only [Q_w_heldInt64S, cnt_int] at hq
  have hF : hd false (.sl (.int .i64)) a k = heldInts a k := hd_ints false a k hq.1 hq.2
  refine lp_v (V := (Int) × (Int)) (fun ((i, j) : (Int) × (Int)) => ⟨[.dat (.sl (.int .i64)) a, .dat (.int .i64) j, .junk, .junk, .junk, .dat (.int .i64) i, .junk, .junk, .junk, .junk, .junk, .junk, .junk, .junk, .junk, .junk, .junk, .junk, .junk, .junk, .junk], []⟩) (fun ((i, j) : (Int) × (Int)) => 0 ≤ i ∧ i ≤ a.length ∧ j = k + i ∧ heldInts a k = heldInts (a.drop i.toNat) j) (fun ((i, j) : (Int) × (Int)) => a.length - i.toNat) (0, k) rfl ?_ ?_
  · simp
  rintro ⟨i, j⟩ hf I hI
  replace hf : 0 ≤ i ∧ i ≤ a.length ∧ j = k + i ∧ heldInts a k = heldInts (a.drop i.toNat) j := hf
  generalize hL : Lg.std = L
  generalize hA : Alg.std = A
  cbv
  subst hL hA
  try dsimp only [Ty.den]
  subst hI
  simp only [Lg.std, Alg.std, List.drop_zero, List.take_length]
  obtain ⟨h1, h2, h3, h4⟩ := hf
  have hdc := fun (h : i.toNat < a.length) => drop_cons a 0 i.toNat h
  have he := fun (h : a.length ≤ i.toNat) => drop_nil a i.toNat h
  repeat' (first | intro _ | apply And.intro)
  all_goals (try refine ⟨(_, _), rfl, ?_, ?_⟩)
  all_goals subst hR0
  all_goals (try simp only [F_w_heldInt64S] at *)
  all_goals grind [heldInts]
def con_w_heldInt64S : Con := ⟨true, g2 (pD (.sl (.int .i64))) (pD (.int .i64)) fun a k => .one ⟨[Q_w_heldInt64S a k], [⟨(.int .i64), .sh, F_w_heldInt64S a k⟩], []⟩, [], false, 0⟩
theorem ok_w_heldInt64S : ConOk pg 141 con_w_heldInt64S := ConOk.g2 (Enters.of (by kernel_rfl)) ct_w_heldInt64S

def F_w_markByteS (a : List (Int)) (k : Int) : Int := k + cnt false (.sl (.int .u8)) a
def B_w_markByteS_a (a : List (Int)) (k : Int) : List (Int) := mk false (.sl (.int .u8)) a k
def Q_w_markByteS (a : List (Int)) (k : Int) : Prop := 0 ≤ k ∧ k + cnt false (.sl (.int .u8)) a ≤ 4611686018427387904
def O_w_markByteS : Opt := ⟨fun i => false, fun i => (match decide (i = 2) with | true => [true, true, false, false, false, true, false, false, false, false, false, false, false, false, false, false, false, false, false, false] | false => []), fun i => .done, fun i => none, fun i => false, fun i => [], fun i => false, fun i => none⟩
def τ_w_markByteS : Env := Env.of [(3, (.int .i64)), (4, .bool), (5, (.int .u8)), (27, (.sl (.int .u8)))] [] []

theorem ct_w_markByteS (a : List (Int)) (k : Int) : Ct pg 26 [.mv (.sl (.int .u8)) (.ow .sh) a, .dat (.int .i64) k] ⟨[Q_w_markByteS a k], [⟨(.int .i64), .sh, F_w_markByteS a k⟩], [.mv (.sl (.int .u8)) (.ow .sh) (B_w_markByteS_a a k)]⟩ := by
  refine ct_claim (O := O_w_markByteS) (τ := τ_w_markByteS) (EnvOk.of (by kernel_rfl) (by kernel_rfl)) (GOk.of (.nil : AllOk pg [])) mixed (Enters.of (by kernel_rfl)) (fn := Go.Proofs.Tryz.f26) (by kernel_rfl) rfl (by kernel_rfl) ?_
  intro hp hw
  have hq : Q_w_markByteS a k := hp _ (List.mem_singleton.2 rfl)
  clear hp
  change claim Lg.std Alg.std τ_w_markByteS (Gam.of []) O_w_markByteS Go.Proofs.Tryz.f26 [.mv (.sl (.int .u8)) (.ow .sh) a, .dat (.int .i64) k] ⟨[Q_w_markByteS a k], [⟨(.int .i64), .sh, F_w_markByteS a k⟩], [.mv (.sl (.int .u8)) (.ow .sh) (B_w_markByteS_a a k)]⟩
  generalize hR0 : F_w_markByteS a k = R0
  generalize hB_a : B_w_markByteS_a a k = B_a
  generalize Q_w_markByteS a k = Q0
  generalize hL : Lg.std = L
  generalize hA : Alg.std = A
  cbv
  subst hL hA
  try dsimp only [Ty.den]
  simp only [Q_w_markByteS, cnt_int] at hq
  have hF : mk false (.sl (.int .u8)) a k = markBytes a k := mk_bytes false a k
  refine lp_v (V := (Int) × (Int) × (Nat) × (List Int)) (fun ((i, j, N, xs) : (Int) × (Int) × (Nat) × (List Int)) => ⟨[.ref (.int .u8) 0 0 [] 0 N, .dat (.int .i64) j, .junk, .junk, .junk, .dat (.int .i64) i, .junk, .junk, .junk, .junk, .junk, .junk, .junk, .junk, .junk, .junk, .junk, .junk, .junk, .junk], [some (.row 0 (.int .u8) .sh xs), some (.gh [.ref (.int .u8) 0 0 [] 0 N])]⟩) (fun ((i, j, N, xs) : (Int) × (Int) × (Nat) × (List Int)) => N = a.length ∧ xs.length = a.length ∧ 0 ≤ i ∧ i ≤ a.length ∧ j = k + i ∧ xs = (markBytes a k).take i.toNat ++ a.drop i.toNat) (fun ((i, j, N, xs) : (Int) × (Int) × (Nat) × (List Int)) => a.length - i.toNat) (0, k, _, _) rfl ?_ ?_
  · simp [Alg.std]
  rintro ⟨i, j, N, xs⟩ hf I hI
  replace hf : N = a.length ∧ xs.length = a.length ∧ 0 ≤ i ∧ i ≤ a.length ∧ j = k + i ∧ xs = (markBytes a k).take i.toNat ++ a.drop i.toNat := hf
  generalize hL : Lg.std = L
  generalize hA : Alg.std = A
  cbv
  subst hL hA
  try dsimp only [Ty.den]
  subst hI
  simp only [Lg.std, Alg.std, List.drop_zero, List.take_length]
  obtain ⟨h1, h2, h3, h4, h5, h6⟩ := hf
  have hk := fun (h : i.toNat < a.length) => mark_step a k i.toNat h
  have hml := markBytes_length a k
  have hci := cnt_int false .u8 a
  have hw8 := wrap8 j
  repeat' (first | intro _ | apply And.intro)
  all_goals (try refine ⟨(_, _, _, _), rfl, ?_, ?_⟩)
  all_goals subst hR0 hB_a
  all_goals (try simp only [F_w_markByteS, B_w_markByteS_a] at *)
  all_goals grind
def con_w_markByteS : Con := ⟨true, g2 (pV (.sl (.int .u8)) (.ow .sh)) (pD (.int .i64)) fun a k => .one ⟨[Q_w_markByteS a k], [⟨(.int .i64), .sh, F_w_markByteS a k⟩], [.mv (.sl (.int .u8)) (.ow .sh) (B_w_markByteS_a a k)]⟩, [(.ow .sh)], false, 0⟩
theorem ok_w_markByteS : ConOk pg 26 con_w_markByteS := ConOk.g2 (Enters.of (by kernel_rfl)) ct_w_markByteS

def F_w_markInt64S (a : List (Int)) (k : Int) : Int := k + cnt false (.sl (.int .i64)) a
def B_w_markInt64S_a (a : List (Int)) (k : Int) : List (Int) := mk false (.sl (.int .i64)) a k
def Q_w_markInt64S (a : List (Int)) (k : Int) : Prop := 0 ≤ k ∧ k + cnt false (.sl (.int .i64)) a ≤ 4611686018427387904
def O_w_markInt64S : Opt := ⟨fun i => false, fun i => (match decide (i = 2) with | true => [true, true, false, false, false, true, false, false, false, false, false, false, false, false, false, false, false, false, false] | false => []), fun i => .done, fun i => none, fun i => false, fun i => [], fun i => false, fun i => none⟩
def τ_w_markInt64S : Env := Env.of [(2, (.int .i64)), (3, (.int .i64)), (4, .bool), (62, (.sl (.int .i64)))] [] []

theorem ct_w_markInt64S (a : List (Int)) (k : Int) : Ct pg 91 [.mv (.sl (.int .i64)) (.ow .sh) a, .dat (.int .i64) k] ⟨[Q_w_markInt64S a k], [⟨(.int .i64), .sh, F_w_markInt64S a k⟩], [.mv (.sl (.int .i64)) (.ow .sh) (B_w_markInt64S_a a k)]⟩ := by
  refine ct_claim (O := O_w_markInt64S) (τ := τ_w_markInt64S) (EnvOk.of (by kernel_rfl) (by kernel_rfl)) (GOk.of (.nil : AllOk pg [])) mixed (Enters.of (by kernel_rfl)) (fn := Go.Proofs.Tryz.f91) (by kernel_rfl) rfl (by kernel_rfl) ?_
  intro hp hw
  have hq : Q_w_markInt64S a k := hp _ (List.mem_singleton.2 rfl)
  clear hp
  change claim Lg.std Alg.std τ_w_markInt64S (Gam.of []) O_w_markInt64S Go.Proofs.Tryz.f91 [.mv (.sl (.int .i64)) (.ow .sh) a, .dat (.int .i64) k] ⟨[Q_w_markInt64S a k], [⟨(.int .i64), .sh, F_w_markInt64S a k⟩], [.mv (.sl (.int .i64)) (.ow .sh) (B_w_markInt64S_a a k)]⟩
  generalize hR0 : F_w_markInt64S a k = R0
  generalize hB_a : B_w_markInt64S_a a k = B_a
  generalize Q_w_markInt64S a k = Q0
  generalize hL : Lg.std = L
  generalize hA : Alg.std = A
  cbv
  subst hL hA
  try dsimp only [Ty.den]
  simp only [Q_w_markInt64S, cnt_int] at hq
  have hF : mk false (.sl (.int .i64)) a k = markInts a k := mk_ints false a k hq.1 hq.2
  refine lp_v (V := (Int) × (Int) × (Nat) × (List Int)) (fun ((i, j, N, xs) : (Int) × (Int) × (Nat) × (List Int)) => ⟨[.ref (.int .i64) 0 0 [] 0 N, .dat (.int .i64) j, .junk, .junk, .junk, .dat (.int .i64) i, .junk, .junk, .junk, .junk, .junk, .junk, .junk, .junk, .junk, .junk, .junk, .junk, .junk], [some (.row 0 (.int .i64) .sh xs), some (.gh [.ref (.int .i64) 0 0 [] 0 N])]⟩) (fun ((i, j, N, xs) : (Int) × (Int) × (Nat) × (List Int)) => N = a.length ∧ xs.length = a.length ∧ 0 ≤ i ∧ i ≤ a.length ∧ j = k + i ∧ xs = (markInts a k).take i.toNat ++ a.drop i.toNat) (fun ((i, j, N, xs) : (Int) × (Int) × (Nat) × (List Int)) => a.length - i.toNat) (0, k, _, _) rfl ?_ ?_
  · simp [Alg.std]
  rintro ⟨i, j, N, xs⟩ hf I hI
  replace hf : N = a.length ∧ xs.length = a.length ∧ 0 ≤ i ∧ i ≤ a.length ∧ j = k + i ∧ xs = (markInts a k).take i.toNat ++ a.drop i.toNat := hf
  generalize hL : Lg.std = L
  generalize hA : Alg.std = A
  cbv
  subst hL hA
  try dsimp only [Ty.den]
  subst hI
  simp only [Lg.std, Alg.std, List.drop_zero, List.take_length]
  obtain ⟨h1, h2, h3, h4, h5, h6⟩ := hf
  have hk := fun (h : i.toNat < a.length) => marki_step a k i.toNat h
  have hml := markInts_length a k
  have hci := cnt_int false .i64 a
  repeat' (first | intro _ | apply And.intro)
  all_goals (try refine ⟨(_, _, _, _), rfl, ?_, ?_⟩)
  all_goals subst hR0 hB_a
  all_goals (try simp only [F_w_markInt64S, B_w_markInt64S_a] at *)
  all_goals grind
def con_w_markInt64S : Con := ⟨true, g2 (pV (.sl (.int .i64)) (.ow .sh)) (pD (.int .i64)) fun a k => .one ⟨[Q_w_markInt64S a k], [⟨(.int .i64), .sh, F_w_markInt64S a k⟩], [.mv (.sl (.int .i64)) (.ow .sh) (B_w_markInt64S_a a k)]⟩, [(.ow .sh)], false, 0⟩
theorem ok_w_markInt64S : ConOk pg 91 con_w_markInt64S := ConOk.g2 (Enters.of (by kernel_rfl)) ct_w_markInt64S
end Go.Vee
