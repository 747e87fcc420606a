/-
  Contracts of functions of the program: what each returns for all arguments that its precondition lets in.
-/
import Derived.Test.YtjlojjkfdidkiaaVK6
set_option linter.unusedSimpArgs false
set_option linter.unusedVariables false
set_option maxRecDepth 100000
set_option maxHeartbeats 4000000
set_option synthInstance.maxHeartbeats 4000000
set_option synthInstance.maxSize 20000000
namespace Go.Vee
open Go
def F_w_toPut (a : (Int) × (List (Int)) × Unit) : (Int) × (List (Int)) × Unit := a
def Q_w_toPut (a : (Int) × (List (Int)) × Unit) : Prop := tot (.pair (.int .i64) (.pair (.sl (.int .u8)) .unit)) a ≤ 1048576
def O_w_toPut : Opt := ⟨fun i => false, fun i => [], fun i => .done, fun i => none, fun i => false, fun i => [], fun i => false, fun i => none, fun i => none⟩
def τ_w_toPut : Env := Env.of [(2, (.int .i64)), (34, (.sl (.int .u8))), (120, (.pair (.int .i64) (.pair (.sl (.int .u8)) .unit))), (136, (.pair (.int .i64) (.pair (.sl (.int .u8)) .unit)))] [] []

theorem ct_w_toPut (a : (Int) × (List (Int)) × Unit) : Ct pg 108 [.dat (.pair (.int .i64) (.pair (.sl (.int .u8)) .unit)) a] ⟨[Q_w_toPut a], [⟨(.pair (.int .i64) (.pair (.sl (.int .u8)) .unit)), (.pr .sh (.pr (.ow .sh) .sh)), F_w_toPut a⟩], []⟩ := by
  refine ct_claim (O := O_w_toPut) (τ := τ_w_toPut) (EnvOk.of (by kernel_rfl) (by kernel_rfl)) (GOk.of (.cons ok_w_toByteS .nil : AllOk pg [(15, con_w_toByteS)])) mixed (Enters.of (by kernel_rfl)) (fn := Go.Proofs.Try.f108) (by kernel_rfl) rfl (by kernel_rfl) ?_
  intro hp hw
  have hq : Q_w_toPut a := hp _ (List.mem_singleton.2 rfl)
  clear hp
  change claim Lg.std Alg.std τ_w_toPut (Gam.of [(15, con_w_toByteS)]) O_w_toPut Go.Proofs.Try.f108 [.dat (.pair (.int .i64) (.pair (.sl (.int .u8)) .unit)) a] ⟨[Q_w_toPut a], [⟨(.pair (.int .i64) (.pair (.sl (.int .u8)) .unit)), (.pr .sh (.pr (.ow .sh) .sh)), F_w_toPut a⟩], []⟩
  delta con_w_toByteS
  generalize hg_F_w_toByteS : F_w_toByteS = g_F_w_toByteS
  generalize hg_Q_w_toByteS : Q_w_toByteS = g_Q_w_toByteS
  generalize hR0 : F_w_toPut a = R0
  generalize Q_w_toPut a = Q0
  generalize hL : Lg.std = L
  generalize hA : Alg.std = A
  cbv
  subst hL hA
  try dsimp only [Ty.den]
  obtain ⟨f0, f1, ⟨⟩⟩ := a
  simp only [Q_w_toPut] at hq
  subst hR0 hg_F_w_toByteS hg_Q_w_toByteS
  simp only [Lg.std, Alg.std, List.drop_zero, List.take_length, F_w_toByteS, Q_w_toByteS, F_w_toPut, szf, tot_p, tot_u, tot_i, tot_b, tot_s, cnt_p, cnt_u, cnt_i0, cnt_b0, cnt_s0, cnt_i1, cnt_b1, cnt_s1, cnt_l, mk_p, mk_u, mk_i0, mk_b0, mk_s0, mk_i1, mk_s1, mk_l, hd_p, hd_u, hd_i0, hd_b0, hd_s0, hd_i1, hd_b1, hd_s1, hd_l] at *
  all_goals grind [mk_len]
def con_w_toPut : Con := ⟨true, g1 (pD (.pair (.int .i64) (.pair (.sl (.int .u8)) .unit))) fun a => .one ⟨[Q_w_toPut a], [⟨(.pair (.int .i64) (.pair (.sl (.int .u8)) .unit)), (.pr .sh (.pr (.ow .sh) .sh)), F_w_toPut a⟩], []⟩, [], false, 0⟩
theorem ok_w_toPut : ConOk pg 108 con_w_toPut := ConOk.g1 (Enters.of (by kernel_rfl)) ct_w_toPut

def F_w_eqPut (a : (Int) × (List (Int)) × Unit) (b : (Int) × (List (Int)) × Unit) : Bool := decide (a = b)
def Q_w_eqPut (a : (Int) × (List (Int)) × Unit) (b : (Int) × (List (Int)) × Unit) : Prop := True
def O_w_eqPut : Opt := ⟨fun i => false, fun i => [], fun i => .done, fun i => none, fun i => false, fun i => [], fun i => false, fun i => none, fun i => none⟩
def τ_w_eqPut : Env := Env.of [(2, (.int .i64)), (4, .bool), (34, (.sl (.int .u8))), (120, (.pair (.int .i64) (.pair (.sl (.int .u8)) .unit)))] [] []

theorem ct_w_eqPut (a : (Int) × (List (Int)) × Unit) (b : (Int) × (List (Int)) × Unit) : Ct pg 110 [.dat (.pair (.int .i64) (.pair (.sl (.int .u8)) .unit)) a, .dat (.pair (.int .i64) (.pair (.sl (.int .u8)) .unit)) b] ⟨[Q_w_eqPut a b], [⟨.bool, .sh, F_w_eqPut a b⟩], []⟩ := by
  refine ct_claim (O := O_w_eqPut) (τ := τ_w_eqPut) (EnvOk.of (by kernel_rfl) (by kernel_rfl)) (GOk.of (.cons ok_w_eqByteS .nil : AllOk pg [(18, con_w_eqByteS)])) mixed (Enters.of (by kernel_rfl)) (fn := Go.Proofs.Try.f110) (by kernel_rfl) rfl (by kernel_rfl) ?_
  intro hp hw
  have hq : Q_w_eqPut a b := hp _ (List.mem_singleton.2 rfl)
  clear hp
  change claim Lg.std Alg.std τ_w_eqPut (Gam.of [(18, con_w_eqByteS)]) O_w_eqPut Go.Proofs.Try.f110 [.dat (.pair (.int .i64) (.pair (.sl (.int .u8)) .unit)) a, .dat (.pair (.int .i64) (.pair (.sl (.int .u8)) .unit)) b] ⟨[Q_w_eqPut a b], [⟨.bool, .sh, F_w_eqPut a b⟩], []⟩
  delta con_w_eqByteS
  generalize hg_F_w_eqByteS : F_w_eqByteS = g_F_w_eqByteS
  generalize hg_Q_w_eqByteS : Q_w_eqByteS = g_Q_w_eqByteS
  generalize hR0 : F_w_eqPut a b = R0
  generalize Q_w_eqPut a b = Q0
  generalize hL : Lg.std = L
  generalize hA : Alg.std = A
  cbv
  subst hL hA
  try dsimp only [Ty.den]
  obtain ⟨f0, f1, ⟨⟩⟩ := a
  obtain ⟨g0, g1, ⟨⟩⟩ := b
  subst hR0 hg_F_w_eqByteS hg_Q_w_eqByteS
  simp only [Q_w_eqPut] at hq
  simp only [Lg.std, Alg.std, List.drop_zero, List.take_length, F_w_eqByteS, Q_w_eqByteS, F_w_eqPut]
  all_goals grind
def con_w_eqPut : Con := ⟨true, g2 (pD (.pair (.int .i64) (.pair (.sl (.int .u8)) .unit))) (pD (.pair (.int .i64) (.pair (.sl (.int .u8)) .unit))) fun a b => .one ⟨[Q_w_eqPut a b], [⟨.bool, .sh, F_w_eqPut a b⟩], []⟩, [], false, 0⟩
theorem ok_w_eqPut : ConOk pg 110 con_w_eqPut := ConOk.g2 (Enters.of (by kernel_rfl)) ct_w_eqPut

def F_w_szPut (a : (Int) × (List (Int)) × Unit) (left : Int) : Int := szf (tot (.pair (.int .i64) (.pair (.sl (.int .u8)) .unit)) a) left
def Q_w_szPut (a : (Int) × (List (Int)) × Unit) (left : Int) : Prop := 0 ≤ left ∧ left ≤ 1048576
def O_w_szPut : Opt := ⟨fun i => false, fun i => [], fun i => .done, fun i => none, fun i => false, fun i => [], fun i => false, fun i => none, fun i => none⟩
def τ_w_szPut : Env := Env.of [(3, (.int .i64)), (4, .bool), (34, (.sl (.int .u8))), (136, (.pair (.int .i64) (.pair (.sl (.int .u8)) .unit)))] [] []

theorem ct_w_szPut (a : (Int) × (List (Int)) × Unit) (left : Int) : Ct pg 106 [.dat (.pair (.int .i64) (.pair (.sl (.int .u8)) .unit)) a, .dat (.int .i64) left] ⟨[Q_w_szPut a left], [⟨(.int .i64), .sh, F_w_szPut a left⟩], []⟩ := by
  refine ct_claim (O := O_w_szPut) (τ := τ_w_szPut) (EnvOk.of (by kernel_rfl) (by kernel_rfl)) (GOk.of (.cons ok_w_szByteS .nil : AllOk pg [(105, con_w_szByteS)])) mixed (Enters.of (by kernel_rfl)) (fn := Go.Proofs.Try.f106) (by kernel_rfl) rfl (by kernel_rfl) ?_
  intro hp hw
  have hq : Q_w_szPut a left := hp _ (List.mem_singleton.2 rfl)
  clear hp
  change claim Lg.std Alg.std τ_w_szPut (Gam.of [(105, con_w_szByteS)]) O_w_szPut Go.Proofs.Try.f106 [.dat (.pair (.int .i64) (.pair (.sl (.int .u8)) .unit)) a, .dat (.int .i64) left] ⟨[Q_w_szPut a left], [⟨(.int .i64), .sh, F_w_szPut a left⟩], []⟩
  delta con_w_szByteS
  generalize hg_F_w_szByteS : F_w_szByteS = g_F_w_szByteS
  generalize hg_Q_w_szByteS : Q_w_szByteS = g_Q_w_szByteS
  generalize hR0 : F_w_szPut a left = R0
  generalize Q_w_szPut a left = Q0
  generalize hL : Lg.std = L
  generalize hA : Alg.std = A
  cbv
  subst hL hA
  try dsimp only [Ty.den]
  obtain ⟨f0, f1, ⟨⟩⟩ := a
  simp only [Q_w_szPut] at hq
  subst hR0 hg_F_w_szByteS hg_Q_w_szByteS
  simp only [Lg.std, Alg.std, List.drop_zero, List.take_length, F_w_szByteS, Q_w_szByteS, F_w_szPut, szf, tot_p, tot_u, tot_i, tot_b, tot_s, cnt_p, cnt_u, cnt_i0, cnt_b0, cnt_s0, cnt_i1, cnt_b1, cnt_s1, cnt_l, mk_p, mk_u, mk_i0, mk_b0, mk_s0, mk_i1, mk_s1, mk_l, hd_p, hd_u, hd_i0, hd_b0, hd_s0, hd_i1, hd_b1, hd_s1, hd_l] at *
  all_goals grind [mk_len]
def con_w_szPut : Con := ⟨true, g2 (pD (.pair (.int .i64) (.pair (.sl (.int .u8)) .unit))) (pD (.int .i64)) fun a left => .one ⟨[Q_w_szPut a left], [⟨(.int .i64), .sh, F_w_szPut a left⟩], []⟩, [], false, 0⟩
theorem ok_w_szPut : ConOk pg 106 con_w_szPut := ConOk.g2 (Enters.of (by kernel_rfl)) ct_w_szPut

def F_w_szPutS (a : List ((Int) × (List (Int)) × Unit)) (left : Int) : Int := szf (tot (.sl (.pair (.int .i64) (.pair (.sl (.int .u8)) .unit))) a) left
def Q_w_szPutS (a : List ((Int) × (List (Int)) × Unit)) (left : Int) : Prop := 0 ≤ left ∧ left ≤ 1048576
def O_w_szPutS : Opt := ⟨fun i => false, fun i => (match decide (i = 5) with | true => [true, true, false, false, false, true, false, false, false, false, false, false, false, false, false, false, false, false, false, false, false, false, false, false, false, false, false] | false => []), fun i => .done, fun i => none, fun i => false, fun i => [], fun i => false, fun i => none, fun i => none⟩
def τ_w_szPutS : Env := Env.of [(3, (.int .i64)), (4, .bool), (23, (.sl (.pair (.int .i64) (.pair (.sl (.int .u8)) .unit)))), (136, (.pair (.int .i64) (.pair (.sl (.int .u8)) .unit)))] [] []

theorem ct_w_szPutS (a : List ((Int) × (List (Int)) × Unit)) (left : Int) : Ct pg 45 [.dat (.sl (.pair (.int .i64) (.pair (.sl (.int .u8)) .unit))) a, .dat (.int .i64) left] ⟨[Q_w_szPutS a left], [⟨(.int .i64), .sh, F_w_szPutS a left⟩], []⟩ := by
  refine ct_claim (O := O_w_szPutS) (τ := τ_w_szPutS) (EnvOk.of (by kernel_rfl) (by kernel_rfl)) (GOk.of (.cons ok_w_szPut .nil : AllOk pg [(106, con_w_szPut)])) mixed (Enters.of (by kernel_rfl)) (fn := Go.Proofs.Try.f45) (by kernel_rfl) rfl (by kernel_rfl) ?_
  intro hp hw
  have hq : Q_w_szPutS a left := hp _ (List.mem_singleton.2 rfl)
  clear hp
  change claim Lg.std Alg.std τ_w_szPutS (Gam.of [(106, con_w_szPut)]) O_w_szPutS Go.Proofs.Try.f45 [.dat (.sl (.pair (.int .i64) (.pair (.sl (.int .u8)) .unit))) a, .dat (.int .i64) left] ⟨[Q_w_szPutS a left], [⟨(.int .i64), .sh, F_w_szPutS a left⟩], []⟩
  delta con_w_szPut
  generalize hg_F_w_szPut : F_w_szPut = g_F_w_szPut
  generalize hg_Q_w_szPut : Q_w_szPut = g_Q_w_szPut
  generalize hR0 : F_w_szPutS a left = R0
  generalize Q_w_szPutS a left = Q0
  generalize hL : Lg.std = L
  generalize hA : Alg.std = A
  cbv
  subst hL hA
  try dsimp only [Ty.den]
  simp only [Q_w_szPutS] at hq
  have hl : a.length ≤ 9223372036854775807 := hw.1.1
  have hle := tot_len (.pair (.int .i64) (.pair (.sl (.int .u8)) .unit)) a
  refine ⟨by simp only [Alg.std]; omega, fun hlt => ?_, fun hge => ?_⟩
  · subst hR0 hg_F_w_szPut hg_Q_w_szPut
    simp only [Lg.std, Alg.std, List.drop_zero, List.take_length, F_w_szPut, Q_w_szPut, F_w_szPutS, szf, decide_eq_true_eq] at *
    grind
  refine lp_v (V := (Int) × (Int)) (fun ((i, l) : (Int) × (Int)) => ⟨[.dat (.sl (.pair (.int .i64) (.pair (.sl (.int .u8)) .unit))) a, .dat (.int .i64) l, Jk, Jk, Jk, .dat (.int .i64) i, Jk, Jk, Jk, Jk, Jk, Jk, Jk, Jk, Jk, Jk, Jk, Jk, Jk, Jk, Jk, Jk, Jk, Jk, Jk, Jk, Jk], []⟩) (fun ((i, l) : (Int) × (Int)) => 0 ≤ i ∧ i ≤ a.length ∧ 0 ≤ l ∧ l ≤ 1048576 ∧ left - (tot (.sl (.pair (.int .i64) (.pair (.sl (.int .u8)) .unit))) a : Int) = l - (tot (.sl (.pair (.int .i64) (.pair (.sl (.int .u8)) .unit))) (a.drop i.toNat : List ((Int) × (List (Int)) × Unit)) : Int) + (a.length - i)) (fun ((i, l) : (Int) × (Int)) => a.length - i.toNat) (0, _) rfl ?_ ?_
  · simp [Alg.std] at hge ⊢; omega
  rintro ⟨i, l⟩ hf I hI
  replace hf : 0 ≤ i ∧ i ≤ a.length ∧ 0 ≤ l ∧ l ≤ 1048576 ∧ left - (tot (.sl (.pair (.int .i64) (.pair (.sl (.int .u8)) .unit))) a : Int) = l - (tot (.sl (.pair (.int .i64) (.pair (.sl (.int .u8)) .unit))) (a.drop i.toNat : List ((Int) × (List (Int)) × Unit)) : Int) + (a.length - i) := hf
  generalize hL : Lg.std = L
  generalize hA : Alg.std = A
  cbv
  subst hL hA
  try dsimp only [Ty.den]
  subst hI
  simp only [Lg.std, Alg.std, List.drop_zero, List.take_length]
  obtain ⟨h1, h2, h3, h4, h5⟩ := hf
  have hs := fun (h : i.toNat < a.length) => tot_split (.pair (.int .i64) (.pair (.sl (.int .u8)) .unit)) a ((0, [], PUnit.unit) : (Int) × (List (Int)) × Unit) i.toNat h
  have hl2 := tot_len (.pair (.int .i64) (.pair (.sl (.int .u8)) .unit)) (a.drop (i.toNat + 1))
  have hl3 : (a.drop (i.toNat + 1)).length = a.length - (i.toNat + 1) := List.length_drop
  have hn := tot_nil (.pair (.int .i64) (.pair (.sl (.int .u8)) .unit))
  have hdc := fun (h : i.toNat < a.length) => drop_cons a ((0, [], PUnit.unit) : (Int) × (List (Int)) × Unit) i.toNat h
  have he := fun (h : a.length ≤ i.toNat) => drop_nil a i.toNat h
  repeat' (first | intro _ | apply And.intro)
  all_goals (try refine ⟨(_, _), rfl, ?_, ?_⟩)
  all_goals subst hR0 hg_F_w_szPut hg_Q_w_szPut
  all_goals (try simp only [F_w_szPut, Q_w_szPut, F_w_szPutS] at *)
  all_goals grind [szf]
def con_w_szPutS : Con := ⟨true, g2 (pD (.sl (.pair (.int .i64) (.pair (.sl (.int .u8)) .unit)))) (pD (.int .i64)) fun a left => .one ⟨[Q_w_szPutS a left], [⟨(.int .i64), .sh, F_w_szPutS a left⟩], []⟩, [], false, 0⟩
theorem ok_w_szPutS : ConOk pg 45 con_w_szPutS := ConOk.g2 (Enters.of (by kernel_rfl)) ct_w_szPutS

def F_w_toPutS (a : List ((Int) × (List (Int)) × Unit)) : List ((Int) × (List (Int)) × Unit) := a
def Q_w_toPutS (a : List ((Int) × (List (Int)) × Unit)) : Prop := tot (.sl (.pair (.int .i64) (.pair (.sl (.int .u8)) .unit))) a ≤ 1048576
def O_w_toPutS : Opt := ⟨fun i => false, fun i => (match decide (i = 3) with | true => [true, false, false, true, true, false, false, false, false, false, false, false, false, false, false, false, false, false, false, false, false, false, false] | false => []), fun i => .done, fun i => none, fun i => false, fun i => [], fun i => false, fun i => none, fun i => none⟩
def τ_w_toPutS : Env := Env.of [(2, (.int .i64)), (3, (.int .i64)), (4, .bool), (23, (.sl (.pair (.int .i64) (.pair (.sl (.int .u8)) .unit)))), (28, (.sl (.pair (.int .i64) (.pair (.sl (.int .u8)) .unit)))), (120, (.pair (.int .i64) (.pair (.sl (.int .u8)) .unit))), (136, (.pair (.int .i64) (.pair (.sl (.int .u8)) .unit)))] [] []

theorem ct_w_toPutS (a : List ((Int) × (List (Int)) × Unit)) : Ct pg 49 [.dat (.sl (.pair (.int .i64) (.pair (.sl (.int .u8)) .unit))) a] ⟨[Q_w_toPutS a], [⟨(.sl (.pair (.int .i64) (.pair (.sl (.int .u8)) .unit))), (.ow (.pr .sh (.pr (.ow .sh) .sh))), F_w_toPutS a⟩], []⟩ := by
  refine ct_claim (O := O_w_toPutS) (τ := τ_w_toPutS) (EnvOk.of (by kernel_rfl) (by kernel_rfl)) (GOk.of (.cons ok_w_toPut .nil : AllOk pg [(108, con_w_toPut)])) mixed (Enters.of (by kernel_rfl)) (fn := Go.Proofs.Try.f49) (by kernel_rfl) rfl (by kernel_rfl) ?_
  intro hp hw
  have hq : Q_w_toPutS a := hp _ (List.mem_singleton.2 rfl)
  clear hp
  change claim Lg.std Alg.std τ_w_toPutS (Gam.of [(108, con_w_toPut)]) O_w_toPutS Go.Proofs.Try.f49 [.dat (.sl (.pair (.int .i64) (.pair (.sl (.int .u8)) .unit))) a] ⟨[Q_w_toPutS a], [⟨(.sl (.pair (.int .i64) (.pair (.sl (.int .u8)) .unit))), (.ow (.pr .sh (.pr (.ow .sh) .sh))), F_w_toPutS a⟩], []⟩
  delta con_w_toPut
  generalize hg_F_w_toPut : F_w_toPut = g_F_w_toPut
  generalize hg_Q_w_toPut : Q_w_toPut = g_Q_w_toPut
  generalize hR0 : F_w_toPutS a = R0
  generalize Q_w_toPutS a = Q0
  generalize hL : Lg.std = L
  generalize hA : Alg.std = A
  cbv
  subst hL hA
  try dsimp only [Ty.den]
  simp only [Q_w_toPutS] at hq
  have hle := tot_len (.pair (.int .i64) (.pair (.sl (.int .u8)) .unit)) a
  refine ⟨trivial, by simp only [Alg.std]; omega, ?_⟩
  refine lp_v (V := (Int) × (Nat) × (List ((Int) × (List (Int)) × Unit))) (fun ((i, N, xs) : (Int) × (Nat) × (List ((Int) × (List (Int)) × Unit))) => ⟨[.dat (.sl (.pair (.int .i64) (.pair (.sl (.int .u8)) .unit))) a, Jk, Jk, .ref (.pair (.int .i64) (.pair (.sl (.int .u8)) .unit)) 0 0 [] 0 N, .dat (.int .i64) i, Jk, Jk, Jk, Jk, Jk, Jk, Jk, Jk, Jk, Jk, Jk, Jk, Jk, Jk, Jk, Jk, Jk, Jk], [some (.row 0 (.pair (.int .i64) (.pair (.sl (.int .u8)) .unit)) (.pr .sh (.pr (.ow .sh) .sh)) xs)]⟩) (fun ((i, N, xs) : (Int) × (Nat) × (List ((Int) × (List (Int)) × Unit))) => N = a.length ∧ 0 ≤ i ∧ i ≤ a.length ∧ xs = a.take i.toNat ++ List.replicate (a.length - i.toNat) ((0, [], PUnit.unit) : (Int) × (List (Int)) × Unit)) (fun ((i, N, xs) : (Int) × (Nat) × (List ((Int) × (List (Int)) × Unit))) => a.length - i.toNat) (0, _, _) rfl ?_ ?_
  · simp [Alg.std]
  rintro ⟨i, N, xs⟩ hf I hI
  replace hf : N = a.length ∧ 0 ≤ i ∧ i ≤ a.length ∧ xs = a.take i.toNat ++ List.replicate (a.length - i.toNat) ((0, [], PUnit.unit) : (Int) × (List (Int)) × Unit) := hf
  generalize hL : Lg.std = L
  generalize hA : Alg.std = A
  cbv
  subst hL hA
  try dsimp only [Ty.den]
  subst hI
  simp only [Lg.std, Alg.std, List.drop_zero, List.take_length]
  obtain ⟨h1, h2, h3, h4⟩ := hf
  have hk := fun (h : i.toNat < a.length) => copy_step a ((0, [], PUnit.unit) : (Int) × (List (Int)) × Unit) i.toNat h
  have hl : xs.length = a.length := by rw [h4]; simp; omega
  have ha := fun (h : i.toNat < a.length) => tot_at (.pair (.int .i64) (.pair (.sl (.int .u8)) .unit)) a ((0, [], PUnit.unit) : (Int) × (List (Int)) × Unit) i.toNat h
  repeat' (first | intro _ | apply And.intro)
  all_goals (try refine ⟨(_, _, _), rfl, ?_, ?_⟩)
  all_goals subst hR0 hg_F_w_toPut hg_Q_w_toPut
  all_goals (try simp only [F_w_toPut, Q_w_toPut, F_w_toPutS] at *)
  all_goals grind
def con_w_toPutS : Con := ⟨true, g1 (pD (.sl (.pair (.int .i64) (.pair (.sl (.int .u8)) .unit)))) fun a => .one ⟨[Q_w_toPutS a], [⟨(.sl (.pair (.int .i64) (.pair (.sl (.int .u8)) .unit))), (.ow (.pr .sh (.pr (.ow .sh) .sh))), F_w_toPutS a⟩], []⟩, [], false, 0⟩
theorem ok_w_toPutS : ConOk pg 49 con_w_toPutS := ConOk.g1 (Enters.of (by kernel_rfl)) ct_w_toPutS

def F_w_eqPutS (a : List ((Int) × (List (Int)) × Unit)) (b : List ((Int) × (List (Int)) × Unit)) : Bool := decide (a = b)
def Q_w_eqPutS (a : List ((Int) × (List (Int)) × Unit)) (b : List ((Int) × (List (Int)) × Unit)) : Prop := True
def O_w_eqPutS : Opt := ⟨fun i => (match decide (i = 6) with | true => true | false => false), fun i => (match decide (i = 4) with | true => [true, true, false, false, false, true, false, false, false, false, false, false, false, false, false, false, false, false, false, false, false, false, false, false, false, false, false] | false => []), fun i => .done, fun i => none, fun i => false, fun i => [], fun i => false, fun i => none, fun i => none⟩
def τ_w_eqPutS : Env := Env.of [(3, (.int .i64)), (4, .bool), (28, (.sl (.pair (.int .i64) (.pair (.sl (.int .u8)) .unit)))), (120, (.pair (.int .i64) (.pair (.sl (.int .u8)) .unit)))] [] []

theorem ct_w_eqPutS (a : List ((Int) × (List (Int)) × Unit)) (b : List ((Int) × (List (Int)) × Unit)) : Ct pg 52 [.dat (.sl (.pair (.int .i64) (.pair (.sl (.int .u8)) .unit))) a, .dat (.sl (.pair (.int .i64) (.pair (.sl (.int .u8)) .unit))) b] ⟨[Q_w_eqPutS a b], [⟨.bool, .sh, F_w_eqPutS a b⟩], []⟩ := by
  refine ct_claim (O := O_w_eqPutS) (τ := τ_w_eqPutS) (EnvOk.of (by kernel_rfl) (by kernel_rfl)) (GOk.of (.cons ok_w_eqPut .nil : AllOk pg [(110, con_w_eqPut)])) mixed (Enters.of (by kernel_rfl)) (fn := Go.Proofs.Try.f52) (by kernel_rfl) rfl (by kernel_rfl) ?_
  intro hp hw
  have hq : Q_w_eqPutS a b := hp _ (List.mem_singleton.2 rfl)
  clear hp
  change claim Lg.std Alg.std τ_w_eqPutS (Gam.of [(110, con_w_eqPut)]) O_w_eqPutS Go.Proofs.Try.f52 [.dat (.sl (.pair (.int .i64) (.pair (.sl (.int .u8)) .unit))) a, .dat (.sl (.pair (.int .i64) (.pair (.sl (.int .u8)) .unit))) b] ⟨[Q_w_eqPutS a b], [⟨.bool, .sh, F_w_eqPutS a b⟩], []⟩
  delta con_w_eqPut
  generalize hg_F_w_eqPut : F_w_eqPut = g_F_w_eqPut
  generalize hg_Q_w_eqPut : Q_w_eqPut = g_Q_w_eqPut
  generalize hR0 : F_w_eqPutS a b = R0
  generalize Q_w_eqPutS a b = Q0
  generalize hL : Lg.std = L
  generalize hA : Alg.std = A
  cbv
  subst hL hA
  try dsimp only [Ty.den]
  refine ⟨fun hne => ?_, fun heq => ?_⟩
  · subst hR0 hg_F_w_eqPut hg_Q_w_eqPut
    simp only [Alg.std, F_w_eqPut, Q_w_eqPut, F_w_eqPutS] at *
    grind
  refine lp_v (V := (Int)) (fun (i : Int) => ⟨[.dat (.sl (.pair (.int .i64) (.pair (.sl (.int .u8)) .unit))) a, .dat (.sl (.pair (.int .i64) (.pair (.sl (.int .u8)) .unit))) b, Jk, Jk, Jk, .dat (.int .i64) i, Jk, Jk, Jk, Jk, Jk, Jk, Jk, Jk, Jk, Jk, Jk, Jk, Jk, Jk, Jk, Jk, Jk, Jk, Jk, Jk, Jk], []⟩) (fun (i : Int) => a.length = b.length ∧ 0 ≤ i ∧ i ≤ a.length ∧ decide (a = b) = decide (a.drop i.toNat = b.drop i.toNat)) (fun (i : Int) => a.length - i.toNat) (0) rfl ?_ ?_
  · simp [Alg.std] at heq ⊢; omega
  rintro i hf I hI
  replace hf : a.length = b.length ∧ 0 ≤ i ∧ i ≤ a.length ∧ decide (a = b) = decide (a.drop i.toNat = b.drop i.toNat) := hf
  generalize hL : Lg.std = L
  generalize hA : Alg.std = A
  cbv
  subst hL hA
  try dsimp only [Ty.den]
  subst hI
  simp only [Lg.std, Alg.std, List.drop_zero, List.take_length]
  obtain ⟨h1, h2, h3, h4⟩ := hf
  have hl := hw.1.1
  have hdc := fun (h : i.toNat < a.length) => drop_cons a ((0, [], PUnit.unit) : (Int) × (List (Int)) × Unit) i.toNat h
  have he := fun (h : a.length ≤ i.toNat) => drop_nil a i.toNat h
  have hdc2 := fun (h : i.toNat < b.length) => drop_cons b ((0, [], PUnit.unit) : (Int) × (List (Int)) × Unit) i.toNat h
  have he2 := fun (h : b.length ≤ i.toNat) => drop_nil b i.toNat h
  repeat' (first | intro _ | apply And.intro)
  all_goals (try refine ⟨_, rfl, ?_, ?_⟩)
  all_goals subst hR0 hg_F_w_eqPut hg_Q_w_eqPut
  all_goals (try simp only [F_w_eqPut, Q_w_eqPut, F_w_eqPutS] at *)
  all_goals grind
def con_w_eqPutS : Con := ⟨true, g2 (pD (.sl (.pair (.int .i64) (.pair (.sl (.int .u8)) .unit)))) (pD (.sl (.pair (.int .i64) (.pair (.sl (.int .u8)) .unit)))) fun a b => .one ⟨[Q_w_eqPutS a b], [⟨.bool, .sh, F_w_eqPutS a b⟩], []⟩, [], false, 0⟩
theorem ok_w_eqPutS : ConOk pg 52 con_w_eqPutS := ConOk.g2 (Enters.of (by kernel_rfl)) ct_w_eqPutS

def F_w_markPutS (a : List ((Int) × (List (Int)) × Unit)) (k : Int) : Int := k + cnt false (.sl (.pair (.int .i64) (.pair (.sl (.int .u8)) .unit))) a
def B_w_markPutS_a (a : List ((Int) × (List (Int)) × Unit)) (k : Int) : List ((Int) × (List (Int)) × Unit) := mk false (.sl (.pair (.int .i64) (.pair (.sl (.int .u8)) .unit))) a k
def Q_w_markPutS (a : List ((Int) × (List (Int)) × Unit)) (k : Int) : Prop := 0 ≤ k ∧ k + cnt false (.sl (.pair (.int .i64) (.pair (.sl (.int .u8)) .unit))) a ≤ 4611686018427387904
def O_w_markPutS : Opt := ⟨fun i => false, fun i => (match decide (i = 2) with | true => [true, true, false, false, false, true, false, false, false, false, false, false, false, false, false, false, false, false, false, false, false, false, false, false, false, false, false] | false => []), fun i => .done, fun i => none, fun i => false, fun i => [], fun i => false, fun i => none, fun i => none⟩
def τ_w_markPutS : Env := Env.of [(2, (.int .i64)), (3, (.int .i64)), (4, .bool), (28, (.sl (.pair (.int .i64) (.pair (.sl (.int .u8)) .unit)))), (34, (.sl (.int .u8))), (120, (.pair (.int .i64) (.pair (.sl (.int .u8)) .unit)))] [] []

theorem ct_w_markPutS (a : List ((Int) × (List (Int)) × Unit)) (k : Int) : Ct pg 62 [.mv (.sl (.pair (.int .i64) (.pair (.sl (.int .u8)) .unit))) (.ow (.pr .sh (.pr (.ow .sh) .sh))) a, .dat (.int .i64) k] ⟨[Q_w_markPutS a k], [⟨(.int .i64), .sh, F_w_markPutS a k⟩], [.mv (.sl (.pair (.int .i64) (.pair (.sl (.int .u8)) .unit))) (.ow (.pr .sh (.pr (.ow .sh) .sh))) (B_w_markPutS_a a k)]⟩ := by
  refine ct_claim (O := O_w_markPutS) (τ := τ_w_markPutS) (EnvOk.of (by kernel_rfl) (by kernel_rfl)) (GOk.of (.cons ok_w_markByteS .nil : AllOk pg [(27, con_w_markByteS)])) mixed (Enters.of (by kernel_rfl)) (fn := Go.Proofs.Try.f62) (by kernel_rfl) rfl (by kernel_rfl) ?_
  intro hp hw
  have hq : Q_w_markPutS a k := hp _ (List.mem_singleton.2 rfl)
  clear hp
  change claim Lg.std Alg.std τ_w_markPutS (Gam.of [(27, con_w_markByteS)]) O_w_markPutS Go.Proofs.Try.f62 [.mv (.sl (.pair (.int .i64) (.pair (.sl (.int .u8)) .unit))) (.ow (.pr .sh (.pr (.ow .sh) .sh))) a, .dat (.int .i64) k] ⟨[Q_w_markPutS a k], [⟨(.int .i64), .sh, F_w_markPutS a k⟩], [.mv (.sl (.pair (.int .i64) (.pair (.sl (.int .u8)) .unit))) (.ow (.pr .sh (.pr (.ow .sh) .sh))) (B_w_markPutS_a a k)]⟩
  delta con_w_markByteS
  generalize hg_F_w_markByteS : F_w_markByteS = g_F_w_markByteS
  generalize hg_B_w_markByteS_a : B_w_markByteS_a = g_B_w_markByteS_a
  generalize hg_Q_w_markByteS : Q_w_markByteS = g_Q_w_markByteS
  generalize hR0 : F_w_markPutS a k = R0
  generalize hB_a : B_w_markPutS_a a k = B_a
  generalize Q_w_markPutS a k = Q0
  generalize hL : Lg.std = L
  generalize hA : Alg.std = A
  cbv
  subst hL hA
  try dsimp only [Ty.den]
  simp only [Q_w_markPutS] at hq
  refine lp_v (V := (Int) × (Int) × (Nat) × (List ((Int) × (List (Int)) × Unit))) (fun ((i, j, N, xs) : (Int) × (Int) × (Nat) × (List ((Int) × (List (Int)) × Unit))) => ⟨[.ref (.pair (.int .i64) (.pair (.sl (.int .u8)) .unit)) 0 0 [] 0 N, .dat (.int .i64) j, Jk, Jk, Jk, .dat (.int .i64) i, Jk, Jk, Jk, Jk, Jk, Jk, Jk, Jk, Jk, Jk, Jk, Jk, Jk, Jk, Jk, Jk, Jk, Jk, Jk, Jk, Jk], [some (.row 0 (.pair (.int .i64) (.pair (.sl (.int .u8)) .unit)) (.pr .sh (.pr (.ow .sh) .sh)) xs), some (.gh [.ref (.pair (.int .i64) (.pair (.sl (.int .u8)) .unit)) 0 0 [] 0 N])]⟩) (fun ((i, j, N, xs) : (Int) × (Int) × (Nat) × (List ((Int) × (List (Int)) × Unit))) => N = a.length ∧ 0 ≤ i ∧ i ≤ a.length ∧ j = k + cnt false (.sl (.pair (.int .i64) (.pair (.sl (.int .u8)) .unit))) (a.take i.toNat : List ((Int) × (List (Int)) × Unit)) ∧ xs = (mk false (.sl (.pair (.int .i64) (.pair (.sl (.int .u8)) .unit))) a k : List ((Int) × (List (Int)) × Unit)).take i.toNat ++ a.drop i.toNat) (fun ((i, j, N, xs) : (Int) × (Int) × (Nat) × (List ((Int) × (List (Int)) × Unit))) => a.length - i.toNat) (0, k, _, _) rfl ?_ ?_
  · simp [Alg.std, cnt, cntL]
  rintro ⟨i, j, N, xs⟩ hf I hI
  replace hf : N = a.length ∧ 0 ≤ i ∧ i ≤ a.length ∧ j = k + cnt false (.sl (.pair (.int .i64) (.pair (.sl (.int .u8)) .unit))) (a.take i.toNat : List ((Int) × (List (Int)) × Unit)) ∧ xs = (mk false (.sl (.pair (.int .i64) (.pair (.sl (.int .u8)) .unit))) a k : List ((Int) × (List (Int)) × Unit)).take i.toNat ++ a.drop i.toNat := hf
  generalize hL : Lg.std = L
  generalize hA : Alg.std = A
  cbv
  subst hL hA
  try dsimp only [Ty.den]
  subst hI
  simp only [Lg.std, Alg.std, List.drop_zero, List.take_length]
  obtain ⟨h1, h2, h3, h4, h5⟩ := hf
  have hl := hw.1.1
  have hk := fun (h : i.toNat < a.length) => mk_stepT (.pair (.int .i64) (.pair (.sl (.int .u8)) .unit)) a ((0, [], PUnit.unit) : (Int) × (List (Int)) × Unit) k i.toNat h
  have hm := fun (h : i.toNat < a.length) => mk_mid (.pair (.int .i64) (.pair (.sl (.int .u8)) .unit)) a ((0, [], PUnit.unit) : (Int) × (List (Int)) × Unit) k i.toNat h
  have hml := fun (h : i.toNat ≤ a.length) => mk_midlen (.pair (.int .i64) (.pair (.sl (.int .u8)) .unit)) a k i.toNat h
  have hct := fun (h : i.toNat < a.length) => cnt_take (.pair (.int .i64) (.pair (.sl (.int .u8)) .unit)) a ((0, [], PUnit.unit) : (Int) × (List (Int)) × Unit) i.toNat h
  have hcl := cnt_le (.pair (.int .i64) (.pair (.sl (.int .u8)) .unit)) a (i.toNat + 1)
  have hcl0 := cnt_le (.pair (.int .i64) (.pair (.sl (.int .u8)) .unit)) a i.toNat
  have hta := fun (h : a.length ≤ i.toNat) => List.take_of_length_le h
  have htm := fun (h : a.length ≤ i.toNat) => List.take_of_length_le (l := (mk false (.sl (.pair (.int .i64) (.pair (.sl (.int .u8)) .unit))) a k : List ((Int) × (List (Int)) × Unit))) (Nat.le_trans (Nat.le_of_eq (mk_len false (.pair (.int .i64) (.pair (.sl (.int .u8)) .unit)) a k)) h)
  have hdc := fun (h : i.toNat < a.length) => drop_cons a ((0, [], PUnit.unit) : (Int) × (List (Int)) × Unit) i.toNat h
  have he := fun (h : a.length ≤ i.toNat) => drop_nil a i.toNat h
  repeat' (first | intro _ | apply And.intro)
  all_goals (try refine ⟨(_, _, _, _), rfl, ?_, ?_⟩)
  all_goals subst hR0 hB_a hg_F_w_markByteS hg_B_w_markByteS_a hg_Q_w_markByteS
  all_goals (try simp only [F_w_markByteS, B_w_markByteS_a, Q_w_markByteS, F_w_markPutS, B_w_markPutS_a] at *)
  all_goals (try simp only [szf, tot_p, tot_u, tot_i, tot_b, tot_s, cnt_p, cnt_u, cnt_i0, cnt_b0, cnt_s0, cnt_i1, cnt_b1, cnt_s1, cnt_l, mk_p, mk_u, mk_i0, mk_b0, mk_s0, mk_i1, mk_s1, mk_l, hd_p, hd_u, hd_i0, hd_b0, hd_s0, hd_i1, hd_b1, hd_s1, hd_l] at *)
  all_goals grind [getD_set_self, List.set_set, i64_wrap]
def con_w_markPutS : Con := ⟨true, g2 (pV (.sl (.pair (.int .i64) (.pair (.sl (.int .u8)) .unit))) (.ow (.pr .sh (.pr (.ow .sh) .sh)))) (pD (.int .i64)) fun a k => .one ⟨[Q_w_markPutS a k], [⟨(.int .i64), .sh, F_w_markPutS a k⟩], [.mv (.sl (.pair (.int .i64) (.pair (.sl (.int .u8)) .unit))) (.ow (.pr .sh (.pr (.ow .sh) .sh))) (B_w_markPutS_a a k)]⟩, [(.ow (.pr .sh (.pr (.ow .sh) .sh)))], false, 0⟩
theorem ok_w_markPutS : ConOk pg 62 con_w_markPutS := ConOk.g2 (Enters.of (by kernel_rfl)) ct_w_markPutS

def F_w_toDisk (a : (List (List (Int))) × (List ((Int) × (List (Int)) × Unit)) × Unit) : (List (List (Int))) × (List ((Int) × (List (Int)) × Unit)) × Unit := a
def Q_w_toDisk (a : (List (List (Int))) × (List ((Int) × (List (Int)) × Unit)) × Unit) : Prop := tot (.pair (.sl (.sl (.int .u8))) (.pair (.sl (.pair (.int .i64) (.pair (.sl (.int .u8)) .unit))) .unit)) a ≤ 1048576
def O_w_toDisk : Opt := ⟨fun i => false, fun i => [], fun i => .done, fun i => none, fun i => false, fun i => [], fun i => false, fun i => none, fun i => none⟩
def τ_w_toDisk : Env := Env.of [(2, (.int .i64)), (22, (.sl (.sl (.int .u8)))), (23, (.sl (.pair (.int .i64) (.pair (.sl (.int .u8)) .unit)))), (25, (.pair (.sl (.sl (.int .u8))) (.pair (.sl (.pair (.int .i64) (.pair (.sl (.int .u8)) .unit))) .unit))), (28, (.sl (.pair (.int .i64) (.pair (.sl (.int .u8)) .unit)))), (30, (.pair (.sl (.sl (.int .u8))) (.pair (.sl (.pair (.int .i64) (.pair (.sl (.int .u8)) .unit))) .unit)))] [] []

theorem ct_w_toDisk (a : (List (List (Int))) × (List ((Int) × (List (Int)) × Unit)) × Unit) : Ct pg 11 [.dat (.pair (.sl (.sl (.int .u8))) (.pair (.sl (.pair (.int .i64) (.pair (.sl (.int .u8)) .unit))) .unit)) a] ⟨[Q_w_toDisk a], [⟨(.pair (.sl (.sl (.int .u8))) (.pair (.sl (.pair (.int .i64) (.pair (.sl (.int .u8)) .unit))) .unit)), (.pr (.ow (.ow .sh)) (.pr (.ow (.pr .sh (.pr (.ow .sh) .sh))) .sh)), F_w_toDisk a⟩], []⟩ := by
  refine ct_claim (O := O_w_toDisk) (τ := τ_w_toDisk) (EnvOk.of (by kernel_rfl) (by kernel_rfl)) (GOk.of (.cons ok_w_toByteSS (.cons ok_w_toPutS .nil) : AllOk pg [(48, con_w_toByteSS), (49, con_w_toPutS)])) mixed (Enters.of (by kernel_rfl)) (fn := Go.Proofs.Try.f11) (by kernel_rfl) rfl (by kernel_rfl) ?_
  intro hp hw
  have hq : Q_w_toDisk a := hp _ (List.mem_singleton.2 rfl)
  clear hp
  change claim Lg.std Alg.std τ_w_toDisk (Gam.of [(48, con_w_toByteSS), (49, con_w_toPutS)]) O_w_toDisk Go.Proofs.Try.f11 [.dat (.pair (.sl (.sl (.int .u8))) (.pair (.sl (.pair (.int .i64) (.pair (.sl (.int .u8)) .unit))) .unit)) a] ⟨[Q_w_toDisk a], [⟨(.pair (.sl (.sl (.int .u8))) (.pair (.sl (.pair (.int .i64) (.pair (.sl (.int .u8)) .unit))) .unit)), (.pr (.ow (.ow .sh)) (.pr (.ow (.pr .sh (.pr (.ow .sh) .sh))) .sh)), F_w_toDisk a⟩], []⟩
  delta con_w_toByteSS con_w_toPutS
  generalize hg_F_w_toByteSS : F_w_toByteSS = g_F_w_toByteSS
  generalize hg_Q_w_toByteSS : Q_w_toByteSS = g_Q_w_toByteSS
  generalize hg_F_w_toPutS : F_w_toPutS = g_F_w_toPutS
  generalize hg_Q_w_toPutS : Q_w_toPutS = g_Q_w_toPutS
  generalize hR0 : F_w_toDisk a = R0
  generalize Q_w_toDisk a = Q0
  generalize hL : Lg.std = L
  generalize hA : Alg.std = A
  cbv
  subst hL hA
  try dsimp only [Ty.den]
  obtain ⟨f0, f1, ⟨⟩⟩ := a
  simp only [Q_w_toDisk] at hq
  subst hR0 hg_F_w_toByteSS hg_Q_w_toByteSS hg_F_w_toPutS hg_Q_w_toPutS
  simp only [Lg.std, Alg.std, List.drop_zero, List.take_length, F_w_toByteSS, F_w_toPutS, Q_w_toByteSS, Q_w_toPutS, F_w_toDisk, szf, tot_p, tot_u, tot_i, tot_b, tot_s, cnt_p, cnt_u, cnt_i0, cnt_b0, cnt_s0, cnt_i1, cnt_b1, cnt_s1, cnt_l, mk_p, mk_u, mk_i0, mk_b0, mk_s0, mk_i1, mk_s1, mk_l, hd_p, hd_u, hd_i0, hd_b0, hd_s0, hd_i1, hd_b1, hd_s1, hd_l] at *
  all_goals grind [mk_len]
def con_w_toDisk : Con := ⟨true, g1 (pD (.pair (.sl (.sl (.int .u8))) (.pair (.sl (.pair (.int .i64) (.pair (.sl (.int .u8)) .unit))) .unit))) fun a => .one ⟨[Q_w_toDisk a], [⟨(.pair (.sl (.sl (.int .u8))) (.pair (.sl (.pair (.int .i64) (.pair (.sl (.int .u8)) .unit))) .unit)), (.pr (.ow (.ow .sh)) (.pr (.ow (.pr .sh (.pr (.ow .sh) .sh))) .sh)), F_w_toDisk a⟩], []⟩, [], false, 0⟩
theorem ok_w_toDisk : ConOk pg 11 con_w_toDisk := ConOk.g1 (Enters.of (by kernel_rfl)) ct_w_toDisk

def F_w_eqDisk (a : (List (List (Int))) × (List ((Int) × (List (Int)) × Unit)) × Unit) (b : (List (List (Int))) × (List ((Int) × (List (Int)) × Unit)) × Unit) : Bool := decide (a = b)
def Q_w_eqDisk (a : (List (List (Int))) × (List ((Int) × (List (Int)) × Unit)) × Unit) (b : (List (List (Int))) × (List ((Int) × (List (Int)) × Unit)) × Unit) : Prop := True
def O_w_eqDisk : Opt := ⟨fun i => false, fun i => [], fun i => .done, fun i => none, fun i => false, fun i => [], fun i => false, fun i => none, fun i => none⟩
def τ_w_eqDisk : Env := Env.of [(4, .bool), (22, (.sl (.sl (.int .u8)))), (28, (.sl (.pair (.int .i64) (.pair (.sl (.int .u8)) .unit)))), (30, (.pair (.sl (.sl (.int .u8))) (.pair (.sl (.pair (.int .i64) (.pair (.sl (.int .u8)) .unit))) .unit)))] [] []

theorem ct_w_eqDisk (a : (List (List (Int))) × (List ((Int) × (List (Int)) × Unit)) × Unit) (b : (List (List (Int))) × (List ((Int) × (List (Int)) × Unit)) × Unit) : Ct pg 13 [.dat (.pair (.sl (.sl (.int .u8))) (.pair (.sl (.pair (.int .i64) (.pair (.sl (.int .u8)) .unit))) .unit)) a, .dat (.pair (.sl (.sl (.int .u8))) (.pair (.sl (.pair (.int .i64) (.pair (.sl (.int .u8)) .unit))) .unit)) b] ⟨[Q_w_eqDisk a b], [⟨.bool, .sh, F_w_eqDisk a b⟩], []⟩ := by
  refine ct_claim (O := O_w_eqDisk) (τ := τ_w_eqDisk) (EnvOk.of (by kernel_rfl) (by kernel_rfl)) (GOk.of (.cons ok_w_eqByteSS (.cons ok_w_eqPutS .nil) : AllOk pg [(51, con_w_eqByteSS), (52, con_w_eqPutS)])) mixed (Enters.of (by kernel_rfl)) (fn := Go.Proofs.Try.f13) (by kernel_rfl) rfl (by kernel_rfl) ?_
  intro hp hw
  have hq : Q_w_eqDisk a b := hp _ (List.mem_singleton.2 rfl)
  clear hp
  change claim Lg.std Alg.std τ_w_eqDisk (Gam.of [(51, con_w_eqByteSS), (52, con_w_eqPutS)]) O_w_eqDisk Go.Proofs.Try.f13 [.dat (.pair (.sl (.sl (.int .u8))) (.pair (.sl (.pair (.int .i64) (.pair (.sl (.int .u8)) .unit))) .unit)) a, .dat (.pair (.sl (.sl (.int .u8))) (.pair (.sl (.pair (.int .i64) (.pair (.sl (.int .u8)) .unit))) .unit)) b] ⟨[Q_w_eqDisk a b], [⟨.bool, .sh, F_w_eqDisk a b⟩], []⟩
  delta con_w_eqByteSS con_w_eqPutS
  generalize hg_F_w_eqByteSS : F_w_eqByteSS = g_F_w_eqByteSS
  generalize hg_Q_w_eqByteSS : Q_w_eqByteSS = g_Q_w_eqByteSS
  generalize hg_F_w_eqPutS : F_w_eqPutS = g_F_w_eqPutS
  generalize hg_Q_w_eqPutS : Q_w_eqPutS = g_Q_w_eqPutS
  generalize hR0 : F_w_eqDisk a b = R0
  generalize Q_w_eqDisk a b = Q0
  generalize hL : Lg.std = L
  generalize hA : Alg.std = A
  cbv
  subst hL hA
  try dsimp only [Ty.den]
  obtain ⟨f0, f1, ⟨⟩⟩ := a
  obtain ⟨g0, g1, ⟨⟩⟩ := b
  subst hR0 hg_F_w_eqByteSS hg_Q_w_eqByteSS hg_F_w_eqPutS hg_Q_w_eqPutS
  simp only [Q_w_eqDisk] at hq
  simp only [Lg.std, Alg.std, List.drop_zero, List.take_length, F_w_eqByteSS, F_w_eqPutS, Q_w_eqByteSS, Q_w_eqPutS, F_w_eqDisk]
  all_goals grind
def con_w_eqDisk : Con := ⟨true, g2 (pD (.pair (.sl (.sl (.int .u8))) (.pair (.sl (.pair (.int .i64) (.pair (.sl (.int .u8)) .unit))) .unit))) (pD (.pair (.sl (.sl (.int .u8))) (.pair (.sl (.pair (.int .i64) (.pair (.sl (.int .u8)) .unit))) .unit))) fun a b => .one ⟨[Q_w_eqDisk a b], [⟨.bool, .sh, F_w_eqDisk a b⟩], []⟩, [], false, 0⟩
theorem ok_w_eqDisk : ConOk pg 13 con_w_eqDisk := ConOk.g2 (Enters.of (by kernel_rfl)) ct_w_eqDisk

def F_w_szDisk (a : (List (List (Int))) × (List ((Int) × (List (Int)) × Unit)) × Unit) (left : Int) : Int := szf (tot (.pair (.sl (.sl (.int .u8))) (.pair (.sl (.pair (.int .i64) (.pair (.sl (.int .u8)) .unit))) .unit)) a) left
def Q_w_szDisk (a : (List (List (Int))) × (List ((Int) × (List (Int)) × Unit)) × Unit) (left : Int) : Prop := 0 ≤ left ∧ left ≤ 1048576
def O_w_szDisk : Opt := ⟨fun i => false, fun i => [], fun i => .done, fun i => none, fun i => false, fun i => [], fun i => false, fun i => none, fun i => none⟩
def τ_w_szDisk : Env := Env.of [(3, (.int .i64)), (4, .bool), (22, (.sl (.sl (.int .u8)))), (23, (.sl (.pair (.int .i64) (.pair (.sl (.int .u8)) .unit)))), (25, (.pair (.sl (.sl (.int .u8))) (.pair (.sl (.pair (.int .i64) (.pair (.sl (.int .u8)) .unit))) .unit)))] [] []

theorem ct_w_szDisk (a : (List (List (Int))) × (List ((Int) × (List (Int)) × Unit)) × Unit) (left : Int) : Ct pg 9 [.dat (.pair (.sl (.sl (.int .u8))) (.pair (.sl (.pair (.int .i64) (.pair (.sl (.int .u8)) .unit))) .unit)) a, .dat (.int .i64) left] ⟨[Q_w_szDisk a left], [⟨(.int .i64), .sh, F_w_szDisk a left⟩], []⟩ := by
  refine ct_claim (O := O_w_szDisk) (τ := τ_w_szDisk) (EnvOk.of (by kernel_rfl) (by kernel_rfl)) (GOk.of (.cons ok_w_szByteSS (.cons ok_w_szPutS .nil) : AllOk pg [(44, con_w_szByteSS), (45, con_w_szPutS)])) mixed (Enters.of (by kernel_rfl)) (fn := Go.Proofs.Try.f9) (by kernel_rfl) rfl (by kernel_rfl) ?_
  intro hp hw
  have hq : Q_w_szDisk a left := hp _ (List.mem_singleton.2 rfl)
  clear hp
  change claim Lg.std Alg.std τ_w_szDisk (Gam.of [(44, con_w_szByteSS), (45, con_w_szPutS)]) O_w_szDisk Go.Proofs.Try.f9 [.dat (.pair (.sl (.sl (.int .u8))) (.pair (.sl (.pair (.int .i64) (.pair (.sl (.int .u8)) .unit))) .unit)) a, .dat (.int .i64) left] ⟨[Q_w_szDisk a left], [⟨(.int .i64), .sh, F_w_szDisk a left⟩], []⟩
  delta con_w_szByteSS con_w_szPutS
  generalize hg_F_w_szByteSS : F_w_szByteSS = g_F_w_szByteSS
  generalize hg_Q_w_szByteSS : Q_w_szByteSS = g_Q_w_szByteSS
  generalize hg_F_w_szPutS : F_w_szPutS = g_F_w_szPutS
  generalize hg_Q_w_szPutS : Q_w_szPutS = g_Q_w_szPutS
  generalize hR0 : F_w_szDisk a left = R0
  generalize Q_w_szDisk a left = Q0
  generalize hL : Lg.std = L
  generalize hA : Alg.std = A
  cbv
  subst hL hA
  try dsimp only [Ty.den]
  obtain ⟨f0, f1, ⟨⟩⟩ := a
  simp only [Q_w_szDisk] at hq
  subst hR0 hg_F_w_szByteSS hg_Q_w_szByteSS hg_F_w_szPutS hg_Q_w_szPutS
  simp only [Lg.std, Alg.std, List.drop_zero, List.take_length, F_w_szByteSS, F_w_szPutS, Q_w_szByteSS, Q_w_szPutS, F_w_szDisk, szf, tot_p, tot_u, tot_i, tot_b, tot_s, cnt_p, cnt_u, cnt_i0, cnt_b0, cnt_s0, cnt_i1, cnt_b1, cnt_s1, cnt_l, mk_p, mk_u, mk_i0, mk_b0, mk_s0, mk_i1, mk_s1, mk_l, hd_p, hd_u, hd_i0, hd_b0, hd_s0, hd_i1, hd_b1, hd_s1, hd_l] at *
  all_goals grind [mk_len]
def con_w_szDisk : Con := ⟨true, g2 (pD (.pair (.sl (.sl (.int .u8))) (.pair (.sl (.pair (.int .i64) (.pair (.sl (.int .u8)) .unit))) .unit))) (pD (.int .i64)) fun a left => .one ⟨[Q_w_szDisk a left], [⟨(.int .i64), .sh, F_w_szDisk a left⟩], []⟩, [], false, 0⟩
theorem ok_w_szDisk : ConOk pg 9 con_w_szDisk := ConOk.g2 (Enters.of (by kernel_rfl)) ct_w_szDisk

def F_w_markDisk (a : (List (List (Int))) × (List ((Int) × (List (Int)) × Unit)) × Unit) (k : Int) : Int := k + cnt false (.pair (.sl (.sl (.int .u8))) (.pair (.sl (.pair (.int .i64) (.pair (.sl (.int .u8)) .unit))) .unit)) a
def B_w_markDisk_a (a : (List (List (Int))) × (List ((Int) × (List (Int)) × Unit)) × Unit) (k : Int) : (List (List (Int))) × (List ((Int) × (List (Int)) × Unit)) × Unit := mk false (.pair (.sl (.sl (.int .u8))) (.pair (.sl (.pair (.int .i64) (.pair (.sl (.int .u8)) .unit))) .unit)) a k
def Q_w_markDisk (a : (List (List (Int))) × (List ((Int) × (List (Int)) × Unit)) × Unit) (k : Int) : Prop := 0 ≤ k ∧ k + cnt false (.pair (.sl (.sl (.int .u8))) (.pair (.sl (.pair (.int .i64) (.pair (.sl (.int .u8)) .unit))) .unit)) a ≤ 4611686018427387904
def O_w_markDisk : Opt := ⟨fun i => false, fun i => [], fun i => .done, fun i => none, fun i => false, fun i => [], fun i => false, fun i => none, fun i => none⟩
def τ_w_markDisk : Env := Env.of [(3, (.int .i64)), (4, .bool), (22, (.sl (.sl (.int .u8)))), (28, (.sl (.pair (.int .i64) (.pair (.sl (.int .u8)) .unit)))), (30, (.pair (.sl (.sl (.int .u8))) (.pair (.sl (.pair (.int .i64) (.pair (.sl (.int .u8)) .unit))) .unit)))] [] []

theorem ct_w_markDisk (a : (List (List (Int))) × (List ((Int) × (List (Int)) × Unit)) × Unit) (k : Int) : Ct pg 22 [.mv (.pair (.sl (.sl (.int .u8))) (.pair (.sl (.pair (.int .i64) (.pair (.sl (.int .u8)) .unit))) .unit)) (.pr (.ow (.ow .sh)) (.pr (.ow (.pr .sh (.pr (.ow .sh) .sh))) .sh)) a, .dat (.int .i64) k] ⟨[Q_w_markDisk a k], [⟨(.int .i64), .sh, F_w_markDisk a k⟩], [.mv (.pair (.sl (.sl (.int .u8))) (.pair (.sl (.pair (.int .i64) (.pair (.sl (.int .u8)) .unit))) .unit)) (.pr (.ow (.ow .sh)) (.pr (.ow (.pr .sh (.pr (.ow .sh) .sh))) .sh)) (B_w_markDisk_a a k)]⟩ := by
  refine ct_claim (O := O_w_markDisk) (τ := τ_w_markDisk) (EnvOk.of (by kernel_rfl) (by kernel_rfl)) (GOk.of (.cons ok_w_markByteSS (.cons ok_w_markPutS .nil) : AllOk pg [(61, con_w_markByteSS), (62, con_w_markPutS)])) mixed (Enters.of (by kernel_rfl)) (fn := Go.Proofs.Try.f22) (by kernel_rfl) rfl (by kernel_rfl) ?_
  intro hp hw
  have hq : Q_w_markDisk a k := hp _ (List.mem_singleton.2 rfl)
  clear hp
  change claim Lg.std Alg.std τ_w_markDisk (Gam.of [(61, con_w_markByteSS), (62, con_w_markPutS)]) O_w_markDisk Go.Proofs.Try.f22 [.mv (.pair (.sl (.sl (.int .u8))) (.pair (.sl (.pair (.int .i64) (.pair (.sl (.int .u8)) .unit))) .unit)) (.pr (.ow (.ow .sh)) (.pr (.ow (.pr .sh (.pr (.ow .sh) .sh))) .sh)) a, .dat (.int .i64) k] ⟨[Q_w_markDisk a k], [⟨(.int .i64), .sh, F_w_markDisk a k⟩], [.mv (.pair (.sl (.sl (.int .u8))) (.pair (.sl (.pair (.int .i64) (.pair (.sl (.int .u8)) .unit))) .unit)) (.pr (.ow (.ow .sh)) (.pr (.ow (.pr .sh (.pr (.ow .sh) .sh))) .sh)) (B_w_markDisk_a a k)]⟩
  delta con_w_markByteSS con_w_markPutS
  generalize hg_F_w_markByteSS : F_w_markByteSS = g_F_w_markByteSS
  generalize hg_B_w_markByteSS_a : B_w_markByteSS_a = g_B_w_markByteSS_a
  generalize hg_Q_w_markByteSS : Q_w_markByteSS = g_Q_w_markByteSS
  generalize hg_F_w_markPutS : F_w_markPutS = g_F_w_markPutS
  generalize hg_B_w_markPutS_a : B_w_markPutS_a = g_B_w_markPutS_a
  generalize hg_Q_w_markPutS : Q_w_markPutS = g_Q_w_markPutS
  generalize hR0 : F_w_markDisk a k = R0
  generalize hB_a : B_w_markDisk_a a k = B_a
  generalize Q_w_markDisk a k = Q0
  generalize hL : Lg.std = L
  generalize hA : Alg.std = A
  cbv
  subst hL hA
  try dsimp only [Ty.den]
  obtain ⟨f0, f1, ⟨⟩⟩ := a
  simp only [Q_w_markDisk] at hq
  subst hR0 hB_a hg_F_w_markByteSS hg_B_w_markByteSS_a hg_Q_w_markByteSS hg_F_w_markPutS hg_B_w_markPutS_a hg_Q_w_markPutS
  simp only [Lg.std, Alg.std, List.drop_zero, List.take_length, F_w_markByteSS, F_w_markPutS, B_w_markByteSS_a, B_w_markPutS_a, Q_w_markByteSS, Q_w_markPutS, F_w_markDisk, B_w_markDisk_a, szf, tot_p, tot_u, tot_i, tot_b, tot_s, cnt_p, cnt_u, cnt_i0, cnt_b0, cnt_s0, cnt_i1, cnt_b1, cnt_s1, cnt_l, mk_p, mk_u, mk_i0, mk_b0, mk_s0, mk_i1, mk_s1, mk_l, hd_p, hd_u, hd_i0, hd_b0, hd_s0, hd_i1, hd_b1, hd_s1, hd_l] at *
  all_goals grind [mk_len]
def con_w_markDisk : Con := ⟨true, g2 (pV (.pair (.sl (.sl (.int .u8))) (.pair (.sl (.pair (.int .i64) (.pair (.sl (.int .u8)) .unit))) .unit)) (.pr (.ow (.ow .sh)) (.pr (.ow (.pr .sh (.pr (.ow .sh) .sh))) .sh))) (pD (.int .i64)) fun a k => .one ⟨[Q_w_markDisk a k], [⟨(.int .i64), .sh, F_w_markDisk a k⟩], [.mv (.pair (.sl (.sl (.int .u8))) (.pair (.sl (.pair (.int .i64) (.pair (.sl (.int .u8)) .unit))) .unit)) (.pr (.ow (.ow .sh)) (.pr (.ow (.pr .sh (.pr (.ow .sh) .sh))) .sh)) (B_w_markDisk_a a k)]⟩, [(.pr (.ow (.ow .sh)) (.pr (.ow (.pr .sh (.pr (.ow .sh) .sh))) .sh))], false, 0⟩
theorem ok_w_markDisk : ConOk pg 22 con_w_markDisk := ConOk.g2 (Enters.of (by kernel_rfl)) ct_w_markDisk
end Go.Vee
