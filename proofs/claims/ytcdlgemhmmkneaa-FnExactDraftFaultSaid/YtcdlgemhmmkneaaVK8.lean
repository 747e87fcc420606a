/-
  Contracts of functions of the program: what each returns for all arguments that its precondition lets in.
-/
import Derived.Test.YtcdlgemhmmkneaaVK7
set_option linter.unusedSimpArgs false
set_option linter.unusedVariables false
set_option maxRecDepth 100000
set_option maxHeartbeats 4000000
set_option synthInstance.maxHeartbeats 400000
set_option synthInstance.maxSize 2000
namespace Go.Vee
open Go
theorem ext_put (x y : Int × List Int × Unit) (h1 : x.1 = y.1) (h2 : x.2.1 = y.2.1) : x = y := by
  obtain ⟨a, b, u⟩ := x
  obtain ⟨c, d, v⟩ := y
  simp_all

def F_w_toPut (a : (Int) × (List (Int)) × Unit) : (Int) × (List (Int)) × Unit := a
def Q_w_toPut (a : (Int) × (List (Int)) × Unit) : Prop := tot (.pair (.int .i64) (.pair (.sl (.int .u8)) .unit)) a ≤ 1048576
def O_w_toPut : Opt := ⟨fun i => false, fun i => [], fun i => .done, fun i => none⟩
def τ_w_toPut : Env := Env.of [(2, (.int .i64)), (22, (.sl (.int .u8))), (164, (.pair (.int .i64) (.pair (.sl (.int .u8)) .unit))), (190, (.pair (.int .i64) (.pair (.sl (.int .u8)) .unit)))] []

theorem ct_w_toPut (a : (Int) × (List (Int)) × Unit) : Ct pg 168 [.dat (.pair (.int .i64) (.pair (.sl (.int .u8)) .unit)) a] ⟨[Q_w_toPut a], [⟨(.pair (.int .i64) (.pair (.sl (.int .u8)) .unit)), (.pr .sh (.pr (.ow .sh) .sh)), F_w_toPut a⟩], []⟩ := by
  refine ct_claim (O := O_w_toPut) (τ := τ_w_toPut) (EnvOk.of (by kernel_rfl)) (GOk.of (.cons ok_w_toByteS .nil : AllOk pg [(42, con_w_toByteS)])) mixed (Enters.of (by kernel_rfl)) (fn := Go.Proofs.Try.f168) (by kernel_rfl) rfl (by kernel_rfl) ?_
  intro hp hw
  have hq : Q_w_toPut a := hp _ (List.mem_singleton.2 rfl)
  clear hp
  change claim Lg.std Alg.std τ_w_toPut (Gam.of [(42, ⟨true, g1 (pD (.sl (.int .u8))) fun a => ⟨[Q_w_toByteS a], [⟨(.sl (.int .u8)), (.ow .sh), F_w_toByteS a⟩], []⟩, []⟩)]) O_w_toPut Go.Proofs.Try.f168 [.dat (.pair (.int .i64) (.pair (.sl (.int .u8)) .unit)) a] ⟨[Q_w_toPut a], [⟨(.pair (.int .i64) (.pair (.sl (.int .u8)) .unit)), (.pr .sh (.pr (.ow .sh) .sh)), F_w_toPut a⟩], []⟩
  generalize hg_F_w_toByteS : F_w_toByteS = g_F_w_toByteS
  generalize hg_Q_w_toByteS : Q_w_toByteS = g_Q_w_toByteS
  generalize hR0 : F_w_toPut a = R0
  generalize Q_w_toPut a = Q0
  generalize hL : Lg.std = L
  generalize hA : Alg.std = A
  cbv
  subst hL hA
  try dsimp only [Ty.den]
  obtain ⟨f0, f1, ⟨⟩⟩ := a
  simp only [Q_w_toPut] at hq
  subst hR0 hg_F_w_toByteS hg_Q_w_toByteS
  simp only [Lg.std, Alg.std, List.drop_zero, List.take_length, F_w_toByteS, Q_w_toByteS, F_w_toPut, szf, tot_p, tot_u, tot_i, tot_b, tot_s, cnt_p, cnt_u, cnt_i0, cnt_b0, cnt_s0, cnt_i1, cnt_b1, cnt_s1, cnt_l, mk_p, mk_u, mk_i0, mk_b0, mk_s0, mk_i1, mk_s1, mk_l, hd_p, hd_u, hd_i0, hd_b0, hd_s0, hd_i1, hd_b1, hd_s1, hd_l] at *
  all_goals grind [mk_len]
def con_w_toPut : Con := ⟨true, g1 (pD (.pair (.int .i64) (.pair (.sl (.int .u8)) .unit))) fun a => ⟨[Q_w_toPut a], [⟨(.pair (.int .i64) (.pair (.sl (.int .u8)) .unit)), (.pr .sh (.pr (.ow .sh) .sh)), F_w_toPut a⟩], []⟩, []⟩
theorem ok_w_toPut : ConOk pg 168 con_w_toPut := ConOk.g1 (Enters.of (by kernel_rfl)) ct_w_toPut

def F_w_eqPut (a : (Int) × (List (Int)) × Unit) (b : (Int) × (List (Int)) × Unit) : Bool := decide (a = b)
def Q_w_eqPut (a : (Int) × (List (Int)) × Unit) (b : (Int) × (List (Int)) × Unit) : Prop := True
def O_w_eqPut : Opt := ⟨fun i => false, fun i => [], fun i => .done, fun i => none⟩
def τ_w_eqPut : Env := Env.of [(2, (.int .i64)), (4, .bool), (22, (.sl (.int .u8))), (164, (.pair (.int .i64) (.pair (.sl (.int .u8)) .unit)))] []

theorem ct_w_eqPut (a : (Int) × (List (Int)) × Unit) (b : (Int) × (List (Int)) × Unit) : Ct pg 169 [.dat (.pair (.int .i64) (.pair (.sl (.int .u8)) .unit)) a, .dat (.pair (.int .i64) (.pair (.sl (.int .u8)) .unit)) b] ⟨[Q_w_eqPut a b], [⟨.bool, .sh, F_w_eqPut a b⟩], []⟩ := by
  refine ct_claim (O := O_w_eqPut) (τ := τ_w_eqPut) (EnvOk.of (by kernel_rfl)) (GOk.of (.cons ok_w_eqByteS .nil : AllOk pg [(45, con_w_eqByteS)])) mixed (Enters.of (by kernel_rfl)) (fn := Go.Proofs.Try.f169) (by kernel_rfl) rfl (by kernel_rfl) ?_
  intro hp hw
  have hq : Q_w_eqPut a b := hp _ (List.mem_singleton.2 rfl)
  clear hp
  change claim Lg.std Alg.std τ_w_eqPut (Gam.of [(45, ⟨true, g2 (pD (.sl (.int .u8))) (pD (.sl (.int .u8))) fun a b => ⟨[Q_w_eqByteS a b], [⟨.bool, .sh, F_w_eqByteS a b⟩], []⟩, []⟩)]) O_w_eqPut Go.Proofs.Try.f169 [.dat (.pair (.int .i64) (.pair (.sl (.int .u8)) .unit)) a, .dat (.pair (.int .i64) (.pair (.sl (.int .u8)) .unit)) b] ⟨[Q_w_eqPut a b], [⟨.bool, .sh, F_w_eqPut a b⟩], []⟩
  generalize hg_F_w_eqByteS : F_w_eqByteS = g_F_w_eqByteS
  generalize hg_Q_w_eqByteS : Q_w_eqByteS = g_Q_w_eqByteS
  generalize hR0 : F_w_eqPut a b = R0
  generalize Q_w_eqPut a b = Q0
  generalize hL : Lg.std = L
  generalize hA : Alg.std = A
  cbv
  subst hL hA
  try dsimp only [Ty.den]
  obtain ⟨f0, f1, ⟨⟩⟩ := a
  obtain ⟨g0, g1, ⟨⟩⟩ := b
  subst hR0 hg_F_w_eqByteS hg_Q_w_eqByteS
  simp only [Q_w_eqPut] at hq
  simp only [Lg.std, Alg.std, List.drop_zero, List.take_length, F_w_eqByteS, Q_w_eqByteS, F_w_eqPut]
  all_goals grind
def con_w_eqPut : Con := ⟨true, g2 (pD (.pair (.int .i64) (.pair (.sl (.int .u8)) .unit))) (pD (.pair (.int .i64) (.pair (.sl (.int .u8)) .unit))) fun a b => ⟨[Q_w_eqPut a b], [⟨.bool, .sh, F_w_eqPut a b⟩], []⟩, []⟩
theorem ok_w_eqPut : ConOk pg 169 con_w_eqPut := ConOk.g2 (Enters.of (by kernel_rfl)) ct_w_eqPut

def F_w_szPut (a : (Int) × (List (Int)) × Unit) (left : Int) : Int := szf (tot (.pair (.int .i64) (.pair (.sl (.int .u8)) .unit)) a) left
def Q_w_szPut (a : (Int) × (List (Int)) × Unit) (left : Int) : Prop := 0 ≤ left ∧ left ≤ 1048576
def O_w_szPut : Opt := ⟨fun i => false, fun i => [], fun i => .done, fun i => none⟩
def τ_w_szPut : Env := Env.of [(3, (.int .i64)), (4, .bool), (22, (.sl (.int .u8))), (190, (.pair (.int .i64) (.pair (.sl (.int .u8)) .unit)))] []

theorem ct_w_szPut (a : (Int) × (List (Int)) × Unit) (left : Int) : Ct pg 167 [.dat (.pair (.int .i64) (.pair (.sl (.int .u8)) .unit)) a, .dat (.int .i64) left] ⟨[Q_w_szPut a left], [⟨(.int .i64), .sh, F_w_szPut a left⟩], []⟩ := by
  refine ct_claim (O := O_w_szPut) (τ := τ_w_szPut) (EnvOk.of (by kernel_rfl)) (GOk.of (.cons ok_w_szByteS .nil : AllOk pg [(71, con_w_szByteS)])) mixed (Enters.of (by kernel_rfl)) (fn := Go.Proofs.Try.f167) (by kernel_rfl) rfl (by kernel_rfl) ?_
  intro hp hw
  have hq : Q_w_szPut a left := hp _ (List.mem_singleton.2 rfl)
  clear hp
  change claim Lg.std Alg.std τ_w_szPut (Gam.of [(71, ⟨true, g2 (pD (.sl (.int .u8))) (pD (.int .i64)) fun a left => ⟨[Q_w_szByteS a left], [⟨(.int .i64), .sh, F_w_szByteS a left⟩], []⟩, []⟩)]) O_w_szPut Go.Proofs.Try.f167 [.dat (.pair (.int .i64) (.pair (.sl (.int .u8)) .unit)) a, .dat (.int .i64) left] ⟨[Q_w_szPut a left], [⟨(.int .i64), .sh, F_w_szPut a left⟩], []⟩
  generalize hg_F_w_szByteS : F_w_szByteS = g_F_w_szByteS
  generalize hg_Q_w_szByteS : Q_w_szByteS = g_Q_w_szByteS
  generalize hR0 : F_w_szPut a left = R0
  generalize Q_w_szPut a left = Q0
  generalize hL : Lg.std = L
  generalize hA : Alg.std = A
  cbv
  subst hL hA
  try dsimp only [Ty.den]
  obtain ⟨f0, f1, ⟨⟩⟩ := a
  simp only [Q_w_szPut] at hq
  subst hR0 hg_F_w_szByteS hg_Q_w_szByteS
  simp only [Lg.std, Alg.std, List.drop_zero, List.take_length, F_w_szByteS, Q_w_szByteS, F_w_szPut, szf, tot_p, tot_u, tot_i, tot_b, tot_s, cnt_p, cnt_u, cnt_i0, cnt_b0, cnt_s0, cnt_i1, cnt_b1, cnt_s1, cnt_l, mk_p, mk_u, mk_i0, mk_b0, mk_s0, mk_i1, mk_s1, mk_l, hd_p, hd_u, hd_i0, hd_b0, hd_s0, hd_i1, hd_b1, hd_s1, hd_l] at *
  all_goals grind [mk_len]
def con_w_szPut : Con := ⟨true, g2 (pD (.pair (.int .i64) (.pair (.sl (.int .u8)) .unit))) (pD (.int .i64)) fun a left => ⟨[Q_w_szPut a left], [⟨(.int .i64), .sh, F_w_szPut a left⟩], []⟩, []⟩
theorem ok_w_szPut : ConOk pg 167 con_w_szPut := ConOk.g2 (Enters.of (by kernel_rfl)) ct_w_szPut

def F_w_szPutS (a : List ((Int) × (List (Int)) × Unit)) (left : Int) : Int := szf (tot (.sl (.pair (.int .i64) (.pair (.sl (.int .u8)) .unit))) a) left
def Q_w_szPutS (a : List ((Int) × (List (Int)) × Unit)) (left : Int) : Prop := 0 ≤ left ∧ left ≤ 1048576
def O_w_szPutS : Opt := ⟨fun i => false, fun i => (match decide (i = 5) with | true => [true, true, false, false, false, true, false, false, false, false, false, false, false, false, false, false, false, false, false, false, false, false, false, false, false, false, false] | false => []), fun i => .done, fun i => none⟩
def τ_w_szPutS : Env := Env.of [(3, (.int .i64)), (4, .bool), (82, (.sl (.pair (.int .i64) (.pair (.sl (.int .u8)) .unit)))), (190, (.pair (.int .i64) (.pair (.sl (.int .u8)) .unit)))] []

theorem ct_w_szPutS (a : List ((Int) × (List (Int)) × Unit)) (left : Int) : Ct pg 150 [.dat (.sl (.pair (.int .i64) (.pair (.sl (.int .u8)) .unit))) a, .dat (.int .i64) left] ⟨[Q_w_szPutS a left], [⟨(.int .i64), .sh, F_w_szPutS a left⟩], []⟩ := by
  refine ct_claim (O := O_w_szPutS) (τ := τ_w_szPutS) (EnvOk.of (by kernel_rfl)) (GOk.of (.cons ok_w_szPut .nil : AllOk pg [(167, con_w_szPut)])) mixed (Enters.of (by kernel_rfl)) (fn := Go.Proofs.Try.f150) (by kernel_rfl) rfl (by kernel_rfl) ?_
  intro hp hw
  have hq : Q_w_szPutS a left := hp _ (List.mem_singleton.2 rfl)
  clear hp
  change claim Lg.std Alg.std τ_w_szPutS (Gam.of [(167, ⟨true, g2 (pD (.pair (.int .i64) (.pair (.sl (.int .u8)) .unit))) (pD (.int .i64)) fun a left => ⟨[Q_w_szPut a left], [⟨(.int .i64), .sh, F_w_szPut a left⟩], []⟩, []⟩)]) O_w_szPutS Go.Proofs.Try.f150 [.dat (.sl (.pair (.int .i64) (.pair (.sl (.int .u8)) .unit))) a, .dat (.int .i64) left] ⟨[Q_w_szPutS a left], [⟨(.int .i64), .sh, F_w_szPutS a left⟩], []⟩
  generalize hg_F_w_szPut : F_w_szPut = g_F_w_szPut
  generalize hg_Q_w_szPut : Q_w_szPut = g_Q_w_szPut
  generalize hR0 : F_w_szPutS a left = R0
  generalize Q_w_szPutS a left = Q0
  generalize hL : Lg.std = L
  generalize hA : Alg.std = A
  cbv
  subst hL hA
  try dsimp only [Ty.den]
  simp only [Q_w_szPutS] at hq
  have hl : a.length ≤ 9223372036854775807 := hw.1.1
  have hle := tot_len (.pair (.int .i64) (.pair (.sl (.int .u8)) .unit)) a
  refine ⟨by simp only [Alg.std]; omega, fun hlt => ?_, fun hge => ?_⟩
  · subst hR0 hg_F_w_szPut hg_Q_w_szPut
    simp only [Lg.std, Alg.std, List.drop_zero, List.take_length, F_w_szPut, Q_w_szPut, F_w_szPutS, szf, decide_eq_true_eq] at *
    grind
  refine lp_v (V := (Int) × (Int)) (fun ((i, l) : (Int) × (Int)) => ⟨[.dat (.sl (.pair (.int .i64) (.pair (.sl (.int .u8)) .unit))) a, .dat (.int .i64) l, .junk, .junk, .junk, .dat (.int .i64) i, .junk, .junk, .junk, .junk, .junk, .junk, .junk, .junk, .junk, .junk, .junk, .junk, .junk, .junk, .junk, .junk, .junk, .junk, .junk, .junk, .junk], []⟩) (fun ((i, l) : (Int) × (Int)) => 0 ≤ i ∧ i ≤ a.length ∧ 0 ≤ l ∧ l ≤ 1048576 ∧ left - (tot (.sl (.pair (.int .i64) (.pair (.sl (.int .u8)) .unit))) a : Int) = l - (tot (.sl (.pair (.int .i64) (.pair (.sl (.int .u8)) .unit))) (a.drop i.toNat : List ((Int) × (List (Int)) × Unit)) : Int) + (a.length - i)) (fun ((i, l) : (Int) × (Int)) => a.length - i.toNat) (0, _) rfl ?_ ?_
  · simp [Alg.std] at hge ⊢; omega
  rintro ⟨i, l⟩ hf I hI
  replace hf : 0 ≤ i ∧ i ≤ a.length ∧ 0 ≤ l ∧ l ≤ 1048576 ∧ left - (tot (.sl (.pair (.int .i64) (.pair (.sl (.int .u8)) .unit))) a : Int) = l - (tot (.sl (.pair (.int .i64) (.pair (.sl (.int .u8)) .unit))) (a.drop i.toNat : List ((Int) × (List (Int)) × Unit)) : Int) + (a.length - i) := hf
  generalize hL : Lg.std = L
  generalize hA : Alg.std = A
  cbv
  subst hL hA
  try dsimp only [Ty.den]
  subst hI
  simp only [Lg.std, Alg.std, List.drop_zero, List.take_length]
  obtain ⟨h1, h2, h3, h4, h5⟩ := hf
  have hs := fun (h : i.toNat < a.length) => tot_split (.pair (.int .i64) (.pair (.sl (.int .u8)) .unit)) a ((0, [], PUnit.unit) : (Int) × (List (Int)) × Unit) i.toNat h
  have hl2 := tot_len (.pair (.int .i64) (.pair (.sl (.int .u8)) .unit)) (a.drop (i.toNat + 1))
  have hl3 : (a.drop (i.toNat + 1)).length = a.length - (i.toNat + 1) := List.length_drop
  have hn := tot_nil (.pair (.int .i64) (.pair (.sl (.int .u8)) .unit))
  have hdc := fun (h : i.toNat < a.length) => drop_cons a ((0, [], PUnit.unit) : (Int) × (List (Int)) × Unit) i.toNat h
  have he := fun (h : a.length ≤ i.toNat) => drop_nil a i.toNat h
  repeat' (first | intro _ | apply And.intro)
  all_goals (try refine ⟨(_, _), rfl, ?_, ?_⟩)
  all_goals subst hR0 hg_F_w_szPut hg_Q_w_szPut
  all_goals (try simp only [F_w_szPut, Q_w_szPut, F_w_szPutS] at *)
  all_goals grind [szf]
def con_w_szPutS : Con := ⟨true, g2 (pD (.sl (.pair (.int .i64) (.pair (.sl (.int .u8)) .unit)))) (pD (.int .i64)) fun a left => ⟨[Q_w_szPutS a left], [⟨(.int .i64), .sh, F_w_szPutS a left⟩], []⟩, []⟩
theorem ok_w_szPutS : ConOk pg 150 con_w_szPutS := ConOk.g2 (Enters.of (by kernel_rfl)) ct_w_szPutS

def F_w_toPutS (a : List ((Int) × (List (Int)) × Unit)) : List ((Int) × (List (Int)) × Unit) := a
def Q_w_toPutS (a : List ((Int) × (List (Int)) × Unit)) : Prop := tot (.sl (.pair (.int .i64) (.pair (.sl (.int .u8)) .unit))) a ≤ 1048576
def O_w_toPutS : Opt := ⟨fun i => false, fun i => (match decide (i = 3) with | true => [true, false, false, true, true, false, false, false, false, false, false, false, false, false, false, false, false, false, false, false, false, false, false] | false => []), fun i => .done, fun i => none⟩
def τ_w_toPutS : Env := Env.of [(2, (.int .i64)), (3, (.int .i64)), (4, .bool), (82, (.sl (.pair (.int .i64) (.pair (.sl (.int .u8)) .unit)))), (89, (.sl (.pair (.int .i64) (.pair (.sl (.int .u8)) .unit)))), (164, (.pair (.int .i64) (.pair (.sl (.int .u8)) .unit))), (190, (.pair (.int .i64) (.pair (.sl (.int .u8)) .unit)))] []

theorem ct_w_toPutS (a : List ((Int) × (List (Int)) × Unit)) : Ct pg 151 [.dat (.sl (.pair (.int .i64) (.pair (.sl (.int .u8)) .unit))) a] ⟨[Q_w_toPutS a], [⟨(.sl (.pair (.int .i64) (.pair (.sl (.int .u8)) .unit))), (.ow (.pr .sh (.pr (.ow .sh) .sh))), F_w_toPutS a⟩], []⟩ := by
  refine ct_claim (O := O_w_toPutS) (τ := τ_w_toPutS) (EnvOk.of (by kernel_rfl)) (GOk.of (.cons ok_w_toPut .nil : AllOk pg [(168, con_w_toPut)])) mixed (Enters.of (by kernel_rfl)) (fn := Go.Proofs.Try.f151) (by kernel_rfl) rfl (by kernel_rfl) ?_
  intro hp hw
  have hq : Q_w_toPutS a := hp _ (List.mem_singleton.2 rfl)
  clear hp
  change claim Lg.std Alg.std τ_w_toPutS (Gam.of [(168, ⟨true, g1 (pD (.pair (.int .i64) (.pair (.sl (.int .u8)) .unit))) fun a => ⟨[Q_w_toPut a], [⟨(.pair (.int .i64) (.pair (.sl (.int .u8)) .unit)), (.pr .sh (.pr (.ow .sh) .sh)), F_w_toPut a⟩], []⟩, []⟩)]) O_w_toPutS Go.Proofs.Try.f151 [.dat (.sl (.pair (.int .i64) (.pair (.sl (.int .u8)) .unit))) a] ⟨[Q_w_toPutS a], [⟨(.sl (.pair (.int .i64) (.pair (.sl (.int .u8)) .unit))), (.ow (.pr .sh (.pr (.ow .sh) .sh))), F_w_toPutS a⟩], []⟩
  generalize hg_F_w_toPut : F_w_toPut = g_F_w_toPut
  generalize hg_Q_w_toPut : Q_w_toPut = g_Q_w_toPut
  generalize hR0 : F_w_toPutS a = R0
  generalize Q_w_toPutS a = Q0
  generalize hL : Lg.std = L
  generalize hA : Alg.std = A
  cbv
  subst hL hA
  try dsimp only [Ty.den]
  simp only [Q_w_toPutS] at hq
  have hle := tot_len (.pair (.int .i64) (.pair (.sl (.int .u8)) .unit)) a
  refine ⟨trivial, by simp only [Alg.std]; omega, ?_⟩
  refine lp_v (V := (Int) × (Nat) × (List ((Int) × (List (Int)) × Unit))) (fun ((i, N, xs) : (Int) × (Nat) × (List ((Int) × (List (Int)) × Unit))) => ⟨[.dat (.sl (.pair (.int .i64) (.pair (.sl (.int .u8)) .unit))) a, .junk, .junk, .ref (.pair (.int .i64) (.pair (.sl (.int .u8)) .unit)) 0 0 [] 0 N, .dat (.int .i64) i, .junk, .junk, .junk, .junk, .junk, .junk, .junk, .junk, .junk, .junk, .junk, .junk, .junk, .junk, .junk, .junk, .junk, .junk], [some (.row 0 (.pair (.int .i64) (.pair (.sl (.int .u8)) .unit)) (.pr .sh (.pr (.ow .sh) .sh)) xs)]⟩) (fun ((i, N, xs) : (Int) × (Nat) × (List ((Int) × (List (Int)) × Unit))) => N = a.length ∧ 0 ≤ i ∧ i ≤ a.length ∧ xs = a.take i.toNat ++ List.replicate (a.length - i.toNat) ((0, [], PUnit.unit) : (Int) × (List (Int)) × Unit)) (fun ((i, N, xs) : (Int) × (Nat) × (List ((Int) × (List (Int)) × Unit))) => a.length - i.toNat) (0, _, _) rfl ?_ ?_
  · simp [Alg.std]
  rintro ⟨i, N, xs⟩ hf I hI
  replace hf : N = a.length ∧ 0 ≤ i ∧ i ≤ a.length ∧ xs = a.take i.toNat ++ List.replicate (a.length - i.toNat) ((0, [], PUnit.unit) : (Int) × (List (Int)) × Unit) := hf
  generalize hL : Lg.std = L
  generalize hA : Alg.std = A
  cbv
  subst hL hA
  try dsimp only [Ty.den]
  subst hI
  simp only [Lg.std, Alg.std, List.drop_zero, List.take_length]
  obtain ⟨h1, h2, h3, h4⟩ := hf
  have hk := fun (h : i.toNat < a.length) => copy_step a ((0, [], PUnit.unit) : (Int) × (List (Int)) × Unit) i.toNat h
  have hl : xs.length = a.length := by rw [h4]; simp; omega
  have ha := fun (h : i.toNat < a.length) => tot_at (.pair (.int .i64) (.pair (.sl (.int .u8)) .unit)) a ((0, [], PUnit.unit) : (Int) × (List (Int)) × Unit) i.toNat h
  repeat' (first | intro _ | apply And.intro)
  all_goals (try refine ⟨(_, _, _), rfl, ?_, ?_⟩)
  all_goals subst hR0 hg_F_w_toPut hg_Q_w_toPut
  all_goals (try simp only [F_w_toPut, Q_w_toPut, F_w_toPutS] at *)
  all_goals grind
def con_w_toPutS : Con := ⟨true, g1 (pD (.sl (.pair (.int .i64) (.pair (.sl (.int .u8)) .unit)))) fun a => ⟨[Q_w_toPutS a], [⟨(.sl (.pair (.int .i64) (.pair (.sl (.int .u8)) .unit))), (.ow (.pr .sh (.pr (.ow .sh) .sh))), F_w_toPutS a⟩], []⟩, []⟩
theorem ok_w_toPutS : ConOk pg 151 con_w_toPutS := ConOk.g1 (Enters.of (by kernel_rfl)) ct_w_toPutS

def F_w_eqPutS (a : List ((Int) × (List (Int)) × Unit)) (b : List ((Int) × (List (Int)) × Unit)) : Bool := decide (a = b)
def Q_w_eqPutS (a : List ((Int) × (List (Int)) × Unit)) (b : List ((Int) × (List (Int)) × Unit)) : Prop := True
def O_w_eqPutS : Opt := ⟨fun i => (match decide (i = 6) with | true => true | false => false), fun i => (match decide (i = 4) with | true => [true, true, false, false, false, true, false, false, false, false, false, false, false, false, false, false, false, false, false, false, false, false, false, false, false, false, false] | false => []), fun i => .done, fun i => none⟩
def τ_w_eqPutS : Env := Env.of [(3, (.int .i64)), (4, .bool), (89, (.sl (.pair (.int .i64) (.pair (.sl (.int .u8)) .unit)))), (164, (.pair (.int .i64) (.pair (.sl (.int .u8)) .unit)))] []

theorem ct_w_eqPutS (a : List ((Int) × (List (Int)) × Unit)) (b : List ((Int) × (List (Int)) × Unit)) : Ct pg 154 [.dat (.sl (.pair (.int .i64) (.pair (.sl (.int .u8)) .unit))) a, .dat (.sl (.pair (.int .i64) (.pair (.sl (.int .u8)) .unit))) b] ⟨[Q_w_eqPutS a b], [⟨.bool, .sh, F_w_eqPutS a b⟩], []⟩ := by
  refine ct_claim (O := O_w_eqPutS) (τ := τ_w_eqPutS) (EnvOk.of (by kernel_rfl)) (GOk.of (.cons ok_w_eqPut .nil : AllOk pg [(169, con_w_eqPut)])) mixed (Enters.of (by kernel_rfl)) (fn := Go.Proofs.Try.f154) (by kernel_rfl) rfl (by kernel_rfl) ?_
  intro hp hw
  have hq : Q_w_eqPutS a b := hp _ (List.mem_singleton.2 rfl)
  clear hp
  change claim Lg.std Alg.std τ_w_eqPutS (Gam.of [(169, ⟨true, g2 (pD (.pair (.int .i64) (.pair (.sl (.int .u8)) .unit))) (pD (.pair (.int .i64) (.pair (.sl (.int .u8)) .unit))) fun a b => ⟨[Q_w_eqPut a b], [⟨.bool, .sh, F_w_eqPut a b⟩], []⟩, []⟩)]) O_w_eqPutS Go.Proofs.Try.f154 [.dat (.sl (.pair (.int .i64) (.pair (.sl (.int .u8)) .unit))) a, .dat (.sl (.pair (.int .i64) (.pair (.sl (.int .u8)) .unit))) b] ⟨[Q_w_eqPutS a b], [⟨.bool, .sh, F_w_eqPutS a b⟩], []⟩
  generalize hg_F_w_eqPut : F_w_eqPut = g_F_w_eqPut
  generalize hg_Q_w_eqPut : Q_w_eqPut = g_Q_w_eqPut
  generalize hR0 : F_w_eqPutS a b = R0
  generalize Q_w_eqPutS a b = Q0
  generalize hL : Lg.std = L
  generalize hA : Alg.std = A
  cbv
  subst hL hA
  try dsimp only [Ty.den]
  refine ⟨fun hne => ?_, fun heq => ?_⟩
  · subst hR0 hg_F_w_eqPut hg_Q_w_eqPut
    simp only [Alg.std, F_w_eqPut, Q_w_eqPut, F_w_eqPutS] at *
    grind
  refine lp_v (V := (Int)) (fun (i : Int) => ⟨[.dat (.sl (.pair (.int .i64) (.pair (.sl (.int .u8)) .unit))) a, .dat (.sl (.pair (.int .i64) (.pair (.sl (.int .u8)) .unit))) b, .junk, .junk, .junk, .dat (.int .i64) i, .junk, .junk, .junk, .junk, .junk, .junk, .junk, .junk, .junk, .junk, .junk, .junk, .junk, .junk, .junk, .junk, .junk, .junk, .junk, .junk, .junk], []⟩) (fun (i : Int) => a.length = b.length ∧ 0 ≤ i ∧ i ≤ a.length ∧ decide (a = b) = decide (a.drop i.toNat = b.drop i.toNat)) (fun (i : Int) => a.length - i.toNat) (0) rfl ?_ ?_
  · simp [Alg.std] at heq ⊢; omega
  rintro i hf I hI
  replace hf : a.length = b.length ∧ 0 ≤ i ∧ i ≤ a.length ∧ decide (a = b) = decide (a.drop i.toNat = b.drop i.toNat) := hf
  generalize hL : Lg.std = L
  generalize hA : Alg.std = A
  cbv
  subst hL hA
  try dsimp only [Ty.den]
  subst hI
  simp only [Lg.std, Alg.std, List.drop_zero, List.take_length]
  obtain ⟨h1, h2, h3, h4⟩ := hf
  have hl := hw.1.1
  have hdc := fun (h : i.toNat < a.length) => drop_cons a ((0, [], PUnit.unit) : (Int) × (List (Int)) × Unit) i.toNat h
  have he := fun (h : a.length ≤ i.toNat) => drop_nil a i.toNat h
  have hdc2 := fun (h : i.toNat < b.length) => drop_cons b ((0, [], PUnit.unit) : (Int) × (List (Int)) × Unit) i.toNat h
  have he2 := fun (h : b.length ≤ i.toNat) => drop_nil b i.toNat h
  repeat' (first | intro _ | apply And.intro)
  all_goals (try refine ⟨_, rfl, ?_, ?_⟩)
  all_goals subst hR0 hg_F_w_eqPut hg_Q_w_eqPut
  all_goals (try simp only [F_w_eqPut, Q_w_eqPut, F_w_eqPutS] at *)
  all_goals grind
def con_w_eqPutS : Con := ⟨true, g2 (pD (.sl (.pair (.int .i64) (.pair (.sl (.int .u8)) .unit)))) (pD (.sl (.pair (.int .i64) (.pair (.sl (.int .u8)) .unit)))) fun a b => ⟨[Q_w_eqPutS a b], [⟨.bool, .sh, F_w_eqPutS a b⟩], []⟩, []⟩
theorem ok_w_eqPutS : ConOk pg 154 con_w_eqPutS := ConOk.g2 (Enters.of (by kernel_rfl)) ct_w_eqPutS

def F_w_toDisk (a : (List (List (Int))) × (List ((Int) × (List (Int)) × Unit)) × Unit) : (List (List (Int))) × (List ((Int) × (List (Int)) × Unit)) × Unit := a
def Q_w_toDisk (a : (List (List (Int))) × (List ((Int) × (List (Int)) × Unit)) × Unit) : Prop := tot (.pair (.sl (.sl (.int .u8))) (.pair (.sl (.pair (.int .i64) (.pair (.sl (.int .u8)) .unit))) .unit)) a ≤ 1048576
def O_w_toDisk : Opt := ⟨fun i => false, fun i => [], fun i => .done, fun i => none⟩
def τ_w_toDisk : Env := Env.of [(2, (.int .i64)), (43, (.sl (.sl (.int .u8)))), (82, (.sl (.pair (.int .i64) (.pair (.sl (.int .u8)) .unit)))), (84, (.pair (.sl (.sl (.int .u8))) (.pair (.sl (.pair (.int .i64) (.pair (.sl (.int .u8)) .unit))) .unit))), (89, (.sl (.pair (.int .i64) (.pair (.sl (.int .u8)) .unit)))), (91, (.pair (.sl (.sl (.int .u8))) (.pair (.sl (.pair (.int .i64) (.pair (.sl (.int .u8)) .unit))) .unit)))] []

theorem ct_w_toDisk (a : (List (List (Int))) × (List ((Int) × (List (Int)) × Unit)) × Unit) : Ct pg 120 [.dat (.pair (.sl (.sl (.int .u8))) (.pair (.sl (.pair (.int .i64) (.pair (.sl (.int .u8)) .unit))) .unit)) a] ⟨[Q_w_toDisk a], [⟨(.pair (.sl (.sl (.int .u8))) (.pair (.sl (.pair (.int .i64) (.pair (.sl (.int .u8)) .unit))) .unit)), (.pr (.ow (.ow .sh)) (.pr (.ow (.pr .sh (.pr (.ow .sh) .sh))) .sh)), F_w_toDisk a⟩], []⟩ := by
  refine ct_claim (O := O_w_toDisk) (τ := τ_w_toDisk) (EnvOk.of (by kernel_rfl)) (GOk.of (.cons ok_w_toByteSS (.cons ok_w_toPutS .nil) : AllOk pg [(88, con_w_toByteSS), (151, con_w_toPutS)])) mixed (Enters.of (by kernel_rfl)) (fn := Go.Proofs.Try.f120) (by kernel_rfl) rfl (by kernel_rfl) ?_
  intro hp hw
  have hq : Q_w_toDisk a := hp _ (List.mem_singleton.2 rfl)
  clear hp
  change claim Lg.std Alg.std τ_w_toDisk (Gam.of [(88, ⟨true, g1 (pD (.sl (.sl (.int .u8)))) fun a => ⟨[Q_w_toByteSS a], [⟨(.sl (.sl (.int .u8))), (.ow (.ow .sh)), F_w_toByteSS a⟩], []⟩, []⟩), (151, ⟨true, g1 (pD (.sl (.pair (.int .i64) (.pair (.sl (.int .u8)) .unit)))) fun a => ⟨[Q_w_toPutS a], [⟨(.sl (.pair (.int .i64) (.pair (.sl (.int .u8)) .unit))), (.ow (.pr .sh (.pr (.ow .sh) .sh))), F_w_toPutS a⟩], []⟩, []⟩)]) O_w_toDisk Go.Proofs.Try.f120 [.dat (.pair (.sl (.sl (.int .u8))) (.pair (.sl (.pair (.int .i64) (.pair (.sl (.int .u8)) .unit))) .unit)) a] ⟨[Q_w_toDisk a], [⟨(.pair (.sl (.sl (.int .u8))) (.pair (.sl (.pair (.int .i64) (.pair (.sl (.int .u8)) .unit))) .unit)), (.pr (.ow (.ow .sh)) (.pr (.ow (.pr .sh (.pr (.ow .sh) .sh))) .sh)), F_w_toDisk a⟩], []⟩
  generalize hg_F_w_toByteSS : F_w_toByteSS = g_F_w_toByteSS
  generalize hg_Q_w_toByteSS : Q_w_toByteSS = g_Q_w_toByteSS
  generalize hg_F_w_toPutS : F_w_toPutS = g_F_w_toPutS
  generalize hg_Q_w_toPutS : Q_w_toPutS = g_Q_w_toPutS
  generalize hR0 : F_w_toDisk a = R0
  generalize Q_w_toDisk a = Q0
  generalize hL : Lg.std = L
  generalize hA : Alg.std = A
  cbv
  subst hL hA
  try dsimp only [Ty.den]
  obtain ⟨f0, f1, ⟨⟩⟩ := a
  simp only [Q_w_toDisk] at hq
  subst hR0 hg_F_w_toByteSS hg_Q_w_toByteSS hg_F_w_toPutS hg_Q_w_toPutS
  simp only [Lg.std, Alg.std, List.drop_zero, List.take_length, F_w_toByteSS, F_w_toPutS, Q_w_toByteSS, Q_w_toPutS, F_w_toDisk, szf, tot_p, tot_u, tot_i, tot_b, tot_s, cnt_p, cnt_u, cnt_i0, cnt_b0, cnt_s0, cnt_i1, cnt_b1, cnt_s1, cnt_l, mk_p, mk_u, mk_i0, mk_b0, mk_s0, mk_i1, mk_s1, mk_l, hd_p, hd_u, hd_i0, hd_b0, hd_s0, hd_i1, hd_b1, hd_s1, hd_l] at *
  all_goals grind [mk_len]
def con_w_toDisk : Con := ⟨true, g1 (pD (.pair (.sl (.sl (.int .u8))) (.pair (.sl (.pair (.int .i64) (.pair (.sl (.int .u8)) .unit))) .unit))) fun a => ⟨[Q_w_toDisk a], [⟨(.pair (.sl (.sl (.int .u8))) (.pair (.sl (.pair (.int .i64) (.pair (.sl (.int .u8)) .unit))) .unit)), (.pr (.ow (.ow .sh)) (.pr (.ow (.pr .sh (.pr (.ow .sh) .sh))) .sh)), F_w_toDisk a⟩], []⟩, []⟩
theorem ok_w_toDisk : ConOk pg 120 con_w_toDisk := ConOk.g1 (Enters.of (by kernel_rfl)) ct_w_toDisk

def F_w_eqDisk (a : (List (List (Int))) × (List ((Int) × (List (Int)) × Unit)) × Unit) (b : (List (List (Int))) × (List ((Int) × (List (Int)) × Unit)) × Unit) : Bool := decide (a = b)
def Q_w_eqDisk (a : (List (List (Int))) × (List ((Int) × (List (Int)) × Unit)) × Unit) (b : (List (List (Int))) × (List ((Int) × (List (Int)) × Unit)) × Unit) : Prop := True
def O_w_eqDisk : Opt := ⟨fun i => false, fun i => [], fun i => .done, fun i => none⟩
def τ_w_eqDisk : Env := Env.of [(4, .bool), (43, (.sl (.sl (.int .u8)))), (89, (.sl (.pair (.int .i64) (.pair (.sl (.int .u8)) .unit)))), (91, (.pair (.sl (.sl (.int .u8))) (.pair (.sl (.pair (.int .i64) (.pair (.sl (.int .u8)) .unit))) .unit)))] []

theorem ct_w_eqDisk (a : (List (List (Int))) × (List ((Int) × (List (Int)) × Unit)) × Unit) (b : (List (List (Int))) × (List ((Int) × (List (Int)) × Unit)) × Unit) : Ct pg 122 [.dat (.pair (.sl (.sl (.int .u8))) (.pair (.sl (.pair (.int .i64) (.pair (.sl (.int .u8)) .unit))) .unit)) a, .dat (.pair (.sl (.sl (.int .u8))) (.pair (.sl (.pair (.int .i64) (.pair (.sl (.int .u8)) .unit))) .unit)) b] ⟨[Q_w_eqDisk a b], [⟨.bool, .sh, F_w_eqDisk a b⟩], []⟩ := by
  refine ct_claim (O := O_w_eqDisk) (τ := τ_w_eqDisk) (EnvOk.of (by kernel_rfl)) (GOk.of (.cons ok_w_eqByteSS (.cons ok_w_eqPutS .nil) : AllOk pg [(92, con_w_eqByteSS), (154, con_w_eqPutS)])) mixed (Enters.of (by kernel_rfl)) (fn := Go.Proofs.Try.f122) (by kernel_rfl) rfl (by kernel_rfl) ?_
  intro hp hw
  have hq : Q_w_eqDisk a b := hp _ (List.mem_singleton.2 rfl)
  clear hp
  change claim Lg.std Alg.std τ_w_eqDisk (Gam.of [(92, ⟨true, g2 (pD (.sl (.sl (.int .u8)))) (pD (.sl (.sl (.int .u8)))) fun a b => ⟨[Q_w_eqByteSS a b], [⟨.bool, .sh, F_w_eqByteSS a b⟩], []⟩, []⟩), (154, ⟨true, g2 (pD (.sl (.pair (.int .i64) (.pair (.sl (.int .u8)) .unit)))) (pD (.sl (.pair (.int .i64) (.pair (.sl (.int .u8)) .unit)))) fun a b => ⟨[Q_w_eqPutS a b], [⟨.bool, .sh, F_w_eqPutS a b⟩], []⟩, []⟩)]) O_w_eqDisk Go.Proofs.Try.f122 [.dat (.pair (.sl (.sl (.int .u8))) (.pair (.sl (.pair (.int .i64) (.pair (.sl (.int .u8)) .unit))) .unit)) a, .dat (.pair (.sl (.sl (.int .u8))) (.pair (.sl (.pair (.int .i64) (.pair (.sl (.int .u8)) .unit))) .unit)) b] ⟨[Q_w_eqDisk a b], [⟨.bool, .sh, F_w_eqDisk a b⟩], []⟩
  generalize hg_F_w_eqByteSS : F_w_eqByteSS = g_F_w_eqByteSS
  generalize hg_Q_w_eqByteSS : Q_w_eqByteSS = g_Q_w_eqByteSS
  generalize hg_F_w_eqPutS : F_w_eqPutS = g_F_w_eqPutS
  generalize hg_Q_w_eqPutS : Q_w_eqPutS = g_Q_w_eqPutS
  generalize hR0 : F_w_eqDisk a b = R0
  generalize Q_w_eqDisk a b = Q0
  generalize hL : Lg.std = L
  generalize hA : Alg.std = A
  cbv
  subst hL hA
  try dsimp only [Ty.den]
  obtain ⟨f0, f1, ⟨⟩⟩ := a
  obtain ⟨g0, g1, ⟨⟩⟩ := b
  subst hR0 hg_F_w_eqByteSS hg_Q_w_eqByteSS hg_F_w_eqPutS hg_Q_w_eqPutS
  simp only [Q_w_eqDisk] at hq
  simp only [Lg.std, Alg.std, List.drop_zero, List.take_length, F_w_eqByteSS, F_w_eqPutS, Q_w_eqByteSS, Q_w_eqPutS, F_w_eqDisk]
  all_goals grind
def con_w_eqDisk : Con := ⟨true, g2 (pD (.pair (.sl (.sl (.int .u8))) (.pair (.sl (.pair (.int .i64) (.pair (.sl (.int .u8)) .unit))) .unit))) (pD (.pair (.sl (.sl (.int .u8))) (.pair (.sl (.pair (.int .i64) (.pair (.sl (.int .u8)) .unit))) .unit))) fun a b => ⟨[Q_w_eqDisk a b], [⟨.bool, .sh, F_w_eqDisk a b⟩], []⟩, []⟩
theorem ok_w_eqDisk : ConOk pg 122 con_w_eqDisk := ConOk.g2 (Enters.of (by kernel_rfl)) ct_w_eqDisk

def F_w_szDisk (a : (List (List (Int))) × (List ((Int) × (List (Int)) × Unit)) × Unit) (left : Int) : Int := szf (tot (.pair (.sl (.sl (.int .u8))) (.pair (.sl (.pair (.int .i64) (.pair (.sl (.int .u8)) .unit))) .unit)) a) left
def Q_w_szDisk (a : (List (List (Int))) × (List ((Int) × (List (Int)) × Unit)) × Unit) (left : Int) : Prop := 0 ≤ left ∧ left ≤ 1048576
def O_w_szDisk : Opt := ⟨fun i => false, fun i => [], fun i => .done, fun i => none⟩
def τ_w_szDisk : Env := Env.of [(3, (.int .i64)), (4, .bool), (43, (.sl (.sl (.int .u8)))), (82, (.sl (.pair (.int .i64) (.pair (.sl (.int .u8)) .unit)))), (84, (.pair (.sl (.sl (.int .u8))) (.pair (.sl (.pair (.int .i64) (.pair (.sl (.int .u8)) .unit))) .unit)))] []

theorem ct_w_szDisk (a : (List (List (Int))) × (List ((Int) × (List (Int)) × Unit)) × Unit) (left : Int) : Ct pg 118 [.dat (.pair (.sl (.sl (.int .u8))) (.pair (.sl (.pair (.int .i64) (.pair (.sl (.int .u8)) .unit))) .unit)) a, .dat (.int .i64) left] ⟨[Q_w_szDisk a left], [⟨(.int .i64), .sh, F_w_szDisk a left⟩], []⟩ := by
  refine ct_claim (O := O_w_szDisk) (τ := τ_w_szDisk) (EnvOk.of (by kernel_rfl)) (GOk.of (.cons ok_w_szByteSS (.cons ok_w_szPutS .nil) : AllOk pg [(85, con_w_szByteSS), (150, con_w_szPutS)])) mixed (Enters.of (by kernel_rfl)) (fn := Go.Proofs.Try.f118) (by kernel_rfl) rfl (by kernel_rfl) ?_
  intro hp hw
  have hq : Q_w_szDisk a left := hp _ (List.mem_singleton.2 rfl)
  clear hp
  change claim Lg.std Alg.std τ_w_szDisk (Gam.of [(85, ⟨true, g2 (pD (.sl (.sl (.int .u8)))) (pD (.int .i64)) fun a left => ⟨[Q_w_szByteSS a left], [⟨(.int .i64), .sh, F_w_szByteSS a left⟩], []⟩, []⟩), (150, ⟨true, g2 (pD (.sl (.pair (.int .i64) (.pair (.sl (.int .u8)) .unit)))) (pD (.int .i64)) fun a left => ⟨[Q_w_szPutS a left], [⟨(.int .i64), .sh, F_w_szPutS a left⟩], []⟩, []⟩)]) O_w_szDisk Go.Proofs.Try.f118 [.dat (.pair (.sl (.sl (.int .u8))) (.pair (.sl (.pair (.int .i64) (.pair (.sl (.int .u8)) .unit))) .unit)) a, .dat (.int .i64) left] ⟨[Q_w_szDisk a left], [⟨(.int .i64), .sh, F_w_szDisk a left⟩], []⟩
  generalize hg_F_w_szByteSS : F_w_szByteSS = g_F_w_szByteSS
  generalize hg_Q_w_szByteSS : Q_w_szByteSS = g_Q_w_szByteSS
  generalize hg_F_w_szPutS : F_w_szPutS = g_F_w_szPutS
  generalize hg_Q_w_szPutS : Q_w_szPutS = g_Q_w_szPutS
  generalize hR0 : F_w_szDisk a left = R0
  generalize Q_w_szDisk a left = Q0
  generalize hL : Lg.std = L
  generalize hA : Alg.std = A
  cbv
  subst hL hA
  try dsimp only [Ty.den]
  obtain ⟨f0, f1, ⟨⟩⟩ := a
  simp only [Q_w_szDisk] at hq
  subst hR0 hg_F_w_szByteSS hg_Q_w_szByteSS hg_F_w_szPutS hg_Q_w_szPutS
  simp only [Lg.std, Alg.std, List.drop_zero, List.take_length, F_w_szByteSS, F_w_szPutS, Q_w_szByteSS, Q_w_szPutS, F_w_szDisk, szf, tot_p, tot_u, tot_i, tot_b, tot_s, cnt_p, cnt_u, cnt_i0, cnt_b0, cnt_s0, cnt_i1, cnt_b1, cnt_s1, cnt_l, mk_p, mk_u, mk_i0, mk_b0, mk_s0, mk_i1, mk_s1, mk_l, hd_p, hd_u, hd_i0, hd_b0, hd_s0, hd_i1, hd_b1, hd_s1, hd_l] at *
  all_goals grind [mk_len]
def con_w_szDisk : Con := ⟨true, g2 (pD (.pair (.sl (.sl (.int .u8))) (.pair (.sl (.pair (.int .i64) (.pair (.sl (.int .u8)) .unit))) .unit))) (pD (.int .i64)) fun a left => ⟨[Q_w_szDisk a left], [⟨(.int .i64), .sh, F_w_szDisk a left⟩], []⟩, []⟩
theorem ok_w_szDisk : ConOk pg 118 con_w_szDisk := ConOk.g2 (Enters.of (by kernel_rfl)) ct_w_szDisk

def F_w_toDraft (a : ((List (List (Int))) × (List ((Int) × (List (Int)) × Unit)) × Unit) × (List (Int)) × (List (Int)) × Unit) : ((List (List (Int))) × (List ((Int) × (List (Int)) × Unit)) × Unit) × (List (Int)) × (List (Int)) × Unit := a
def Q_w_toDraft (a : ((List (List (Int))) × (List ((Int) × (List (Int)) × Unit)) × Unit) × (List (Int)) × (List (Int)) × Unit) : Prop := tot (.pair (.pair (.sl (.sl (.int .u8))) (.pair (.sl (.pair (.int .i64) (.pair (.sl (.int .u8)) .unit))) .unit)) (.pair (.sl (.int .i64)) (.pair (.sl (.int .i64)) .unit))) a ≤ 1048576
def O_w_toDraft : Opt := ⟨fun i => false, fun i => [], fun i => .done, fun i => none⟩
def τ_w_toDraft : Env := Env.of [(2, (.int .i64)), (44, (.sl (.int .i64))), (84, (.pair (.sl (.sl (.int .u8))) (.pair (.sl (.pair (.int .i64) (.pair (.sl (.int .u8)) .unit))) .unit))), (86, (.pair (.pair (.sl (.sl (.int .u8))) (.pair (.sl (.pair (.int .i64) (.pair (.sl (.int .u8)) .unit))) .unit)) (.pair (.sl (.int .i64)) (.pair (.sl (.int .i64)) .unit)))), (91, (.pair (.sl (.sl (.int .u8))) (.pair (.sl (.pair (.int .i64) (.pair (.sl (.int .u8)) .unit))) .unit))), (93, (.pair (.pair (.sl (.sl (.int .u8))) (.pair (.sl (.pair (.int .i64) (.pair (.sl (.int .u8)) .unit))) .unit)) (.pair (.sl (.int .i64)) (.pair (.sl (.int .i64)) .unit))))] []

theorem ct_w_toDraft (a : ((List (List (Int))) × (List ((Int) × (List (Int)) × Unit)) × Unit) × (List (Int)) × (List (Int)) × Unit) : Ct pg 58 [.dat (.pair (.pair (.sl (.sl (.int .u8))) (.pair (.sl (.pair (.int .i64) (.pair (.sl (.int .u8)) .unit))) .unit)) (.pair (.sl (.int .i64)) (.pair (.sl (.int .i64)) .unit))) a] ⟨[Q_w_toDraft a], [⟨(.pair (.pair (.sl (.sl (.int .u8))) (.pair (.sl (.pair (.int .i64) (.pair (.sl (.int .u8)) .unit))) .unit)) (.pair (.sl (.int .i64)) (.pair (.sl (.int .i64)) .unit))), (.pr (.pr (.ow (.ow .sh)) (.pr (.ow (.pr .sh (.pr (.ow .sh) .sh))) .sh)) (.pr (.ow .sh) (.pr (.ow .sh) .sh))), F_w_toDraft a⟩], []⟩ := by
  refine ct_claim (O := O_w_toDraft) (τ := τ_w_toDraft) (EnvOk.of (by kernel_rfl)) (GOk.of (.cons ok_w_toInt64S (.cons ok_w_toDisk .nil) : AllOk pg [(89, con_w_toInt64S), (120, con_w_toDisk)])) mixed (Enters.of (by kernel_rfl)) (fn := Go.Proofs.Try.f58) (by kernel_rfl) rfl (by kernel_rfl) ?_
  intro hp hw
  have hq : Q_w_toDraft a := hp _ (List.mem_singleton.2 rfl)
  clear hp
  change claim Lg.std Alg.std τ_w_toDraft (Gam.of [(89, ⟨true, g1 (pD (.sl (.int .i64))) fun a => ⟨[Q_w_toInt64S a], [⟨(.sl (.int .i64)), (.ow .sh), F_w_toInt64S a⟩], []⟩, []⟩), (120, ⟨true, g1 (pD (.pair (.sl (.sl (.int .u8))) (.pair (.sl (.pair (.int .i64) (.pair (.sl (.int .u8)) .unit))) .unit))) fun a => ⟨[Q_w_toDisk a], [⟨(.pair (.sl (.sl (.int .u8))) (.pair (.sl (.pair (.int .i64) (.pair (.sl (.int .u8)) .unit))) .unit)), (.pr (.ow (.ow .sh)) (.pr (.ow (.pr .sh (.pr (.ow .sh) .sh))) .sh)), F_w_toDisk a⟩], []⟩, []⟩)]) O_w_toDraft Go.Proofs.Try.f58 [.dat (.pair (.pair (.sl (.sl (.int .u8))) (.pair (.sl (.pair (.int .i64) (.pair (.sl (.int .u8)) .unit))) .unit)) (.pair (.sl (.int .i64)) (.pair (.sl (.int .i64)) .unit))) a] ⟨[Q_w_toDraft a], [⟨(.pair (.pair (.sl (.sl (.int .u8))) (.pair (.sl (.pair (.int .i64) (.pair (.sl (.int .u8)) .unit))) .unit)) (.pair (.sl (.int .i64)) (.pair (.sl (.int .i64)) .unit))), (.pr (.pr (.ow (.ow .sh)) (.pr (.ow (.pr .sh (.pr (.ow .sh) .sh))) .sh)) (.pr (.ow .sh) (.pr (.ow .sh) .sh))), F_w_toDraft a⟩], []⟩
  generalize hg_F_w_toInt64S : F_w_toInt64S = g_F_w_toInt64S
  generalize hg_Q_w_toInt64S : Q_w_toInt64S = g_Q_w_toInt64S
  generalize hg_F_w_toDisk : F_w_toDisk = g_F_w_toDisk
  generalize hg_Q_w_toDisk : Q_w_toDisk = g_Q_w_toDisk
  generalize hR0 : F_w_toDraft a = R0
  generalize Q_w_toDraft a = Q0
  generalize hL : Lg.std = L
  generalize hA : Alg.std = A
  cbv
  subst hL hA
  try dsimp only [Ty.den]
  obtain ⟨f0, f1, f2, ⟨⟩⟩ := a
  simp only [Q_w_toDraft] at hq
  subst hR0 hg_F_w_toInt64S hg_Q_w_toInt64S hg_F_w_toDisk hg_Q_w_toDisk
  simp only [Lg.std, Alg.std, List.drop_zero, List.take_length, F_w_toInt64S, F_w_toDisk, Q_w_toInt64S, Q_w_toDisk, F_w_toDraft, szf, tot_p, tot_u, tot_i, tot_b, tot_s, cnt_p, cnt_u, cnt_i0, cnt_b0, cnt_s0, cnt_i1, cnt_b1, cnt_s1, cnt_l, mk_p, mk_u, mk_i0, mk_b0, mk_s0, mk_i1, mk_s1, mk_l, hd_p, hd_u, hd_i0, hd_b0, hd_s0, hd_i1, hd_b1, hd_s1, hd_l] at *
  all_goals grind [mk_len]
def con_w_toDraft : Con := ⟨true, g1 (pD (.pair (.pair (.sl (.sl (.int .u8))) (.pair (.sl (.pair (.int .i64) (.pair (.sl (.int .u8)) .unit))) .unit)) (.pair (.sl (.int .i64)) (.pair (.sl (.int .i64)) .unit)))) fun a => ⟨[Q_w_toDraft a], [⟨(.pair (.pair (.sl (.sl (.int .u8))) (.pair (.sl (.pair (.int .i64) (.pair (.sl (.int .u8)) .unit))) .unit)) (.pair (.sl (.int .i64)) (.pair (.sl (.int .i64)) .unit))), (.pr (.pr (.ow (.ow .sh)) (.pr (.ow (.pr .sh (.pr (.ow .sh) .sh))) .sh)) (.pr (.ow .sh) (.pr (.ow .sh) .sh))), F_w_toDraft a⟩], []⟩, []⟩
theorem ok_w_toDraft : ConOk pg 58 con_w_toDraft := ConOk.g1 (Enters.of (by kernel_rfl)) ct_w_toDraft

def F_w_eqDraft (a : ((List (List (Int))) × (List ((Int) × (List (Int)) × Unit)) × Unit) × (List (Int)) × (List (Int)) × Unit) (b : ((List (List (Int))) × (List ((Int) × (List (Int)) × Unit)) × Unit) × (List (Int)) × (List (Int)) × Unit) : Bool := decide (a = b)
def Q_w_eqDraft (a : ((List (List (Int))) × (List ((Int) × (List (Int)) × Unit)) × Unit) × (List (Int)) × (List (Int)) × Unit) (b : ((List (List (Int))) × (List ((Int) × (List (Int)) × Unit)) × Unit) × (List (Int)) × (List (Int)) × Unit) : Prop := True
def O_w_eqDraft : Opt := ⟨fun i => false, fun i => [], fun i => .done, fun i => none⟩
def τ_w_eqDraft : Env := Env.of [(2, (.int .i64)), (4, .bool), (44, (.sl (.int .i64))), (91, (.pair (.sl (.sl (.int .u8))) (.pair (.sl (.pair (.int .i64) (.pair (.sl (.int .u8)) .unit))) .unit))), (93, (.pair (.pair (.sl (.sl (.int .u8))) (.pair (.sl (.pair (.int .i64) (.pair (.sl (.int .u8)) .unit))) .unit)) (.pair (.sl (.int .i64)) (.pair (.sl (.int .i64)) .unit))))] []

theorem ct_w_eqDraft (a : ((List (List (Int))) × (List ((Int) × (List (Int)) × Unit)) × Unit) × (List (Int)) × (List (Int)) × Unit) (b : ((List (List (Int))) × (List ((Int) × (List (Int)) × Unit)) × Unit) × (List (Int)) × (List (Int)) × Unit) : Ct pg 60 [.dat (.pair (.pair (.sl (.sl (.int .u8))) (.pair (.sl (.pair (.int .i64) (.pair (.sl (.int .u8)) .unit))) .unit)) (.pair (.sl (.int .i64)) (.pair (.sl (.int .i64)) .unit))) a, .dat (.pair (.pair (.sl (.sl (.int .u8))) (.pair (.sl (.pair (.int .i64) (.pair (.sl (.int .u8)) .unit))) .unit)) (.pair (.sl (.int .i64)) (.pair (.sl (.int .i64)) .unit))) b] ⟨[Q_w_eqDraft a b], [⟨.bool, .sh, F_w_eqDraft a b⟩], []⟩ := by
  refine ct_claim (O := O_w_eqDraft) (τ := τ_w_eqDraft) (EnvOk.of (by kernel_rfl)) (GOk.of (.cons ok_w_eqInt64S (.cons ok_w_eqDisk .nil) : AllOk pg [(93, con_w_eqInt64S), (122, con_w_eqDisk)])) mixed (Enters.of (by kernel_rfl)) (fn := Go.Proofs.Try.f60) (by kernel_rfl) rfl (by kernel_rfl) ?_
  intro hp hw
  have hq : Q_w_eqDraft a b := hp _ (List.mem_singleton.2 rfl)
  clear hp
  change claim Lg.std Alg.std τ_w_eqDraft (Gam.of [(93, ⟨true, g2 (pD (.sl (.int .i64))) (pD (.sl (.int .i64))) fun a b => ⟨[Q_w_eqInt64S a b], [⟨.bool, .sh, F_w_eqInt64S a b⟩], []⟩, []⟩), (122, ⟨true, g2 (pD (.pair (.sl (.sl (.int .u8))) (.pair (.sl (.pair (.int .i64) (.pair (.sl (.int .u8)) .unit))) .unit))) (pD (.pair (.sl (.sl (.int .u8))) (.pair (.sl (.pair (.int .i64) (.pair (.sl (.int .u8)) .unit))) .unit))) fun a b => ⟨[Q_w_eqDisk a b], [⟨.bool, .sh, F_w_eqDisk a b⟩], []⟩, []⟩)]) O_w_eqDraft Go.Proofs.Try.f60 [.dat (.pair (.pair (.sl (.sl (.int .u8))) (.pair (.sl (.pair (.int .i64) (.pair (.sl (.int .u8)) .unit))) .unit)) (.pair (.sl (.int .i64)) (.pair (.sl (.int .i64)) .unit))) a, .dat (.pair (.pair (.sl (.sl (.int .u8))) (.pair (.sl (.pair (.int .i64) (.pair (.sl (.int .u8)) .unit))) .unit)) (.pair (.sl (.int .i64)) (.pair (.sl (.int .i64)) .unit))) b] ⟨[Q_w_eqDraft a b], [⟨.bool, .sh, F_w_eqDraft a b⟩], []⟩
  generalize hg_F_w_eqInt64S : F_w_eqInt64S = g_F_w_eqInt64S
  generalize hg_Q_w_eqInt64S : Q_w_eqInt64S = g_Q_w_eqInt64S
  generalize hg_F_w_eqDisk : F_w_eqDisk = g_F_w_eqDisk
  generalize hg_Q_w_eqDisk : Q_w_eqDisk = g_Q_w_eqDisk
  generalize hR0 : F_w_eqDraft a b = R0
  generalize Q_w_eqDraft a b = Q0
  generalize hL : Lg.std = L
  generalize hA : Alg.std = A
  cbv
  subst hL hA
  try dsimp only [Ty.den]
  obtain ⟨f0, f1, f2, ⟨⟩⟩ := a
  obtain ⟨g0, g1, g2, ⟨⟩⟩ := b
  subst hR0 hg_F_w_eqInt64S hg_Q_w_eqInt64S hg_F_w_eqDisk hg_Q_w_eqDisk
  simp only [Q_w_eqDraft] at hq
  simp only [Lg.std, Alg.std, List.drop_zero, List.take_length, F_w_eqInt64S, F_w_eqDisk, Q_w_eqInt64S, Q_w_eqDisk, F_w_eqDraft]
  all_goals grind
def con_w_eqDraft : Con := ⟨true, g2 (pD (.pair (.pair (.sl (.sl (.int .u8))) (.pair (.sl (.pair (.int .i64) (.pair (.sl (.int .u8)) .unit))) .unit)) (.pair (.sl (.int .i64)) (.pair (.sl (.int .i64)) .unit)))) (pD (.pair (.pair (.sl (.sl (.int .u8))) (.pair (.sl (.pair (.int .i64) (.pair (.sl (.int .u8)) .unit))) .unit)) (.pair (.sl (.int .i64)) (.pair (.sl (.int .i64)) .unit)))) fun a b => ⟨[Q_w_eqDraft a b], [⟨.bool, .sh, F_w_eqDraft a b⟩], []⟩, []⟩
theorem ok_w_eqDraft : ConOk pg 60 con_w_eqDraft := ConOk.g2 (Enters.of (by kernel_rfl)) ct_w_eqDraft

def F_w_szDraft (a : ((List (List (Int))) × (List ((Int) × (List (Int)) × Unit)) × Unit) × (List (Int)) × (List (Int)) × Unit) (left : Int) : Int := szf (tot (.pair (.pair (.sl (.sl (.int .u8))) (.pair (.sl (.pair (.int .i64) (.pair (.sl (.int .u8)) .unit))) .unit)) (.pair (.sl (.int .i64)) (.pair (.sl (.int .i64)) .unit))) a) left
def Q_w_szDraft (a : ((List (List (Int))) × (List ((Int) × (List (Int)) × Unit)) × Unit) × (List (Int)) × (List (Int)) × Unit) (left : Int) : Prop := 0 ≤ left ∧ left ≤ 1048576
def O_w_szDraft : Opt := ⟨fun i => false, fun i => [], fun i => .done, fun i => none⟩
def τ_w_szDraft : Env := Env.of [(2, (.int .i64)), (3, (.int .i64)), (4, .bool), (44, (.sl (.int .i64))), (84, (.pair (.sl (.sl (.int .u8))) (.pair (.sl (.pair (.int .i64) (.pair (.sl (.int .u8)) .unit))) .unit))), (86, (.pair (.pair (.sl (.sl (.int .u8))) (.pair (.sl (.pair (.int .i64) (.pair (.sl (.int .u8)) .unit))) .unit)) (.pair (.sl (.int .i64)) (.pair (.sl (.int .i64)) .unit))))] []

theorem ct_w_szDraft (a : ((List (List (Int))) × (List ((Int) × (List (Int)) × Unit)) × Unit) × (List (Int)) × (List (Int)) × Unit) (left : Int) : Ct pg 56 [.dat (.pair (.pair (.sl (.sl (.int .u8))) (.pair (.sl (.pair (.int .i64) (.pair (.sl (.int .u8)) .unit))) .unit)) (.pair (.sl (.int .i64)) (.pair (.sl (.int .i64)) .unit))) a, .dat (.int .i64) left] ⟨[Q_w_szDraft a left], [⟨(.int .i64), .sh, F_w_szDraft a left⟩], []⟩ := by
  refine ct_claim (O := O_w_szDraft) (τ := τ_w_szDraft) (EnvOk.of (by kernel_rfl)) (GOk.of (.cons ok_w_szInt64S (.cons ok_w_szDisk .nil) : AllOk pg [(86, con_w_szInt64S), (118, con_w_szDisk)])) mixed (Enters.of (by kernel_rfl)) (fn := Go.Proofs.Try.f56) (by kernel_rfl) rfl (by kernel_rfl) ?_
  intro hp hw
  have hq : Q_w_szDraft a left := hp _ (List.mem_singleton.2 rfl)
  clear hp
  change claim Lg.std Alg.std τ_w_szDraft (Gam.of [(86, ⟨true, g2 (pD (.sl (.int .i64))) (pD (.int .i64)) fun a left => ⟨[Q_w_szInt64S a left], [⟨(.int .i64), .sh, F_w_szInt64S a left⟩], []⟩, []⟩), (118, ⟨true, g2 (pD (.pair (.sl (.sl (.int .u8))) (.pair (.sl (.pair (.int .i64) (.pair (.sl (.int .u8)) .unit))) .unit))) (pD (.int .i64)) fun a left => ⟨[Q_w_szDisk a left], [⟨(.int .i64), .sh, F_w_szDisk a left⟩], []⟩, []⟩)]) O_w_szDraft Go.Proofs.Try.f56 [.dat (.pair (.pair (.sl (.sl (.int .u8))) (.pair (.sl (.pair (.int .i64) (.pair (.sl (.int .u8)) .unit))) .unit)) (.pair (.sl (.int .i64)) (.pair (.sl (.int .i64)) .unit))) a, .dat (.int .i64) left] ⟨[Q_w_szDraft a left], [⟨(.int .i64), .sh, F_w_szDraft a left⟩], []⟩
  generalize hg_F_w_szInt64S : F_w_szInt64S = g_F_w_szInt64S
  generalize hg_Q_w_szInt64S : Q_w_szInt64S = g_Q_w_szInt64S
  generalize hg_F_w_szDisk : F_w_szDisk = g_F_w_szDisk
  generalize hg_Q_w_szDisk : Q_w_szDisk = g_Q_w_szDisk
  generalize hR0 : F_w_szDraft a left = R0
  generalize Q_w_szDraft a left = Q0
  generalize hL : Lg.std = L
  generalize hA : Alg.std = A
  cbv
  subst hL hA
  try dsimp only [Ty.den]
  obtain ⟨f0, f1, f2, ⟨⟩⟩ := a
  simp only [Q_w_szDraft] at hq
  subst hR0 hg_F_w_szInt64S hg_Q_w_szInt64S hg_F_w_szDisk hg_Q_w_szDisk
  simp only [Lg.std, Alg.std, List.drop_zero, List.take_length, F_w_szInt64S, F_w_szDisk, Q_w_szInt64S, Q_w_szDisk, F_w_szDraft, szf, tot_p, tot_u, tot_i, tot_b, tot_s, cnt_p, cnt_u, cnt_i0, cnt_b0, cnt_s0, cnt_i1, cnt_b1, cnt_s1, cnt_l, mk_p, mk_u, mk_i0, mk_b0, mk_s0, mk_i1, mk_s1, mk_l, hd_p, hd_u, hd_i0, hd_b0, hd_s0, hd_i1, hd_b1, hd_s1, hd_l] at *
  all_goals grind [mk_len]
def con_w_szDraft : Con := ⟨true, g2 (pD (.pair (.pair (.sl (.sl (.int .u8))) (.pair (.sl (.pair (.int .i64) (.pair (.sl (.int .u8)) .unit))) .unit)) (.pair (.sl (.int .i64)) (.pair (.sl (.int .i64)) .unit)))) (pD (.int .i64)) fun a left => ⟨[Q_w_szDraft a left], [⟨(.int .i64), .sh, F_w_szDraft a left⟩], []⟩, []⟩
theorem ok_w_szDraft : ConOk pg 56 con_w_szDraft := ConOk.g2 (Enters.of (by kernel_rfl)) ct_w_szDraft

def F_i_SameDisks_1 (a : (Int) × (List (Int)) × Unit) (b : (Int) × (List (Int)) × Unit) : Bool := decide (a = b)
def Q_i_SameDisks_1 (a : (Int) × (List (Int)) × Unit) (b : (Int) × (List (Int)) × Unit) : Prop := True
def O_i_SameDisks_1 : Opt := ⟨fun i => false, fun i => [], fun i => .done, fun i => none⟩
def τ_i_SameDisks_1 : Env := Env.of [(2, (.int .i64)), (4, .bool), (22, (.sl (.int .u8))), (164, (.pair (.int .i64) (.pair (.sl (.int .u8)) .unit)))] []

theorem ct_i_SameDisks_1 (a : (Int) × (List (Int)) × Unit) (b : (Int) × (List (Int)) × Unit) : Ct pg 153 [.dat (.pair (.int .i64) (.pair (.sl (.int .u8)) .unit)) a, .dat (.pair (.int .i64) (.pair (.sl (.int .u8)) .unit)) b] ⟨[Q_i_SameDisks_1 a b], [⟨.bool, .sh, F_i_SameDisks_1 a b⟩], []⟩ := by
  refine ct_claim (O := O_i_SameDisks_1) (τ := τ_i_SameDisks_1) (EnvOk.of (by kernel_rfl)) (GOk.of (.cons ok_b_Equal .nil : AllOk pg [(80, con_b_Equal)])) mixed (Enters.of (by kernel_rfl)) (fn := Go.Proofs.Try.f153) (by kernel_rfl) rfl (by kernel_rfl) ?_
  intro hp hw
  have hq : Q_i_SameDisks_1 a b := hp _ (List.mem_singleton.2 rfl)
  clear hp
  change claim Lg.std Alg.std τ_i_SameDisks_1 (Gam.of [(80, ⟨true, g2 (pD (.sl (.int .u8))) (pD (.sl (.int .u8))) fun a b => ⟨[Q_b_Equal a b], [⟨.bool, .sh, F_b_Equal a b⟩], []⟩, []⟩)]) O_i_SameDisks_1 Go.Proofs.Try.f153 [.dat (.pair (.int .i64) (.pair (.sl (.int .u8)) .unit)) a, .dat (.pair (.int .i64) (.pair (.sl (.int .u8)) .unit)) b] ⟨[Q_i_SameDisks_1 a b], [⟨.bool, .sh, F_i_SameDisks_1 a b⟩], []⟩
  generalize hg_F_b_Equal : F_b_Equal = g_F_b_Equal
  generalize hg_Q_b_Equal : Q_b_Equal = g_Q_b_Equal
  generalize hR0 : F_i_SameDisks_1 a b = R0
  generalize Q_i_SameDisks_1 a b = Q0
  generalize hL : Lg.std = L
  generalize hA : Alg.std = A
  cbv
  subst hL hA
  try dsimp only [Ty.den]
  obtain ⟨a_0, a_1, ⟨⟩⟩ := a
  obtain ⟨b_0, b_1, ⟨⟩⟩ := b
  subst hR0 hg_F_b_Equal hg_Q_b_Equal
  simp only [Q_i_SameDisks_1] at hq
  simp only [Lg.std, Alg.std, List.drop_zero, List.take_length, F_b_Equal, Q_b_Equal, F_i_SameDisks_1]
  all_goals grind
def con_i_SameDisks_1 : Con := ⟨true, g2 (pD (.pair (.int .i64) (.pair (.sl (.int .u8)) .unit))) (pD (.pair (.int .i64) (.pair (.sl (.int .u8)) .unit))) fun a b => ⟨[Q_i_SameDisks_1 a b], [⟨.bool, .sh, F_i_SameDisks_1 a b⟩], []⟩, []⟩
theorem ok_i_SameDisks_1 : ConOk pg 153 con_i_SameDisks_1 := ConOk.g2 (Enters.of (by kernel_rfl)) ct_i_SameDisks_1

def F_sl_EqualFunc_Put__i_SameDisks_1 (a : List ((Int) × (List (Int)) × Unit)) (b : List ((Int) × (List (Int)) × Unit)) (u : Unit) : Bool := decide (a = b)
def Q_sl_EqualFunc_Put__i_SameDisks_1 (a : List ((Int) × (List (Int)) × Unit)) (b : List ((Int) × (List (Int)) × Unit)) (u : Unit) : Prop := True
def O_sl_EqualFunc_Put__i_SameDisks_1 : Opt := ⟨fun i => false, fun i => (match decide (i = 4) with | true => [false, true, true, false, false, false, false, false, false, false, false, false, false, false, false, true, true, true, false, false, false, false, false, false, false, false, false, false, false, false, false, false] | false => []), fun i => .done, fun i => none⟩
def τ_sl_EqualFunc_Put__i_SameDisks_1 : Env := Env.of [(3, (.int .i64)), (4, .bool), (89, (.sl (.pair (.int .i64) (.pair (.sl (.int .u8)) .unit)))), (164, (.pair (.int .i64) (.pair (.sl (.int .u8)) .unit)))] []

theorem ct_sl_EqualFunc_Put__i_SameDisks_1 (a : List ((Int) × (List (Int)) × Unit)) (b : List ((Int) × (List (Int)) × Unit)) (u : Unit) : Ct pg 152 [.dat (.sl (.pair (.int .i64) (.pair (.sl (.int .u8)) .unit))) a, .dat (.sl (.pair (.int .i64) (.pair (.sl (.int .u8)) .unit))) b, .clo 153 []] ⟨[Q_sl_EqualFunc_Put__i_SameDisks_1 a b u], [⟨.bool, .sh, F_sl_EqualFunc_Put__i_SameDisks_1 a b u⟩], []⟩ := by
  refine ct_claim (O := O_sl_EqualFunc_Put__i_SameDisks_1) (τ := τ_sl_EqualFunc_Put__i_SameDisks_1) (EnvOk.of (by kernel_rfl)) (GOk.of (.cons ok_i_SameDisks_1 .nil : AllOk pg [(153, con_i_SameDisks_1)])) mixed (Enters.of (by kernel_rfl)) (fn := Go.Proofs.Try.f152) (by kernel_rfl) rfl (by kernel_rfl) ?_
  intro hp hw
  have hq : Q_sl_EqualFunc_Put__i_SameDisks_1 a b u := hp _ (List.mem_singleton.2 rfl)
  clear hp
  change claim Lg.std Alg.std τ_sl_EqualFunc_Put__i_SameDisks_1 (Gam.of [(153, ⟨true, g2 (pD (.pair (.int .i64) (.pair (.sl (.int .u8)) .unit))) (pD (.pair (.int .i64) (.pair (.sl (.int .u8)) .unit))) fun a b => ⟨[Q_i_SameDisks_1 a b], [⟨.bool, .sh, F_i_SameDisks_1 a b⟩], []⟩, []⟩)]) O_sl_EqualFunc_Put__i_SameDisks_1 Go.Proofs.Try.f152 [.dat (.sl (.pair (.int .i64) (.pair (.sl (.int .u8)) .unit))) a, .dat (.sl (.pair (.int .i64) (.pair (.sl (.int .u8)) .unit))) b, .clo 153 []] ⟨[Q_sl_EqualFunc_Put__i_SameDisks_1 a b u], [⟨.bool, .sh, F_sl_EqualFunc_Put__i_SameDisks_1 a b u⟩], []⟩
  generalize hg_F_i_SameDisks_1 : F_i_SameDisks_1 = g_F_i_SameDisks_1
  generalize hg_Q_i_SameDisks_1 : Q_i_SameDisks_1 = g_Q_i_SameDisks_1
  generalize hR0 : F_sl_EqualFunc_Put__i_SameDisks_1 a b u = R0
  generalize Q_sl_EqualFunc_Put__i_SameDisks_1 a b u = Q0
  generalize hL : Lg.std = L
  generalize hA : Alg.std = A
  cbv
  subst hL hA
  try dsimp only [Ty.den]
  refine ⟨fun hne => ?_, fun heq => ?_⟩
  · subst hR0 hg_F_i_SameDisks_1 hg_Q_i_SameDisks_1
    simp only [Alg.std, F_i_SameDisks_1, Q_i_SameDisks_1, F_sl_EqualFunc_Put__i_SameDisks_1] at *
    all_goals grind
  refine lp_v (V := (Int) × (Int)) (fun ((i, M) : (Int) × (Int)) => ⟨[.junk, .dat (.sl (.pair (.int .i64) (.pair (.sl (.int .u8)) .unit))) b, .clo 153 [], .junk, .junk, .junk, .junk, .junk, .junk, .junk, .junk, .junk, .junk, .junk, .junk, .dat (.sl (.pair (.int .i64) (.pair (.sl (.int .u8)) .unit))) a, .dat (.int .i64) M, .dat (.int .i64) i, .junk, .junk, .junk, .junk, .junk, .junk, .junk, .junk, .junk, .junk, .junk, .junk, .junk, .junk], []⟩) (fun ((i, M) : (Int) × (Int)) => M = a.length ∧ a.length = b.length ∧ 0 ≤ i ∧ i ≤ a.length ∧ decide (a = b) = decide (a.drop i.toNat = b.drop i.toNat)) (fun ((i, M) : (Int) × (Int)) => a.length - i.toNat) (0, _) rfl ?_ ?_
  · simp [Alg.std] at heq ⊢; omega
  rintro ⟨i, M⟩ hf I hI
  replace hf : M = a.length ∧ a.length = b.length ∧ 0 ≤ i ∧ i ≤ a.length ∧ decide (a = b) = decide (a.drop i.toNat = b.drop i.toNat) := hf
  generalize hL : Lg.std = L
  generalize hA : Alg.std = A
  cbv
  subst hL hA
  try dsimp only [Ty.den]
  subst hI
  simp only [Lg.std, Alg.std, List.drop_zero, List.take_length]
  obtain ⟨h1, h2, h3, h4, h5⟩ := hf
  have hl := hw.1.1
  have hdc := fun (h : i.toNat < a.length) => drop_cons a ((0, [], PUnit.unit) : (Int) × (List (Int)) × Unit) i.toNat h
  have he := fun (h : a.length ≤ i.toNat) => drop_nil a i.toNat h
  have hdc2 := fun (h : i.toNat < b.length) => drop_cons b ((0, [], PUnit.unit) : (Int) × (List (Int)) × Unit) i.toNat h
  have he2 := fun (h : b.length ≤ i.toNat) => drop_nil b i.toNat h
  repeat' (first | intro _ | apply And.intro)
  all_goals (try refine ⟨(_, _), rfl, ?_, ?_⟩)
  all_goals subst hR0 hg_F_i_SameDisks_1 hg_Q_i_SameDisks_1
  all_goals (try simp only [F_i_SameDisks_1, Q_i_SameDisks_1, F_sl_EqualFunc_Put__i_SameDisks_1] at *)
  all_goals grind
def con_sl_EqualFunc_Put__i_SameDisks_1 : Con := ⟨true, g3 (pD (.sl (.pair (.int .i64) (.pair (.sl (.int .u8)) .unit)))) (pD (.sl (.pair (.int .i64) (.pair (.sl (.int .u8)) .unit)))) (pC0 153) fun a b u => ⟨[Q_sl_EqualFunc_Put__i_SameDisks_1 a b u], [⟨.bool, .sh, F_sl_EqualFunc_Put__i_SameDisks_1 a b u⟩], []⟩, []⟩
theorem ok_sl_EqualFunc_Put__i_SameDisks_1 : ConOk pg 152 con_sl_EqualFunc_Put__i_SameDisks_1 := ConOk.g3 (Enters.of (by kernel_rfl)) ct_sl_EqualFunc_Put__i_SameDisks_1

def F_i_SameDisks (a : (List (List (Int))) × (List ((Int) × (List (Int)) × Unit)) × Unit) (b : (List (List (Int))) × (List ((Int) × (List (Int)) × Unit)) × Unit) : Bool := decide (a = b)
def Q_i_SameDisks (a : (List (List (Int))) × (List ((Int) × (List (Int)) × Unit)) × Unit) (b : (List (List (Int))) × (List ((Int) × (List (Int)) × Unit)) × Unit) : Prop := True
def O_i_SameDisks : Opt := ⟨fun i => false, fun i => [], fun i => .done, fun i => none⟩
def τ_i_SameDisks : Env := Env.of [(4, .bool), (43, (.sl (.sl (.int .u8)))), (89, (.sl (.pair (.int .i64) (.pair (.sl (.int .u8)) .unit)))), (91, (.pair (.sl (.sl (.int .u8))) (.pair (.sl (.pair (.int .i64) (.pair (.sl (.int .u8)) .unit))) .unit)))] []

theorem ct_i_SameDisks (a : (List (List (Int))) × (List ((Int) × (List (Int)) × Unit)) × Unit) (b : (List (List (Int))) × (List ((Int) × (List (Int)) × Unit)) × Unit) : Ct pg 121 [.dat (.pair (.sl (.sl (.int .u8))) (.pair (.sl (.pair (.int .i64) (.pair (.sl (.int .u8)) .unit))) .unit)) a, .dat (.pair (.sl (.sl (.int .u8))) (.pair (.sl (.pair (.int .i64) (.pair (.sl (.int .u8)) .unit))) .unit)) b] ⟨[Q_i_SameDisks a b], [⟨.bool, .sh, F_i_SameDisks a b⟩], []⟩ := by
  refine ct_claim (O := O_i_SameDisks) (τ := τ_i_SameDisks) (EnvOk.of (by kernel_rfl)) (GOk.of (.cons ok_b_Equal (.cons ok_sl_EqualFunc_Lbyte__b_Equal (.cons ok_i_SameDisks_1 (.cons ok_sl_EqualFunc_Put__i_SameDisks_1 .nil))) : AllOk pg [(80, con_b_Equal), (90, con_sl_EqualFunc_Lbyte__b_Equal), (153, con_i_SameDisks_1), (152, con_sl_EqualFunc_Put__i_SameDisks_1)])) mixed (Enters.of (by kernel_rfl)) (fn := Go.Proofs.Try.f121) (by kernel_rfl) rfl (by kernel_rfl) ?_
  intro hp hw
  have hq : Q_i_SameDisks a b := hp _ (List.mem_singleton.2 rfl)
  clear hp
  change claim Lg.std Alg.std τ_i_SameDisks (Gam.of [(80, ⟨true, g2 (pD (.sl (.int .u8))) (pD (.sl (.int .u8))) fun a b => ⟨[Q_b_Equal a b], [⟨.bool, .sh, F_b_Equal a b⟩], []⟩, []⟩), (90, ⟨true, g3 (pD (.sl (.sl (.int .u8)))) (pD (.sl (.sl (.int .u8)))) (pC0 80) fun a b u => ⟨[Q_sl_EqualFunc_Lbyte__b_Equal a b u], [⟨.bool, .sh, F_sl_EqualFunc_Lbyte__b_Equal a b u⟩], []⟩, []⟩), (153, ⟨true, g2 (pD (.pair (.int .i64) (.pair (.sl (.int .u8)) .unit))) (pD (.pair (.int .i64) (.pair (.sl (.int .u8)) .unit))) fun a b => ⟨[Q_i_SameDisks_1 a b], [⟨.bool, .sh, F_i_SameDisks_1 a b⟩], []⟩, []⟩), (152, ⟨true, g3 (pD (.sl (.pair (.int .i64) (.pair (.sl (.int .u8)) .unit)))) (pD (.sl (.pair (.int .i64) (.pair (.sl (.int .u8)) .unit)))) (pC0 153) fun a b u => ⟨[Q_sl_EqualFunc_Put__i_SameDisks_1 a b u], [⟨.bool, .sh, F_sl_EqualFunc_Put__i_SameDisks_1 a b u⟩], []⟩, []⟩)]) O_i_SameDisks Go.Proofs.Try.f121 [.dat (.pair (.sl (.sl (.int .u8))) (.pair (.sl (.pair (.int .i64) (.pair (.sl (.int .u8)) .unit))) .unit)) a, .dat (.pair (.sl (.sl (.int .u8))) (.pair (.sl (.pair (.int .i64) (.pair (.sl (.int .u8)) .unit))) .unit)) b] ⟨[Q_i_SameDisks a b], [⟨.bool, .sh, F_i_SameDisks a b⟩], []⟩
  generalize hg_F_b_Equal : F_b_Equal = g_F_b_Equal
  generalize hg_Q_b_Equal : Q_b_Equal = g_Q_b_Equal
  generalize hg_F_sl_EqualFunc_Lbyte__b_Equal : F_sl_EqualFunc_Lbyte__b_Equal = g_F_sl_EqualFunc_Lbyte__b_Equal
  generalize hg_Q_sl_EqualFunc_Lbyte__b_Equal : Q_sl_EqualFunc_Lbyte__b_Equal = g_Q_sl_EqualFunc_Lbyte__b_Equal
  generalize hg_F_i_SameDisks_1 : F_i_SameDisks_1 = g_F_i_SameDisks_1
  generalize hg_Q_i_SameDisks_1 : Q_i_SameDisks_1 = g_Q_i_SameDisks_1
  generalize hg_F_sl_EqualFunc_Put__i_SameDisks_1 : F_sl_EqualFunc_Put__i_SameDisks_1 = g_F_sl_EqualFunc_Put__i_SameDisks_1
  generalize hg_Q_sl_EqualFunc_Put__i_SameDisks_1 : Q_sl_EqualFunc_Put__i_SameDisks_1 = g_Q_sl_EqualFunc_Put__i_SameDisks_1
  generalize hR0 : F_i_SameDisks a b = R0
  generalize Q_i_SameDisks a b = Q0
  generalize hL : Lg.std = L
  generalize hA : Alg.std = A
  cbv
  subst hL hA
  try dsimp only [Ty.den]
  obtain ⟨a_0, a_1, ⟨⟩⟩ := a
  obtain ⟨b_0, b_1, ⟨⟩⟩ := b
  subst hR0 hg_F_b_Equal hg_Q_b_Equal hg_F_sl_EqualFunc_Lbyte__b_Equal hg_Q_sl_EqualFunc_Lbyte__b_Equal hg_F_i_SameDisks_1 hg_Q_i_SameDisks_1 hg_F_sl_EqualFunc_Put__i_SameDisks_1 hg_Q_sl_EqualFunc_Put__i_SameDisks_1
  simp only [Q_i_SameDisks] at hq
  simp only [Lg.std, Alg.std, List.drop_zero, List.take_length, F_b_Equal, F_sl_EqualFunc_Lbyte__b_Equal, F_i_SameDisks_1, F_sl_EqualFunc_Put__i_SameDisks_1, Q_b_Equal, Q_sl_EqualFunc_Lbyte__b_Equal, Q_i_SameDisks_1, Q_sl_EqualFunc_Put__i_SameDisks_1, F_i_SameDisks]
  all_goals grind
def con_i_SameDisks : Con := ⟨true, g2 (pD (.pair (.sl (.sl (.int .u8))) (.pair (.sl (.pair (.int .i64) (.pair (.sl (.int .u8)) .unit))) .unit))) (pD (.pair (.sl (.sl (.int .u8))) (.pair (.sl (.pair (.int .i64) (.pair (.sl (.int .u8)) .unit))) .unit))) fun a b => ⟨[Q_i_SameDisks a b], [⟨.bool, .sh, F_i_SameDisks a b⟩], []⟩, []⟩
theorem ok_i_SameDisks : ConOk pg 121 con_i_SameDisks := ConOk.g2 (Enters.of (by kernel_rfl)) ct_i_SameDisks

def F_s_SameDisks (a : (List (List (Int))) × (List ((Int) × (List (Int)) × Unit)) × Unit) (b : (List (List (Int))) × (List ((Int) × (List (Int)) × Unit)) × Unit) : Bool := decide (a = b)
def Q_s_SameDisks (a : (List (List (Int))) × (List ((Int) × (List (Int)) × Unit)) × Unit) (b : (List (List (Int))) × (List ((Int) × (List (Int)) × Unit)) × Unit) : Prop := True
def O_s_SameDisks : Opt := ⟨fun i => (match decide (i = 11) with | true => true | false => (match decide (i = 6) with | true => true | false => false)), fun i => (match decide (i = 9) with | true => [false, false, true, true, false, false, true, false, false, false, false, false, false, false, false, false, false, false, false, false, false, false, false, false, false, false, false, false, false, false, false, false, false, false, false, false, false, false, false, false, false, false, false, false, false, false, false, false, false, false, false, false, false, false, false, false, false, false, false, false, false, false, false, false, false, false, false, false, false, false, false, false, false, false, false, false, false, false, false, false] | false => (match decide (i = 4) with | true => [false, false, true, true, false, true, false, false, false, false, false, false, false, false, false, false, false, false, false, false, false, false, false, false, false, false, false, false, false, false, false, false, false, false, false, false, false, false, false, false, false, false, false, false, false, false, false, false, false, false, false, false, false, false, false, false, false, false, false, false, false, false, false, false, false, false, false, false, false, false, false, false, false, false, false, false, false, false, false, false] | false => [])), fun i => .done, fun i => none⟩
def τ_s_SameDisks : Env := Env.of [(2, (.int .i64)), (3, (.int .i64)), (4, .bool), (9, .str), (22, (.sl (.int .u8))), (43, (.sl (.sl (.int .u8)))), (89, (.sl (.pair (.int .i64) (.pair (.sl (.int .u8)) .unit)))), (91, (.pair (.sl (.sl (.int .u8))) (.pair (.sl (.pair (.int .i64) (.pair (.sl (.int .u8)) .unit))) .unit))), (164, (.pair (.int .i64) (.pair (.sl (.int .u8)) .unit)))] []

theorem ct_s_SameDisks (a : (List (List (Int))) × (List ((Int) × (List (Int)) × Unit)) × Unit) (b : (List (List (Int))) × (List ((Int) × (List (Int)) × Unit)) × Unit) : Ct pg 119 [.dat (.pair (.sl (.sl (.int .u8))) (.pair (.sl (.pair (.int .i64) (.pair (.sl (.int .u8)) .unit))) .unit)) a, .dat (.pair (.sl (.sl (.int .u8))) (.pair (.sl (.pair (.int .i64) (.pair (.sl (.int .u8)) .unit))) .unit)) b] ⟨[Q_s_SameDisks a b], [⟨.bool, .sh, F_s_SameDisks a b⟩], []⟩ := by
  refine ct_claim (O := O_s_SameDisks) (τ := τ_s_SameDisks) (EnvOk.of (by kernel_rfl)) (GOk.of (.nil : AllOk pg [])) mixed (Enters.of (by kernel_rfl)) (fn := Go.Proofs.Try.f119) (by kernel_rfl) rfl (by kernel_rfl) ?_
  intro hp hw
  have hq : Q_s_SameDisks a b := hp _ (List.mem_singleton.2 rfl)
  clear hp
  change claim Lg.std Alg.std τ_s_SameDisks (Gam.of []) O_s_SameDisks Go.Proofs.Try.f119 [.dat (.pair (.sl (.sl (.int .u8))) (.pair (.sl (.pair (.int .i64) (.pair (.sl (.int .u8)) .unit))) .unit)) a, .dat (.pair (.sl (.sl (.int .u8))) (.pair (.sl (.pair (.int .i64) (.pair (.sl (.int .u8)) .unit))) .unit)) b] ⟨[Q_s_SameDisks a b], [⟨.bool, .sh, F_s_SameDisks a b⟩], []⟩
  generalize hR0 : F_s_SameDisks a b = R0
  generalize Q_s_SameDisks a b = Q0
  generalize hL : Lg.std = L
  generalize hA : Alg.std = A
  cbv
  subst hL hA
  try dsimp only [Ty.den]
  obtain ⟨a_0, a_1, ⟨⟩⟩ := a
  obtain ⟨b_0, b_1, ⟨⟩⟩ := b
  repeat' (first | intro _ | apply And.intro)
  all_goals first | trivial | ((fail_if_success (refine lp_v (V := Unit) (fun _ => ⟨[], []⟩) (fun _ => True) (fun _ => 0) () ?_ ?_ ?_)); subst hR0; (try simp only [Alg.std, F_s_SameDisks] at *); all_goals grind) | skip
  refine lp_v (V := (Int)) (fun (i : Int) => ⟨[.junk, .junk, .bptr 0 0, .bptr 1 0, .junk, .dat (.int .i64) i, .junk, .junk, .junk, .junk, .junk, .junk, .junk, .junk, .junk, .junk, .junk, .junk, .junk, .junk, .junk, .junk, .junk, .junk, .junk, .junk, .junk, .junk, .junk, .junk, .junk, .junk, .junk, .junk, .junk, .junk, .junk, .junk, .junk, .junk, .junk, .junk, .junk, .junk, .junk, .junk, .junk, .junk, .junk, .junk, .junk, .junk, .junk, .junk, .junk, .junk, .junk, .junk, .junk, .junk, .junk, .junk, .junk, .junk, .junk, .junk, .junk, .junk, .junk, .junk, .junk, .junk, .junk, .junk, .junk, .junk, .junk, .junk, .junk, .junk], [some (.box [.dat (.sl (.sl (.int .u8))) a_0, .dat (.sl (.pair (.int .i64) (.pair (.sl (.int .u8)) .unit))) a_1]), some (.box [.dat (.sl (.sl (.int .u8))) b_0, .dat (.sl (.pair (.int .i64) (.pair (.sl (.int .u8)) .unit))) b_1])]⟩) (fun (i : Int) => a_0.length = b_0.length ∧ 0 ≤ i ∧ i ≤ a_0.length ∧ decide (a_0 = b_0) = decide (a_0.drop i.toNat = b_0.drop i.toNat)) (fun (i : Int) => a_0.length - i.toNat) (0) rfl ?_ ?_
  · subst hR0
    simp only [Alg.std, F_s_SameDisks] at *
    all_goals grind
  rintro i hf I hI
  replace hf : a_0.length = b_0.length ∧ 0 ≤ i ∧ i ≤ a_0.length ∧ decide (a_0 = b_0) = decide (a_0.drop i.toNat = b_0.drop i.toNat) := hf
  generalize hL : Lg.std = L
  generalize hA : Alg.std = A
  cbv
  subst hL hA
  try dsimp only [Ty.den]
  subst hI
  obtain ⟨h1, h2, h3, h4⟩ := hf
  have hl := hw.1.1.1
  have hdc := fun (h : i.toNat < a_0.length) => drop_cons a_0 ([] : List Int) i.toNat h
  have he := fun (h : a_0.length ≤ i.toNat) => drop_nil a_0 i.toNat h
  have hdc2 := fun (h : i.toNat < b_0.length) => drop_cons b_0 ([] : List Int) i.toNat h
  have he2 := fun (h : b_0.length ≤ i.toNat) => drop_nil b_0 i.toNat h
  have hsu : (i + 1).toNat = i.toNat + 1 := by omega
  repeat' (first | intro _ | apply And.intro)
  all_goals first | (with_reducible exact True.intro) | ((fail_if_success (refine lp_v (V := Unit) (fun _ => ⟨[], []⟩) (fun _ => True) (fun _ => 0) () ?_ ?_ ?_)); (try simp only [Lg.std, Alg.std, List.drop_zero, List.take_length] at *); (try refine ⟨_, rfl, ?_, ?_⟩); (all_goals (subst hR0; (try simp only [Lg.std, Alg.std, List.drop_zero, List.take_length, F_s_SameDisks] at *); first | done | (grind)))) | skip
  refine lp_v (V := (Int)) (fun (i : Int) => ⟨[.junk, .junk, .bptr 0 0, .bptr 1 0, .junk, .junk, .dat (.int .i64) i, .junk, .junk, .junk, .junk, .junk, .junk, .junk, .junk, .junk, .junk, .junk, .junk, .junk, .junk, .junk, .junk, .junk, .junk, .junk, .junk, .junk, .junk, .junk, .junk, .junk, .junk, .junk, .junk, .junk, .junk, .junk, .junk, .junk, .junk, .junk, .junk, .junk, .junk, .junk, .junk, .junk, .junk, .junk, .junk, .junk, .junk, .junk, .junk, .junk, .junk, .junk, .junk, .junk, .junk, .junk, .junk, .junk, .junk, .junk, .junk, .junk, .junk, .junk, .junk, .junk, .junk, .junk, .junk, .junk, .junk, .junk, .junk, .junk], [some (.box [.dat (.sl (.sl (.int .u8))) a_0, .dat (.sl (.pair (.int .i64) (.pair (.sl (.int .u8)) .unit))) a_1]), some (.box [.dat (.sl (.sl (.int .u8))) b_0, .dat (.sl (.pair (.int .i64) (.pair (.sl (.int .u8)) .unit))) b_1])]⟩) (fun (i : Int) => a_1.length = b_1.length ∧ 0 ≤ i ∧ i ≤ a_1.length ∧ decide (a_1 = b_1) = decide (a_1.drop i.toNat = b_1.drop i.toNat)) (fun (i : Int) => a_1.length - i.toNat) (0) rfl ?_ ?_
  · subst hR0
    simp only [Alg.std, F_s_SameDisks] at *
    all_goals grind
  rintro i hf I hI
  replace hf : a_1.length = b_1.length ∧ 0 ≤ i ∧ i ≤ a_1.length ∧ decide (a_1 = b_1) = decide (a_1.drop i.toNat = b_1.drop i.toNat) := hf
  generalize hL : Lg.std = L
  generalize hA : Alg.std = A
  cbv
  subst hL hA
  try dsimp only [Ty.den]
  subst hI
  obtain ⟨h1, h2, h3, h4⟩ := hf
  have hl := hw.1.2.1.1
  have hdc := fun (h : i.toNat < a_1.length) => drop_cons a_1 ((0, [], PUnit.unit) : (Int) × (List (Int)) × Unit) i.toNat h
  have he := fun (h : a_1.length ≤ i.toNat) => drop_nil a_1 i.toNat h
  have hdc2 := fun (h : i.toNat < b_1.length) => drop_cons b_1 ((0, [], PUnit.unit) : (Int) × (List (Int)) × Unit) i.toNat h
  have he2 := fun (h : b_1.length ≤ i.toNat) => drop_nil b_1 i.toNat h
  have hsu : (i + 1).toNat = i.toNat + 1 := by omega
  repeat' (first | intro _ | apply And.intro)
  all_goals first | (with_reducible exact True.intro) | ((fail_if_success (refine lp_v (V := Unit) (fun _ => ⟨[], []⟩) (fun _ => True) (fun _ => 0) () ?_ ?_ ?_)); (try simp only [Lg.std, Alg.std, List.drop_zero, List.take_length] at *); (try refine ⟨_, rfl, ?_, ?_⟩); (all_goals (subst hR0; (try simp only [Lg.std, Alg.std, List.drop_zero, List.take_length, F_s_SameDisks] at *); first | done | ((try generalize a_1.getD i.toNat ((0, [], PUnit.unit) : (Int) × (List (Int)) × Unit) = xa at *); (try generalize b_1.getD i.toNat ((0, [], PUnit.unit) : (Int) × (List (Int)) × Unit) = xb at *); (try obtain ⟨xa0, xa1, ⟨⟩⟩ := xa); (try obtain ⟨xb0, xb1, ⟨⟩⟩ := xb); (try dsimp only at *); grind)))) | skip
def con_s_SameDisks : Con := ⟨true, g2 (pD (.pair (.sl (.sl (.int .u8))) (.pair (.sl (.pair (.int .i64) (.pair (.sl (.int .u8)) .unit))) .unit))) (pD (.pair (.sl (.sl (.int .u8))) (.pair (.sl (.pair (.int .i64) (.pair (.sl (.int .u8)) .unit))) .unit))) fun a b => ⟨[Q_s_SameDisks a b], [⟨.bool, .sh, F_s_SameDisks a b⟩], []⟩, []⟩
theorem ok_s_SameDisks : ConOk pg 119 con_s_SameDisks := ConOk.g2 (Enters.of (by kernel_rfl)) ct_s_SameDisks

def F_i_SameDrafts (a : ((List (List (Int))) × (List ((Int) × (List (Int)) × Unit)) × Unit) × (List (Int)) × (List (Int)) × Unit) (b : ((List (List (Int))) × (List ((Int) × (List (Int)) × Unit)) × Unit) × (List (Int)) × (List (Int)) × Unit) : Bool := decide (a = b)
def Q_i_SameDrafts (a : ((List (List (Int))) × (List ((Int) × (List (Int)) × Unit)) × Unit) × (List (Int)) × (List (Int)) × Unit) (b : ((List (List (Int))) × (List ((Int) × (List (Int)) × Unit)) × Unit) × (List (Int)) × (List (Int)) × Unit) : Prop := True
def O_i_SameDrafts : Opt := ⟨fun i => false, fun i => [], fun i => .done, fun i => none⟩
def τ_i_SameDrafts : Env := Env.of [(2, (.int .i64)), (4, .bool), (44, (.sl (.int .i64))), (91, (.pair (.sl (.sl (.int .u8))) (.pair (.sl (.pair (.int .i64) (.pair (.sl (.int .u8)) .unit))) .unit))), (93, (.pair (.pair (.sl (.sl (.int .u8))) (.pair (.sl (.pair (.int .i64) (.pair (.sl (.int .u8)) .unit))) .unit)) (.pair (.sl (.int .i64)) (.pair (.sl (.int .i64)) .unit))))] []

theorem ct_i_SameDrafts (a : ((List (List (Int))) × (List ((Int) × (List (Int)) × Unit)) × Unit) × (List (Int)) × (List (Int)) × Unit) (b : ((List (List (Int))) × (List ((Int) × (List (Int)) × Unit)) × Unit) × (List (Int)) × (List (Int)) × Unit) : Ct pg 59 [.dat (.pair (.pair (.sl (.sl (.int .u8))) (.pair (.sl (.pair (.int .i64) (.pair (.sl (.int .u8)) .unit))) .unit)) (.pair (.sl (.int .i64)) (.pair (.sl (.int .i64)) .unit))) a, .dat (.pair (.pair (.sl (.sl (.int .u8))) (.pair (.sl (.pair (.int .i64) (.pair (.sl (.int .u8)) .unit))) .unit)) (.pair (.sl (.int .i64)) (.pair (.sl (.int .i64)) .unit))) b] ⟨[Q_i_SameDrafts a b], [⟨.bool, .sh, F_i_SameDrafts a b⟩], []⟩ := by
  refine ct_claim (O := O_i_SameDrafts) (τ := τ_i_SameDrafts) (EnvOk.of (by kernel_rfl)) (GOk.of (.cons ok_sl_Equal_int64 (.cons ok_i_SameDisks .nil) : AllOk pg [(91, con_sl_Equal_int64), (121, con_i_SameDisks)])) mixed (Enters.of (by kernel_rfl)) (fn := Go.Proofs.Try.f59) (by kernel_rfl) rfl (by kernel_rfl) ?_
  intro hp hw
  have hq : Q_i_SameDrafts a b := hp _ (List.mem_singleton.2 rfl)
  clear hp
  change claim Lg.std Alg.std τ_i_SameDrafts (Gam.of [(91, ⟨true, g2 (pD (.sl (.int .i64))) (pD (.sl (.int .i64))) fun a b => ⟨[Q_sl_Equal_int64 a b], [⟨.bool, .sh, F_sl_Equal_int64 a b⟩], []⟩, []⟩), (121, ⟨true, g2 (pD (.pair (.sl (.sl (.int .u8))) (.pair (.sl (.pair (.int .i64) (.pair (.sl (.int .u8)) .unit))) .unit))) (pD (.pair (.sl (.sl (.int .u8))) (.pair (.sl (.pair (.int .i64) (.pair (.sl (.int .u8)) .unit))) .unit))) fun a b => ⟨[Q_i_SameDisks a b], [⟨.bool, .sh, F_i_SameDisks a b⟩], []⟩, []⟩)]) O_i_SameDrafts Go.Proofs.Try.f59 [.dat (.pair (.pair (.sl (.sl (.int .u8))) (.pair (.sl (.pair (.int .i64) (.pair (.sl (.int .u8)) .unit))) .unit)) (.pair (.sl (.int .i64)) (.pair (.sl (.int .i64)) .unit))) a, .dat (.pair (.pair (.sl (.sl (.int .u8))) (.pair (.sl (.pair (.int .i64) (.pair (.sl (.int .u8)) .unit))) .unit)) (.pair (.sl (.int .i64)) (.pair (.sl (.int .i64)) .unit))) b] ⟨[Q_i_SameDrafts a b], [⟨.bool, .sh, F_i_SameDrafts a b⟩], []⟩
  generalize hg_F_sl_Equal_int64 : F_sl_Equal_int64 = g_F_sl_Equal_int64
  generalize hg_Q_sl_Equal_int64 : Q_sl_Equal_int64 = g_Q_sl_Equal_int64
  generalize hg_F_i_SameDisks : F_i_SameDisks = g_F_i_SameDisks
  generalize hg_Q_i_SameDisks : Q_i_SameDisks = g_Q_i_SameDisks
  generalize hR0 : F_i_SameDrafts a b = R0
  generalize Q_i_SameDrafts a b = Q0
  generalize hL : Lg.std = L
  generalize hA : Alg.std = A
  cbv
  subst hL hA
  try dsimp only [Ty.den]
  obtain ⟨⟨a_0_0, a_0_1, ⟨⟩⟩, a_1, a_2, ⟨⟩⟩ := a
  obtain ⟨⟨b_0_0, b_0_1, ⟨⟩⟩, b_1, b_2, ⟨⟩⟩ := b
  subst hR0 hg_F_sl_Equal_int64 hg_Q_sl_Equal_int64 hg_F_i_SameDisks hg_Q_i_SameDisks
  simp only [Q_i_SameDrafts] at hq
  simp only [Lg.std, Alg.std, List.drop_zero, List.take_length, F_sl_Equal_int64, F_i_SameDisks, Q_sl_Equal_int64, Q_i_SameDisks, F_i_SameDrafts]
  all_goals grind
def con_i_SameDrafts : Con := ⟨true, g2 (pD (.pair (.pair (.sl (.sl (.int .u8))) (.pair (.sl (.pair (.int .i64) (.pair (.sl (.int .u8)) .unit))) .unit)) (.pair (.sl (.int .i64)) (.pair (.sl (.int .i64)) .unit)))) (pD (.pair (.pair (.sl (.sl (.int .u8))) (.pair (.sl (.pair (.int .i64) (.pair (.sl (.int .u8)) .unit))) .unit)) (.pair (.sl (.int .i64)) (.pair (.sl (.int .i64)) .unit)))) fun a b => ⟨[Q_i_SameDrafts a b], [⟨.bool, .sh, F_i_SameDrafts a b⟩], []⟩, []⟩
theorem ok_i_SameDrafts : ConOk pg 59 con_i_SameDrafts := ConOk.g2 (Enters.of (by kernel_rfl)) ct_i_SameDrafts

def F_s_SameDrafts (a : ((List (List (Int))) × (List ((Int) × (List (Int)) × Unit)) × Unit) × (List (Int)) × (List (Int)) × Unit) (b : ((List (List (Int))) × (List ((Int) × (List (Int)) × Unit)) × Unit) × (List (Int)) × (List (Int)) × Unit) : Bool := decide (a = b)
def Q_s_SameDrafts (a : ((List (List (Int))) × (List ((Int) × (List (Int)) × Unit)) × Unit) × (List (Int)) × (List (Int)) × Unit) (b : ((List (List (Int))) × (List ((Int) × (List (Int)) × Unit)) × Unit) × (List (Int)) × (List (Int)) × Unit) : Prop := True
def O_s_SameDrafts : Opt := ⟨fun i => false, fun i => [], fun i => .done, fun i => none⟩
def τ_s_SameDrafts : Env := Env.of [(2, (.int .i64)), (4, .bool), (44, (.sl (.int .i64))), (91, (.pair (.sl (.sl (.int .u8))) (.pair (.sl (.pair (.int .i64) (.pair (.sl (.int .u8)) .unit))) .unit))), (93, (.pair (.pair (.sl (.sl (.int .u8))) (.pair (.sl (.pair (.int .i64) (.pair (.sl (.int .u8)) .unit))) .unit)) (.pair (.sl (.int .i64)) (.pair (.sl (.int .i64)) .unit))))] []

theorem ct_s_SameDrafts (a : ((List (List (Int))) × (List ((Int) × (List (Int)) × Unit)) × Unit) × (List (Int)) × (List (Int)) × Unit) (b : ((List (List (Int))) × (List ((Int) × (List (Int)) × Unit)) × Unit) × (List (Int)) × (List (Int)) × Unit) : Ct pg 57 [.dat (.pair (.pair (.sl (.sl (.int .u8))) (.pair (.sl (.pair (.int .i64) (.pair (.sl (.int .u8)) .unit))) .unit)) (.pair (.sl (.int .i64)) (.pair (.sl (.int .i64)) .unit))) a, .dat (.pair (.pair (.sl (.sl (.int .u8))) (.pair (.sl (.pair (.int .i64) (.pair (.sl (.int .u8)) .unit))) .unit)) (.pair (.sl (.int .i64)) (.pair (.sl (.int .i64)) .unit))) b] ⟨[Q_s_SameDrafts a b], [⟨.bool, .sh, F_s_SameDrafts a b⟩], []⟩ := by
  refine ct_claim (O := O_s_SameDrafts) (τ := τ_s_SameDrafts) (EnvOk.of (by kernel_rfl)) (GOk.of (.cons ok_s_l1Same (.cons ok_s_SameDisks .nil) : AllOk pg [(87, con_s_l1Same), (119, con_s_SameDisks)])) mixed (Enters.of (by kernel_rfl)) (fn := Go.Proofs.Try.f57) (by kernel_rfl) rfl (by kernel_rfl) ?_
  intro hp hw
  have hq : Q_s_SameDrafts a b := hp _ (List.mem_singleton.2 rfl)
  clear hp
  change claim Lg.std Alg.std τ_s_SameDrafts (Gam.of [(87, ⟨true, g2 (pD (.sl (.int .i64))) (pD (.sl (.int .i64))) fun a b => ⟨[Q_s_l1Same a b], [⟨.bool, .sh, F_s_l1Same a b⟩], []⟩, []⟩), (119, ⟨true, g2 (pD (.pair (.sl (.sl (.int .u8))) (.pair (.sl (.pair (.int .i64) (.pair (.sl (.int .u8)) .unit))) .unit))) (pD (.pair (.sl (.sl (.int .u8))) (.pair (.sl (.pair (.int .i64) (.pair (.sl (.int .u8)) .unit))) .unit))) fun a b => ⟨[Q_s_SameDisks a b], [⟨.bool, .sh, F_s_SameDisks a b⟩], []⟩, []⟩)]) O_s_SameDrafts Go.Proofs.Try.f57 [.dat (.pair (.pair (.sl (.sl (.int .u8))) (.pair (.sl (.pair (.int .i64) (.pair (.sl (.int .u8)) .unit))) .unit)) (.pair (.sl (.int .i64)) (.pair (.sl (.int .i64)) .unit))) a, .dat (.pair (.pair (.sl (.sl (.int .u8))) (.pair (.sl (.pair (.int .i64) (.pair (.sl (.int .u8)) .unit))) .unit)) (.pair (.sl (.int .i64)) (.pair (.sl (.int .i64)) .unit))) b] ⟨[Q_s_SameDrafts a b], [⟨.bool, .sh, F_s_SameDrafts a b⟩], []⟩
  generalize hg_F_s_l1Same : F_s_l1Same = g_F_s_l1Same
  generalize hg_Q_s_l1Same : Q_s_l1Same = g_Q_s_l1Same
  generalize hg_F_s_SameDisks : F_s_SameDisks = g_F_s_SameDisks
  generalize hg_Q_s_SameDisks : Q_s_SameDisks = g_Q_s_SameDisks
  generalize hR0 : F_s_SameDrafts a b = R0
  generalize Q_s_SameDrafts a b = Q0
  generalize hL : Lg.std = L
  generalize hA : Alg.std = A
  cbv
  subst hL hA
  try dsimp only [Ty.den]
  obtain ⟨⟨a_0_0, a_0_1, ⟨⟩⟩, a_1, a_2, ⟨⟩⟩ := a
  obtain ⟨⟨b_0_0, b_0_1, ⟨⟩⟩, b_1, b_2, ⟨⟩⟩ := b
  subst hR0 hg_F_s_l1Same hg_Q_s_l1Same hg_F_s_SameDisks hg_Q_s_SameDisks
  simp only [Q_s_SameDrafts] at hq
  simp only [Lg.std, Alg.std, List.drop_zero, List.take_length, F_s_l1Same, F_s_SameDisks, Q_s_l1Same, Q_s_SameDisks, F_s_SameDrafts]
  all_goals grind
def con_s_SameDrafts : Con := ⟨true, g2 (pD (.pair (.pair (.sl (.sl (.int .u8))) (.pair (.sl (.pair (.int .i64) (.pair (.sl (.int .u8)) .unit))) .unit)) (.pair (.sl (.int .i64)) (.pair (.sl (.int .i64)) .unit)))) (pD (.pair (.pair (.sl (.sl (.int .u8))) (.pair (.sl (.pair (.int .i64) (.pair (.sl (.int .u8)) .unit))) .unit)) (.pair (.sl (.int .i64)) (.pair (.sl (.int .i64)) .unit)))) fun a b => ⟨[Q_s_SameDrafts a b], [⟨.bool, .sh, F_s_SameDrafts a b⟩], []⟩, []⟩
theorem ok_s_SameDrafts : ConOk pg 57 con_s_SameDrafts := ConOk.g2 (Enters.of (by kernel_rfl)) ct_s_SameDrafts

def F_w_FnExactSameDrafts (a : ((List (List (Int))) × (List ((Int) × (List (Int)) × Unit)) × Unit) × (List (Int)) × (List (Int)) × Unit) (b : ((List (List (Int))) × (List ((Int) × (List (Int)) × Unit)) × Unit) × (List (Int)) × (List (Int)) × Unit) : Bool := true
def Q_w_FnExactSameDrafts (a : ((List (List (Int))) × (List ((Int) × (List (Int)) × Unit)) × Unit) × (List (Int)) × (List (Int)) × Unit) (b : ((List (List (Int))) × (List ((Int) × (List (Int)) × Unit)) × Unit) × (List (Int)) × (List (Int)) × Unit) : Prop := True
def O_w_FnExactSameDrafts : Opt := ⟨fun i => false, fun i => [], fun i => (match decide (i = 16) with | true => (.alt 0 (.alt 1 (.alt 2 (.alt 3 (.take 4 .done) .no) .no) .no) (.alt 1 (.alt 0 (.alt 2 (.alt 3 (.take 4 .done) .no) .no) (.alt 2 (.alt 0 (.alt 3 (.take 4 .done) .no) .no) .no)) .no)) | false => (match decide (i = 14) with | true => (.alt 0 (.alt 1 (.alt 2 (.alt 3 (.take 4 .done) .no) .no) .no) (.alt 1 (.alt 0 (.alt 2 (.alt 3 (.take 4 .done) .no) .no) (.alt 2 (.alt 0 (.alt 3 (.take 4 .done) .no) .no) .no)) .no)) | false => (match decide (i = 8) with | true => (.alt 0 (.alt 1 (.alt 2 (.alt 3 (.alt 4 (.take 5 .done) .no) .no) .no) (.alt 2 (.alt 1 (.alt 3 (.alt 4 (.take 5 .done) .no) .no) .no) .no)) (.alt 2 (.alt 0 (.alt 1 (.alt 3 (.alt 4 (.take 5 .done) .no) .no) .no) .no) .no)) | false => .done))), fun i => (match decide (i = 16) with | true => some [false, false, false, false, false, false, false, false, false, false, false, false, false, false, false, false, false, false, false, false, false, false, false, false, false, false, false, false, false, false, false, false, false, false, false, false, false, false, false, false, false, false, false, false, true] | false => (match decide (i = 14) with | true => some [false, false, false, true, false, false, false, false, true, false, false, false, false, false, false, false, false, false, false, false, false, false, false, false, false, false, false, false, false, false, false, false, false, false, false, false, false, false, false, true, false, false, false, false, false] | false => (match decide (i = 8) with | true => some [false, false, true, true, false, false, true, false, false, false, false, false, false, false, false, false, false, false, false, false, false, false, false, false, false, false, false, false, false, false, false, false, false, false, false, false, false, false, false, false, false, false, false, false, false] | false => none)))⟩
def τ_w_FnExactSameDrafts : Env := Env.of [(3, (.int .i64)), (4, .bool), (86, (.pair (.pair (.sl (.sl (.int .u8))) (.pair (.sl (.pair (.int .i64) (.pair (.sl (.int .u8)) .unit))) .unit)) (.pair (.sl (.int .i64)) (.pair (.sl (.int .i64)) .unit)))), (93, (.pair (.pair (.sl (.sl (.int .u8))) (.pair (.sl (.pair (.int .i64) (.pair (.sl (.int .u8)) .unit))) .unit)) (.pair (.sl (.int .i64)) (.pair (.sl (.int .i64)) .unit))))] []

theorem ct_w_FnExactSameDrafts (a : ((List (List (Int))) × (List ((Int) × (List (Int)) × Unit)) × Unit) × (List (Int)) × (List (Int)) × Unit) (b : ((List (List (Int))) × (List ((Int) × (List (Int)) × Unit)) × Unit) × (List (Int)) × (List (Int)) × Unit) : Ct pg 11 [.dat (.pair (.pair (.sl (.sl (.int .u8))) (.pair (.sl (.pair (.int .i64) (.pair (.sl (.int .u8)) .unit))) .unit)) (.pair (.sl (.int .i64)) (.pair (.sl (.int .i64)) .unit))) a, .dat (.pair (.pair (.sl (.sl (.int .u8))) (.pair (.sl (.pair (.int .i64) (.pair (.sl (.int .u8)) .unit))) .unit)) (.pair (.sl (.int .i64)) (.pair (.sl (.int .i64)) .unit))) b] ⟨[Q_w_FnExactSameDrafts a b], [⟨.bool, .sh, F_w_FnExactSameDrafts a b⟩], []⟩ := by
  refine ct_claim (O := O_w_FnExactSameDrafts) (τ := τ_w_FnExactSameDrafts) (EnvOk.of (by kernel_rfl)) (GOk.of (.cons ok_w_toDraft (.cons ok_w_eqDraft (.cons ok_w_szDraft (.cons ok_i_SameDrafts (.cons ok_s_SameDrafts .nil)))) : AllOk pg [(58, con_w_toDraft), (60, con_w_eqDraft), (56, con_w_szDraft), (59, con_i_SameDrafts), (57, con_s_SameDrafts)])) mixed (Enters.of (by kernel_rfl)) (fn := Go.Proofs.Try.f11) (by kernel_rfl) rfl (by kernel_rfl) ?_
  intro hp hw
  have hq : Q_w_FnExactSameDrafts a b := hp _ (List.mem_singleton.2 rfl)
  clear hp
  change claim Lg.std Alg.std τ_w_FnExactSameDrafts (Gam.of [(58, ⟨true, g1 (pD (.pair (.pair (.sl (.sl (.int .u8))) (.pair (.sl (.pair (.int .i64) (.pair (.sl (.int .u8)) .unit))) .unit)) (.pair (.sl (.int .i64)) (.pair (.sl (.int .i64)) .unit)))) fun a => ⟨[Q_w_toDraft a], [⟨(.pair (.pair (.sl (.sl (.int .u8))) (.pair (.sl (.pair (.int .i64) (.pair (.sl (.int .u8)) .unit))) .unit)) (.pair (.sl (.int .i64)) (.pair (.sl (.int .i64)) .unit))), (.pr (.pr (.ow (.ow .sh)) (.pr (.ow (.pr .sh (.pr (.ow .sh) .sh))) .sh)) (.pr (.ow .sh) (.pr (.ow .sh) .sh))), F_w_toDraft a⟩], []⟩, []⟩), (60, ⟨true, g2 (pD (.pair (.pair (.sl (.sl (.int .u8))) (.pair (.sl (.pair (.int .i64) (.pair (.sl (.int .u8)) .unit))) .unit)) (.pair (.sl (.int .i64)) (.pair (.sl (.int .i64)) .unit)))) (pD (.pair (.pair (.sl (.sl (.int .u8))) (.pair (.sl (.pair (.int .i64) (.pair (.sl (.int .u8)) .unit))) .unit)) (.pair (.sl (.int .i64)) (.pair (.sl (.int .i64)) .unit)))) fun a b => ⟨[Q_w_eqDraft a b], [⟨.bool, .sh, F_w_eqDraft a b⟩], []⟩, []⟩), (56, ⟨true, g2 (pD (.pair (.pair (.sl (.sl (.int .u8))) (.pair (.sl (.pair (.int .i64) (.pair (.sl (.int .u8)) .unit))) .unit)) (.pair (.sl (.int .i64)) (.pair (.sl (.int .i64)) .unit)))) (pD (.int .i64)) fun a left => ⟨[Q_w_szDraft a left], [⟨(.int .i64), .sh, F_w_szDraft a left⟩], []⟩, []⟩), (59, ⟨true, g2 (pD (.pair (.pair (.sl (.sl (.int .u8))) (.pair (.sl (.pair (.int .i64) (.pair (.sl (.int .u8)) .unit))) .unit)) (.pair (.sl (.int .i64)) (.pair (.sl (.int .i64)) .unit)))) (pD (.pair (.pair (.sl (.sl (.int .u8))) (.pair (.sl (.pair (.int .i64) (.pair (.sl (.int .u8)) .unit))) .unit)) (.pair (.sl (.int .i64)) (.pair (.sl (.int .i64)) .unit)))) fun a b => ⟨[Q_i_SameDrafts a b], [⟨.bool, .sh, F_i_SameDrafts a b⟩], []⟩, []⟩), (57, ⟨true, g2 (pD (.pair (.pair (.sl (.sl (.int .u8))) (.pair (.sl (.pair (.int .i64) (.pair (.sl (.int .u8)) .unit))) .unit)) (.pair (.sl (.int .i64)) (.pair (.sl (.int .i64)) .unit)))) (pD (.pair (.pair (.sl (.sl (.int .u8))) (.pair (.sl (.pair (.int .i64) (.pair (.sl (.int .u8)) .unit))) .unit)) (.pair (.sl (.int .i64)) (.pair (.sl (.int .i64)) .unit)))) fun a b => ⟨[Q_s_SameDrafts a b], [⟨.bool, .sh, F_s_SameDrafts a b⟩], []⟩, []⟩)]) O_w_FnExactSameDrafts Go.Proofs.Try.f11 [.dat (.pair (.pair (.sl (.sl (.int .u8))) (.pair (.sl (.pair (.int .i64) (.pair (.sl (.int .u8)) .unit))) .unit)) (.pair (.sl (.int .i64)) (.pair (.sl (.int .i64)) .unit))) a, .dat (.pair (.pair (.sl (.sl (.int .u8))) (.pair (.sl (.pair (.int .i64) (.pair (.sl (.int .u8)) .unit))) .unit)) (.pair (.sl (.int .i64)) (.pair (.sl (.int .i64)) .unit))) b] ⟨[Q_w_FnExactSameDrafts a b], [⟨.bool, .sh, F_w_FnExactSameDrafts a b⟩], []⟩
  generalize hg_F_w_toDraft : F_w_toDraft = g_F_w_toDraft
  generalize hg_Q_w_toDraft : Q_w_toDraft = g_Q_w_toDraft
  generalize hg_F_w_eqDraft : F_w_eqDraft = g_F_w_eqDraft
  generalize hg_Q_w_eqDraft : Q_w_eqDraft = g_Q_w_eqDraft
  generalize hg_F_w_szDraft : F_w_szDraft = g_F_w_szDraft
  generalize hg_Q_w_szDraft : Q_w_szDraft = g_Q_w_szDraft
  generalize hg_F_i_SameDrafts : F_i_SameDrafts = g_F_i_SameDrafts
  generalize hg_Q_i_SameDrafts : Q_i_SameDrafts = g_Q_i_SameDrafts
  generalize hg_F_s_SameDrafts : F_s_SameDrafts = g_F_s_SameDrafts
  generalize hg_Q_s_SameDrafts : Q_s_SameDrafts = g_Q_s_SameDrafts
  generalize hR0 : F_w_FnExactSameDrafts a b = R0
  generalize Q_w_FnExactSameDrafts a b = Q0
  generalize hL : Lg.std = L
  generalize hA : Alg.std = A
  cbv
  subst hL hA
  try dsimp only [Ty.den]
  obtain ⟨⟨a_0_0, a_0_1, ⟨⟩⟩, a_1, a_2, ⟨⟩⟩ := a
  obtain ⟨⟨b_0_0, b_0_1, ⟨⟩⟩, b_1, b_2, ⟨⟩⟩ := b
  subst hR0 hg_F_w_toDraft hg_Q_w_toDraft hg_F_w_eqDraft hg_Q_w_eqDraft hg_F_w_szDraft hg_Q_w_szDraft hg_F_i_SameDrafts hg_Q_i_SameDrafts hg_F_s_SameDrafts hg_Q_s_SameDrafts
  simp only [Lg.std, Alg.std, List.drop_zero, List.take_length, F_w_toDraft, F_w_eqDraft, F_w_szDraft, F_i_SameDrafts, F_s_SameDrafts, Q_w_toDraft, Q_w_eqDraft, Q_w_szDraft, Q_i_SameDrafts, Q_s_SameDrafts, F_w_FnExactSameDrafts, szf] at *
  try simp only [ne_eq, not_true_eq_false, decide_true, decide_false, Bool.not_true, Bool.not_false, Bool.false_eq_true, Bool.true_eq_false, false_implies, forall_const, implies_true, true_and, and_true, reduceCtorEq, false_implies, true_implies]
  repeat' (first | intro _ | apply And.intro)
  all_goals grind

def con_w_FnExactSameDrafts : Con := ⟨true, g2 (pD (.pair (.pair (.sl (.sl (.int .u8))) (.pair (.sl (.pair (.int .i64) (.pair (.sl (.int .u8)) .unit))) .unit)) (.pair (.sl (.int .i64)) (.pair (.sl (.int .i64)) .unit)))) (pD (.pair (.pair (.sl (.sl (.int .u8))) (.pair (.sl (.pair (.int .i64) (.pair (.sl (.int .u8)) .unit))) .unit)) (.pair (.sl (.int .i64)) (.pair (.sl (.int .i64)) .unit)))) fun a b => ⟨[Q_w_FnExactSameDrafts a b], [⟨.bool, .sh, F_w_FnExactSameDrafts a b⟩], []⟩, []⟩
theorem ok_w_FnExactSameDrafts : ConOk pg 11 con_w_FnExactSameDrafts := ConOk.g2 (Enters.of (by kernel_rfl)) ct_w_FnExactSameDrafts
end Go.Vee
