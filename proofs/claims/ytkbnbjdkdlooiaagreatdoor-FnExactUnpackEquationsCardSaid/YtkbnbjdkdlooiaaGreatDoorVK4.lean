/-
  Contracts of functions of the program: what each returns for all arguments that its precondition lets in.
-/
import Derived.Test.YtkbnbjdkdlooiaaGreatDoorVK3
set_option linter.unusedSimpArgs false
set_option linter.unusedVariables false
set_option maxRecDepth 100000
set_option maxHeartbeats 4000000
set_option synthInstance.maxHeartbeats 4000000
set_option synthInstance.maxSize 20000000
namespace Go.Vee
open Go
def F_w_toSymbol (a : (List Int) × (Int) × Unit) : (List Int) × (Int) × Unit := a
def Q_w_toSymbol (a : (List Int) × (Int) × Unit) : Prop := tot (.pair .str (.pair (.int .i64) .unit)) a ≤ 1048576
def O_w_toSymbol : Opt := ⟨fun i => false, fun i => [], fun i => .done, fun i => none, fun i => false, fun i => [], fun i => false, fun i => none⟩
def τ_w_toSymbol : Env := Env.of [(2, (.int .i64)), (9, .str), (173, (.pair .str (.pair (.int .i64) .unit))), (175, (.pair .str (.pair (.int .i64) .unit)))] [] []

theorem ct_w_toSymbol (a : (List Int) × (Int) × Unit) : Ct pg 130 [.dat (.pair .str (.pair (.int .i64) .unit)) a] ⟨[Q_w_toSymbol a], [⟨(.pair .str (.pair (.int .i64) .unit)), (.pr .sh (.pr .sh .sh)), F_w_toSymbol a⟩], []⟩ := by
  refine ct_claim (O := O_w_toSymbol) (τ := τ_w_toSymbol) (EnvOk.of (by kernel_rfl) (by kernel_rfl)) (GOk.of (.nil : AllOk pg [])) mixed (Enters.of (by kernel_rfl)) (fn := Go.Proofs.Tryz.f130) (by kernel_rfl) rfl (by kernel_rfl) ?_
  intro hp hw
  have hq : Q_w_toSymbol a := hp _ (List.mem_singleton.2 rfl)
  clear hp
  change claim Lg.std Alg.std τ_w_toSymbol (Gam.of []) O_w_toSymbol Go.Proofs.Tryz.f130 [.dat (.pair .str (.pair (.int .i64) .unit)) a] ⟨[Q_w_toSymbol a], [⟨(.pair .str (.pair (.int .i64) .unit)), (.pr .sh (.pr .sh .sh)), F_w_toSymbol a⟩], []⟩
  generalize hR0 : F_w_toSymbol a = R0
  generalize Q_w_toSymbol a = Q0
  generalize hL : Lg.std = L
  generalize hA : Alg.std = A
  cbv
  subst hL hA
  try dsimp only [Ty.den]
  obtain ⟨f0, f1, ⟨⟩⟩ := a
  simp only [Q_w_toSymbol] at hq
  subst hR0
  simp only [Lg.std, Alg.std, List.drop_zero, List.take_length, F_w_toSymbol, szf, tot_p, tot_u, tot_i, tot_b, tot_s, cnt_p, cnt_u, cnt_i0, cnt_b0, cnt_s0, cnt_i1, cnt_b1, cnt_s1, cnt_l, mk_p, mk_u, mk_i0, mk_b0, mk_s0, mk_i1, mk_s1, mk_l, hd_p, hd_u, hd_i0, hd_b0, hd_s0, hd_i1, hd_b1, hd_s1, hd_l] at *
  all_goals grind [mk_len]
def con_w_toSymbol : Con := ⟨true, g1 (pD (.pair .str (.pair (.int .i64) .unit))) fun a => .one ⟨[Q_w_toSymbol a], [⟨(.pair .str (.pair (.int .i64) .unit)), (.pr .sh (.pr .sh .sh)), F_w_toSymbol a⟩], []⟩, [], false, 0⟩
theorem ok_w_toSymbol : ConOk pg 130 con_w_toSymbol := ConOk.g1 (Enters.of (by kernel_rfl)) ct_w_toSymbol

def F_w_eqSymbol (a : (List Int) × (Int) × Unit) (b : (List Int) × (Int) × Unit) : Bool := decide (a = b)
def Q_w_eqSymbol (a : (List Int) × (Int) × Unit) (b : (List Int) × (Int) × Unit) : Prop := True
def O_w_eqSymbol : Opt := ⟨fun i => false, fun i => [], fun i => .done, fun i => none, fun i => false, fun i => [], fun i => false, fun i => none⟩
def τ_w_eqSymbol : Env := Env.of [(2, (.int .i64)), (4, .bool), (9, .str), (175, (.pair .str (.pair (.int .i64) .unit)))] [] []

theorem ct_w_eqSymbol (a : (List Int) × (Int) × Unit) (b : (List Int) × (Int) × Unit) : Ct pg 139 [.dat (.pair .str (.pair (.int .i64) .unit)) a, .dat (.pair .str (.pair (.int .i64) .unit)) b] ⟨[Q_w_eqSymbol a b], [⟨.bool, .sh, F_w_eqSymbol a b⟩], []⟩ := by
  refine ct_claim (O := O_w_eqSymbol) (τ := τ_w_eqSymbol) (EnvOk.of (by kernel_rfl) (by kernel_rfl)) (GOk.of (.nil : AllOk pg [])) mixed (Enters.of (by kernel_rfl)) (fn := Go.Proofs.Tryz.f139) (by kernel_rfl) rfl (by kernel_rfl) ?_
  intro hp hw
  have hq : Q_w_eqSymbol a b := hp _ (List.mem_singleton.2 rfl)
  clear hp
  change claim Lg.std Alg.std τ_w_eqSymbol (Gam.of []) O_w_eqSymbol Go.Proofs.Tryz.f139 [.dat (.pair .str (.pair (.int .i64) .unit)) a, .dat (.pair .str (.pair (.int .i64) .unit)) b] ⟨[Q_w_eqSymbol a b], [⟨.bool, .sh, F_w_eqSymbol a b⟩], []⟩
  generalize hR0 : F_w_eqSymbol a b = R0
  generalize Q_w_eqSymbol a b = Q0
  generalize hL : Lg.std = L
  generalize hA : Alg.std = A
  cbv
  subst hL hA
  try dsimp only [Ty.den]
  obtain ⟨f0, f1, ⟨⟩⟩ := a
  obtain ⟨g0, g1, ⟨⟩⟩ := b
  subst hR0
  simp only [Q_w_eqSymbol] at hq
  simp only [Lg.std, Alg.std, List.drop_zero, List.take_length, F_w_eqSymbol]
  all_goals grind
def con_w_eqSymbol : Con := ⟨true, g2 (pD (.pair .str (.pair (.int .i64) .unit))) (pD (.pair .str (.pair (.int .i64) .unit))) fun a b => .one ⟨[Q_w_eqSymbol a b], [⟨.bool, .sh, F_w_eqSymbol a b⟩], []⟩, [], false, 0⟩
theorem ok_w_eqSymbol : ConOk pg 139 con_w_eqSymbol := ConOk.g2 (Enters.of (by kernel_rfl)) ct_w_eqSymbol

def F_w_szSymbol (a : (List Int) × (Int) × Unit) (left : Int) : Int := szf (tot (.pair .str (.pair (.int .i64) .unit)) a) left
def Q_w_szSymbol (a : (List Int) × (Int) × Unit) (left : Int) : Prop := 0 ≤ left ∧ left ≤ 1048576
def O_w_szSymbol : Opt := ⟨fun i => false, fun i => [], fun i => .done, fun i => none, fun i => false, fun i => [], fun i => false, fun i => none⟩
def τ_w_szSymbol : Env := Env.of [(3, (.int .i64)), (4, .bool), (9, .str), (173, (.pair .str (.pair (.int .i64) .unit)))] [] []

theorem ct_w_szSymbol (a : (List Int) × (Int) × Unit) (left : Int) : Ct pg 126 [.dat (.pair .str (.pair (.int .i64) .unit)) a, .dat (.int .i64) left] ⟨[Q_w_szSymbol a left], [⟨(.int .i64), .sh, F_w_szSymbol a left⟩], []⟩ := by
  refine ct_claim (O := O_w_szSymbol) (τ := τ_w_szSymbol) (EnvOk.of (by kernel_rfl) (by kernel_rfl)) (GOk.of (.nil : AllOk pg [])) mixed (Enters.of (by kernel_rfl)) (fn := Go.Proofs.Tryz.f126) (by kernel_rfl) rfl (by kernel_rfl) ?_
  intro hp hw
  have hq : Q_w_szSymbol a left := hp _ (List.mem_singleton.2 rfl)
  clear hp
  change claim Lg.std Alg.std τ_w_szSymbol (Gam.of []) O_w_szSymbol Go.Proofs.Tryz.f126 [.dat (.pair .str (.pair (.int .i64) .unit)) a, .dat (.int .i64) left] ⟨[Q_w_szSymbol a left], [⟨(.int .i64), .sh, F_w_szSymbol a left⟩], []⟩
  generalize hR0 : F_w_szSymbol a left = R0
  generalize Q_w_szSymbol a left = Q0
  generalize hL : Lg.std = L
  generalize hA : Alg.std = A
  cbv
  subst hL hA
  try dsimp only [Ty.den]
  obtain ⟨f0, f1, ⟨⟩⟩ := a
  have hs0 := hw.1.1.1
  simp only [Q_w_szSymbol] at hq
  subst hR0
  simp only [Lg.std, Alg.std, List.drop_zero, List.take_length, F_w_szSymbol, szf, tot_p, tot_u, tot_i, tot_b, tot_s, cnt_p, cnt_u, cnt_i0, cnt_b0, cnt_s0, cnt_i1, cnt_b1, cnt_s1, cnt_l, mk_p, mk_u, mk_i0, mk_b0, mk_s0, mk_i1, mk_s1, mk_l, hd_p, hd_u, hd_i0, hd_b0, hd_s0, hd_i1, hd_b1, hd_s1, hd_l] at *
  all_goals grind [mk_len]
def con_w_szSymbol : Con := ⟨true, g2 (pD (.pair .str (.pair (.int .i64) .unit))) (pD (.int .i64)) fun a left => .one ⟨[Q_w_szSymbol a left], [⟨(.int .i64), .sh, F_w_szSymbol a left⟩], []⟩, [], false, 0⟩
theorem ok_w_szSymbol : ConOk pg 126 con_w_szSymbol := ConOk.g2 (Enters.of (by kernel_rfl)) ct_w_szSymbol

def F_w_szSymbolS (a : List ((List Int) × (Int) × Unit)) (left : Int) : Int := szf (tot (.sl (.pair .str (.pair (.int .i64) .unit))) a) left
def Q_w_szSymbolS (a : List ((List Int) × (Int) × Unit)) (left : Int) : Prop := 0 ≤ left ∧ left ≤ 1048576
def O_w_szSymbolS : Opt := ⟨fun i => false, fun i => (match decide (i = 5) with | true => [true, true, false, false, false, true, false, false, false, false, false, false, false, false, false, false, false, false, false, false, false, false, false, false, false, false, false] | false => []), fun i => .done, fun i => none, fun i => false, fun i => [], fun i => false, fun i => none⟩
def τ_w_szSymbolS : Env := Env.of [(3, (.int .i64)), (4, .bool), (45, (.sl (.pair .str (.pair (.int .i64) .unit)))), (173, (.pair .str (.pair (.int .i64) .unit)))] [] []

theorem ct_w_szSymbolS (a : List ((List Int) × (Int) × Unit)) (left : Int) : Ct pg 65 [.dat (.sl (.pair .str (.pair (.int .i64) .unit))) a, .dat (.int .i64) left] ⟨[Q_w_szSymbolS a left], [⟨(.int .i64), .sh, F_w_szSymbolS a left⟩], []⟩ := by
  refine ct_claim (O := O_w_szSymbolS) (τ := τ_w_szSymbolS) (EnvOk.of (by kernel_rfl) (by kernel_rfl)) (GOk.of (.cons ok_w_szSymbol .nil : AllOk pg [(126, con_w_szSymbol)])) mixed (Enters.of (by kernel_rfl)) (fn := Go.Proofs.Tryz.f65) (by kernel_rfl) rfl (by kernel_rfl) ?_
  intro hp hw
  have hq : Q_w_szSymbolS a left := hp _ (List.mem_singleton.2 rfl)
  clear hp
  change claim Lg.std Alg.std τ_w_szSymbolS (Gam.of [(126, ⟨true, g2 (pD (.pair .str (.pair (.int .i64) .unit))) (pD (.int .i64)) fun a left => .one ⟨[Q_w_szSymbol a left], [⟨(.int .i64), .sh, F_w_szSymbol a left⟩], []⟩, [], false, 0⟩)]) O_w_szSymbolS Go.Proofs.Tryz.f65 [.dat (.sl (.pair .str (.pair (.int .i64) .unit))) a, .dat (.int .i64) left] ⟨[Q_w_szSymbolS a left], [⟨(.int .i64), .sh, F_w_szSymbolS a left⟩], []⟩
  generalize hg_F_w_szSymbol : F_w_szSymbol = g_F_w_szSymbol
  generalize hg_Q_w_szSymbol : Q_w_szSymbol = g_Q_w_szSymbol
  generalize hR0 : F_w_szSymbolS a left = R0
  generalize Q_w_szSymbolS a left = Q0
  generalize hL : Lg.std = L
  generalize hA : Alg.std = A
  cbv
  subst hL hA
  try dsimp only [Ty.den]
  simp only [Q_w_szSymbolS] at hq
  have hl : a.length ≤ 9223372036854775807 := hw.1.1
  have hle := tot_len (.pair .str (.pair (.int .i64) .unit)) a
  refine ⟨by simp only [Alg.std]; omega, fun hlt => ?_, fun hge => ?_⟩
  · subst hR0 hg_F_w_szSymbol hg_Q_w_szSymbol
    simp only [Lg.std, Alg.std, List.drop_zero, List.take_length, F_w_szSymbol, Q_w_szSymbol, F_w_szSymbolS, szf, decide_eq_true_eq] at *
    grind
  refine lp_v (V := (Int) × (Int)) (fun ((i, l) : (Int) × (Int)) => ⟨[.dat (.sl (.pair .str (.pair (.int .i64) .unit))) a, .dat (.int .i64) l, .junk, .junk, .junk, .dat (.int .i64) i, .junk, .junk, .junk, .junk, .junk, .junk, .junk, .junk, .junk, .junk, .junk, .junk, .junk, .junk, .junk, .junk, .junk, .junk, .junk, .junk, .junk], []⟩) (fun ((i, l) : (Int) × (Int)) => 0 ≤ i ∧ i ≤ a.length ∧ 0 ≤ l ∧ l ≤ 1048576 ∧ left - (tot (.sl (.pair .str (.pair (.int .i64) .unit))) a : Int) = l - (tot (.sl (.pair .str (.pair (.int .i64) .unit))) (a.drop i.toNat : List ((List Int) × (Int) × Unit)) : Int) + (a.length - i)) (fun ((i, l) : (Int) × (Int)) => a.length - i.toNat) (0, _) rfl ?_ ?_
  · simp [Alg.std] at hge ⊢; omega
  rintro ⟨i, l⟩ hf I hI
  replace hf : 0 ≤ i ∧ i ≤ a.length ∧ 0 ≤ l ∧ l ≤ 1048576 ∧ left - (tot (.sl (.pair .str (.pair (.int .i64) .unit))) a : Int) = l - (tot (.sl (.pair .str (.pair (.int .i64) .unit))) (a.drop i.toNat : List ((List Int) × (Int) × Unit)) : Int) + (a.length - i) := hf
  generalize hL : Lg.std = L
  generalize hA : Alg.std = A
  cbv
  subst hL hA
  try dsimp only [Ty.den]
  subst hI
  simp only [Lg.std, Alg.std, List.drop_zero, List.take_length]
  obtain ⟨h1, h2, h3, h4, h5⟩ := hf
  have hs := fun (h : i.toNat < a.length) => tot_split (.pair .str (.pair (.int .i64) .unit)) a (([], 0, PUnit.unit) : (List Int) × (Int) × Unit) i.toNat h
  have hl2 := tot_len (.pair .str (.pair (.int .i64) .unit)) (a.drop (i.toNat + 1))
  have hl3 : (a.drop (i.toNat + 1)).length = a.length - (i.toNat + 1) := List.length_drop
  have hn := tot_nil (.pair .str (.pair (.int .i64) .unit))
  have hdc := fun (h : i.toNat < a.length) => drop_cons a (([], 0, PUnit.unit) : (List Int) × (Int) × Unit) i.toNat h
  have he := fun (h : a.length ≤ i.toNat) => drop_nil a i.toNat h
  repeat' (first | intro _ | apply And.intro)
  all_goals (try refine ⟨(_, _), rfl, ?_, ?_⟩)
  all_goals subst hR0 hg_F_w_szSymbol hg_Q_w_szSymbol
  all_goals (try simp only [F_w_szSymbol, Q_w_szSymbol, F_w_szSymbolS] at *)
  all_goals grind [szf]
def con_w_szSymbolS : Con := ⟨true, g2 (pD (.sl (.pair .str (.pair (.int .i64) .unit)))) (pD (.int .i64)) fun a left => .one ⟨[Q_w_szSymbolS a left], [⟨(.int .i64), .sh, F_w_szSymbolS a left⟩], []⟩, [], false, 0⟩
theorem ok_w_szSymbolS : ConOk pg 65 con_w_szSymbolS := ConOk.g2 (Enters.of (by kernel_rfl)) ct_w_szSymbolS

def F_w_toSymbolS (a : List ((List Int) × (Int) × Unit)) : List ((List Int) × (Int) × Unit) := a
def Q_w_toSymbolS (a : List ((List Int) × (Int) × Unit)) : Prop := tot (.sl (.pair .str (.pair (.int .i64) .unit))) a ≤ 1048576
def O_w_toSymbolS : Opt := ⟨fun i => false, fun i => (match decide (i = 3) with | true => [true, false, false, true, true, false, false, false, false, false, false, false, false, false, false, false, false, false, false, false, false, false, false] | false => []), fun i => .done, fun i => none, fun i => false, fun i => [], fun i => false, fun i => none⟩
def τ_w_toSymbolS : Env := Env.of [(2, (.int .i64)), (3, (.int .i64)), (4, .bool), (28, (.sl (.pair .str (.pair (.int .i64) .unit)))), (45, (.sl (.pair .str (.pair (.int .i64) .unit)))), (173, (.pair .str (.pair (.int .i64) .unit))), (175, (.pair .str (.pair (.int .i64) .unit)))] [] []

theorem ct_w_toSymbolS (a : List ((List Int) × (Int) × Unit)) : Ct pg 68 [.dat (.sl (.pair .str (.pair (.int .i64) .unit))) a] ⟨[Q_w_toSymbolS a], [⟨(.sl (.pair .str (.pair (.int .i64) .unit))), (.ow (.pr .sh (.pr .sh .sh))), F_w_toSymbolS a⟩], []⟩ := by
  refine ct_claim (O := O_w_toSymbolS) (τ := τ_w_toSymbolS) (EnvOk.of (by kernel_rfl) (by kernel_rfl)) (GOk.of (.cons ok_w_toSymbol .nil : AllOk pg [(130, con_w_toSymbol)])) mixed (Enters.of (by kernel_rfl)) (fn := Go.Proofs.Tryz.f68) (by kernel_rfl) rfl (by kernel_rfl) ?_
  intro hp hw
  have hq : Q_w_toSymbolS a := hp _ (List.mem_singleton.2 rfl)
  clear hp
  change claim Lg.std Alg.std τ_w_toSymbolS (Gam.of [(130, ⟨true, g1 (pD (.pair .str (.pair (.int .i64) .unit))) fun a => .one ⟨[Q_w_toSymbol a], [⟨(.pair .str (.pair (.int .i64) .unit)), (.pr .sh (.pr .sh .sh)), F_w_toSymbol a⟩], []⟩, [], false, 0⟩)]) O_w_toSymbolS Go.Proofs.Tryz.f68 [.dat (.sl (.pair .str (.pair (.int .i64) .unit))) a] ⟨[Q_w_toSymbolS a], [⟨(.sl (.pair .str (.pair (.int .i64) .unit))), (.ow (.pr .sh (.pr .sh .sh))), F_w_toSymbolS a⟩], []⟩
  generalize hg_F_w_toSymbol : F_w_toSymbol = g_F_w_toSymbol
  generalize hg_Q_w_toSymbol : Q_w_toSymbol = g_Q_w_toSymbol
  generalize hR0 : F_w_toSymbolS a = R0
  generalize Q_w_toSymbolS a = Q0
  generalize hL : Lg.std = L
  generalize hA : Alg.std = A
  cbv
  subst hL hA
  try dsimp only [Ty.den]
  simp only [Q_w_toSymbolS] at hq
  have hle := tot_len (.pair .str (.pair (.int .i64) .unit)) a
  refine ⟨trivial, by simp only [Alg.std]; omega, ?_⟩
  refine lp_v (V := (Int) × (Nat) × (List ((List Int) × (Int) × Unit))) (fun ((i, N, xs) : (Int) × (Nat) × (List ((List Int) × (Int) × Unit))) => ⟨[.dat (.sl (.pair .str (.pair (.int .i64) .unit))) a, .junk, .junk, .ref (.pair .str (.pair (.int .i64) .unit)) 0 0 [] 0 N, .dat (.int .i64) i, .junk, .junk, .junk, .junk, .junk, .junk, .junk, .junk, .junk, .junk, .junk, .junk, .junk, .junk, .junk, .junk, .junk, .junk], [some (.row 0 (.pair .str (.pair (.int .i64) .unit)) (.pr .sh (.pr .sh .sh)) xs)]⟩) (fun ((i, N, xs) : (Int) × (Nat) × (List ((List Int) × (Int) × Unit))) => N = a.length ∧ 0 ≤ i ∧ i ≤ a.length ∧ xs = a.take i.toNat ++ List.replicate (a.length - i.toNat) (([], 0, PUnit.unit) : (List Int) × (Int) × Unit)) (fun ((i, N, xs) : (Int) × (Nat) × (List ((List Int) × (Int) × Unit))) => a.length - i.toNat) (0, _, _) rfl ?_ ?_
  · simp [Alg.std]
  rintro ⟨i, N, xs⟩ hf I hI
  replace hf : N = a.length ∧ 0 ≤ i ∧ i ≤ a.length ∧ xs = a.take i.toNat ++ List.replicate (a.length - i.toNat) (([], 0, PUnit.unit) : (List Int) × (Int) × Unit) := hf
  generalize hL : Lg.std = L
  generalize hA : Alg.std = A
  cbv
  subst hL hA
  try dsimp only [Ty.den]
  subst hI
  simp only [Lg.std, Alg.std, List.drop_zero, List.take_length]
  obtain ⟨h1, h2, h3, h4⟩ := hf
  have hk := fun (h : i.toNat < a.length) => copy_step a (([], 0, PUnit.unit) : (List Int) × (Int) × Unit) i.toNat h
  have hl : xs.length = a.length := by rw [h4]; simp; omega
  have ha := fun (h : i.toNat < a.length) => tot_at (.pair .str (.pair (.int .i64) .unit)) a (([], 0, PUnit.unit) : (List Int) × (Int) × Unit) i.toNat h
  repeat' (first | intro _ | apply And.intro)
  all_goals (try refine ⟨(_, _, _), rfl, ?_, ?_⟩)
  all_goals subst hR0 hg_F_w_toSymbol hg_Q_w_toSymbol
  all_goals (try simp only [F_w_toSymbol, Q_w_toSymbol, F_w_toSymbolS] at *)
  all_goals grind
def con_w_toSymbolS : Con := ⟨true, g1 (pD (.sl (.pair .str (.pair (.int .i64) .unit)))) fun a => .one ⟨[Q_w_toSymbolS a], [⟨(.sl (.pair .str (.pair (.int .i64) .unit))), (.ow (.pr .sh (.pr .sh .sh))), F_w_toSymbolS a⟩], []⟩, [], false, 0⟩
theorem ok_w_toSymbolS : ConOk pg 68 con_w_toSymbolS := ConOk.g1 (Enters.of (by kernel_rfl)) ct_w_toSymbolS

def F_w_eqSymbolS (a : List ((List Int) × (Int) × Unit)) (b : List ((List Int) × (Int) × Unit)) : Bool := decide (a = b)
def Q_w_eqSymbolS (a : List ((List Int) × (Int) × Unit)) (b : List ((List Int) × (Int) × Unit)) : Prop := True
def O_w_eqSymbolS : Opt := ⟨fun i => (match decide (i = 6) with | true => true | false => false), fun i => (match decide (i = 4) with | true => [true, true, false, false, false, true, false, false, false, false, false, false, false, false, false, false, false, false, false, false, false, false, false, false, false, false, false] | false => []), fun i => .done, fun i => none, fun i => false, fun i => [], fun i => false, fun i => none⟩
def τ_w_eqSymbolS : Env := Env.of [(3, (.int .i64)), (4, .bool), (28, (.sl (.pair .str (.pair (.int .i64) .unit)))), (175, (.pair .str (.pair (.int .i64) .unit)))] [] []

theorem ct_w_eqSymbolS (a : List ((List Int) × (Int) × Unit)) (b : List ((List Int) × (Int) × Unit)) : Ct pg 75 [.dat (.sl (.pair .str (.pair (.int .i64) .unit))) a, .dat (.sl (.pair .str (.pair (.int .i64) .unit))) b] ⟨[Q_w_eqSymbolS a b], [⟨.bool, .sh, F_w_eqSymbolS a b⟩], []⟩ := by
  refine ct_claim (O := O_w_eqSymbolS) (τ := τ_w_eqSymbolS) (EnvOk.of (by kernel_rfl) (by kernel_rfl)) (GOk.of (.cons ok_w_eqSymbol .nil : AllOk pg [(139, con_w_eqSymbol)])) mixed (Enters.of (by kernel_rfl)) (fn := Go.Proofs.Tryz.f75) (by kernel_rfl) rfl (by kernel_rfl) ?_
  intro hp hw
  have hq : Q_w_eqSymbolS a b := hp _ (List.mem_singleton.2 rfl)
  clear hp
  change claim Lg.std Alg.std τ_w_eqSymbolS (Gam.of [(139, ⟨true, g2 (pD (.pair .str (.pair (.int .i64) .unit))) (pD (.pair .str (.pair (.int .i64) .unit))) fun a b => .one ⟨[Q_w_eqSymbol a b], [⟨.bool, .sh, F_w_eqSymbol a b⟩], []⟩, [], false, 0⟩)]) O_w_eqSymbolS Go.Proofs.Tryz.f75 [.dat (.sl (.pair .str (.pair (.int .i64) .unit))) a, .dat (.sl (.pair .str (.pair (.int .i64) .unit))) b] ⟨[Q_w_eqSymbolS a b], [⟨.bool, .sh, F_w_eqSymbolS a b⟩], []⟩
  generalize hg_F_w_eqSymbol : F_w_eqSymbol = g_F_w_eqSymbol
  generalize hg_Q_w_eqSymbol : Q_w_eqSymbol = g_Q_w_eqSymbol
  generalize hR0 : F_w_eqSymbolS a b = R0
  generalize Q_w_eqSymbolS a b = Q0
  generalize hL : Lg.std = L
  generalize hA : Alg.std = A
  cbv
  subst hL hA
  try dsimp only [Ty.den]
  refine ⟨fun hne => ?_, fun heq => ?_⟩
  · subst hR0 hg_F_w_eqSymbol hg_Q_w_eqSymbol
    simp only [Alg.std, F_w_eqSymbol, Q_w_eqSymbol, F_w_eqSymbolS] at *
    grind
  refine lp_v (V := (Int)) (fun (i : Int) => ⟨[.dat (.sl (.pair .str (.pair (.int .i64) .unit))) a, .dat (.sl (.pair .str (.pair (.int .i64) .unit))) b, .junk, .junk, .junk, .dat (.int .i64) i, .junk, .junk, .junk, .junk, .junk, .junk, .junk, .junk, .junk, .junk, .junk, .junk, .junk, .junk, .junk, .junk, .junk, .junk, .junk, .junk, .junk], []⟩) (fun (i : Int) => a.length = b.length ∧ 0 ≤ i ∧ i ≤ a.length ∧ decide (a = b) = decide (a.drop i.toNat = b.drop i.toNat)) (fun (i : Int) => a.length - i.toNat) (0) rfl ?_ ?_
  · simp [Alg.std] at heq ⊢; omega
  rintro i hf I hI
  replace hf : a.length = b.length ∧ 0 ≤ i ∧ i ≤ a.length ∧ decide (a = b) = decide (a.drop i.toNat = b.drop i.toNat) := hf
  generalize hL : Lg.std = L
  generalize hA : Alg.std = A
  cbv
  subst hL hA
  try dsimp only [Ty.den]
  subst hI
  simp only [Lg.std, Alg.std, List.drop_zero, List.take_length]
  obtain ⟨h1, h2, h3, h4⟩ := hf
  have hl := hw.1.1
  have hdc := fun (h : i.toNat < a.length) => drop_cons a (([], 0, PUnit.unit) : (List Int) × (Int) × Unit) i.toNat h
  have he := fun (h : a.length ≤ i.toNat) => drop_nil a i.toNat h
  have hdc2 := fun (h : i.toNat < b.length) => drop_cons b (([], 0, PUnit.unit) : (List Int) × (Int) × Unit) i.toNat h
  have he2 := fun (h : b.length ≤ i.toNat) => drop_nil b i.toNat h
  repeat' (first | intro _ | apply And.intro)
  all_goals (try refine ⟨_, rfl, ?_, ?_⟩)
  all_goals subst hR0 hg_F_w_eqSymbol hg_Q_w_eqSymbol
  all_goals (try simp only [F_w_eqSymbol, Q_w_eqSymbol, F_w_eqSymbolS] at *)
  all_goals grind
def con_w_eqSymbolS : Con := ⟨true, g2 (pD (.sl (.pair .str (.pair (.int .i64) .unit)))) (pD (.sl (.pair .str (.pair (.int .i64) .unit)))) fun a b => .one ⟨[Q_w_eqSymbolS a b], [⟨.bool, .sh, F_w_eqSymbolS a b⟩], []⟩, [], false, 0⟩
theorem ok_w_eqSymbolS : ConOk pg 75 con_w_eqSymbolS := ConOk.g2 (Enters.of (by kernel_rfl)) ct_w_eqSymbolS

def F_w_toSignature (a : (List ((List Int) × (Int) × Unit)) × Unit) : (List ((List Int) × (Int) × Unit)) × Unit := a
def Q_w_toSignature (a : (List ((List Int) × (Int) × Unit)) × Unit) : Prop := tot (.pair (.sl (.pair .str (.pair (.int .i64) .unit))) .unit) a ≤ 1048576
def O_w_toSignature : Opt := ⟨fun i => false, fun i => [], fun i => .done, fun i => none, fun i => false, fun i => [], fun i => false, fun i => none⟩
def τ_w_toSignature : Env := Env.of [(2, (.int .i64)), (28, (.sl (.pair .str (.pair (.int .i64) .unit)))), (30, (.pair (.sl (.pair .str (.pair (.int .i64) .unit))) .unit)), (45, (.sl (.pair .str (.pair (.int .i64) .unit)))), (47, (.pair (.sl (.pair .str (.pair (.int .i64) .unit))) .unit))] [] []

theorem ct_w_toSignature (a : (List ((List Int) × (Int) × Unit)) × Unit) : Ct pg 19 [.dat (.pair (.sl (.pair .str (.pair (.int .i64) .unit))) .unit) a] ⟨[Q_w_toSignature a], [⟨(.pair (.sl (.pair .str (.pair (.int .i64) .unit))) .unit), (.pr (.ow (.pr .sh (.pr .sh .sh))) .sh), F_w_toSignature a⟩], []⟩ := by
  refine ct_claim (O := O_w_toSignature) (τ := τ_w_toSignature) (EnvOk.of (by kernel_rfl) (by kernel_rfl)) (GOk.of (.cons ok_w_toSymbolS .nil : AllOk pg [(68, con_w_toSymbolS)])) mixed (Enters.of (by kernel_rfl)) (fn := Go.Proofs.Tryz.f19) (by kernel_rfl) rfl (by kernel_rfl) ?_
  intro hp hw
  have hq : Q_w_toSignature a := hp _ (List.mem_singleton.2 rfl)
  clear hp
  change claim Lg.std Alg.std τ_w_toSignature (Gam.of [(68, ⟨true, g1 (pD (.sl (.pair .str (.pair (.int .i64) .unit)))) fun a => .one ⟨[Q_w_toSymbolS a], [⟨(.sl (.pair .str (.pair (.int .i64) .unit))), (.ow (.pr .sh (.pr .sh .sh))), F_w_toSymbolS a⟩], []⟩, [], false, 0⟩)]) O_w_toSignature Go.Proofs.Tryz.f19 [.dat (.pair (.sl (.pair .str (.pair (.int .i64) .unit))) .unit) a] ⟨[Q_w_toSignature a], [⟨(.pair (.sl (.pair .str (.pair (.int .i64) .unit))) .unit), (.pr (.ow (.pr .sh (.pr .sh .sh))) .sh), F_w_toSignature a⟩], []⟩
  generalize hg_F_w_toSymbolS : F_w_toSymbolS = g_F_w_toSymbolS
  generalize hg_Q_w_toSymbolS : Q_w_toSymbolS = g_Q_w_toSymbolS
  generalize hR0 : F_w_toSignature a = R0
  generalize Q_w_toSignature a = Q0
  generalize hL : Lg.std = L
  generalize hA : Alg.std = A
  cbv
  subst hL hA
  try dsimp only [Ty.den]
  obtain ⟨f0, ⟨⟩⟩ := a
  simp only [Q_w_toSignature] at hq
  subst hR0 hg_F_w_toSymbolS hg_Q_w_toSymbolS
  simp only [Lg.std, Alg.std, List.drop_zero, List.take_length, F_w_toSymbolS, Q_w_toSymbolS, F_w_toSignature, szf, tot_p, tot_u, tot_i, tot_b, tot_s, cnt_p, cnt_u, cnt_i0, cnt_b0, cnt_s0, cnt_i1, cnt_b1, cnt_s1, cnt_l, mk_p, mk_u, mk_i0, mk_b0, mk_s0, mk_i1, mk_s1, mk_l, hd_p, hd_u, hd_i0, hd_b0, hd_s0, hd_i1, hd_b1, hd_s1, hd_l] at *
  all_goals grind [mk_len]
def con_w_toSignature : Con := ⟨true, g1 (pD (.pair (.sl (.pair .str (.pair (.int .i64) .unit))) .unit)) fun a => .one ⟨[Q_w_toSignature a], [⟨(.pair (.sl (.pair .str (.pair (.int .i64) .unit))) .unit), (.pr (.ow (.pr .sh (.pr .sh .sh))) .sh), F_w_toSignature a⟩], []⟩, [], false, 0⟩
theorem ok_w_toSignature : ConOk pg 19 con_w_toSignature := ConOk.g1 (Enters.of (by kernel_rfl)) ct_w_toSignature

def F_w_eqSignature (a : (List ((List Int) × (Int) × Unit)) × Unit) (b : (List ((List Int) × (Int) × Unit)) × Unit) : Bool := decide (a = b)
def Q_w_eqSignature (a : (List ((List Int) × (Int) × Unit)) × Unit) (b : (List ((List Int) × (Int) × Unit)) × Unit) : Prop := True
def O_w_eqSignature : Opt := ⟨fun i => false, fun i => [], fun i => .done, fun i => none, fun i => false, fun i => [], fun i => false, fun i => none⟩
def τ_w_eqSignature : Env := Env.of [(4, .bool), (28, (.sl (.pair .str (.pair (.int .i64) .unit)))), (30, (.pair (.sl (.pair .str (.pair (.int .i64) .unit))) .unit))] [] []

theorem ct_w_eqSignature (a : (List ((List Int) × (Int) × Unit)) × Unit) (b : (List ((List Int) × (Int) × Unit)) × Unit) : Ct pg 23 [.dat (.pair (.sl (.pair .str (.pair (.int .i64) .unit))) .unit) a, .dat (.pair (.sl (.pair .str (.pair (.int .i64) .unit))) .unit) b] ⟨[Q_w_eqSignature a b], [⟨.bool, .sh, F_w_eqSignature a b⟩], []⟩ := by
  refine ct_claim (O := O_w_eqSignature) (τ := τ_w_eqSignature) (EnvOk.of (by kernel_rfl) (by kernel_rfl)) (GOk.of (.cons ok_w_eqSymbolS .nil : AllOk pg [(75, con_w_eqSymbolS)])) mixed (Enters.of (by kernel_rfl)) (fn := Go.Proofs.Tryz.f23) (by kernel_rfl) rfl (by kernel_rfl) ?_
  intro hp hw
  have hq : Q_w_eqSignature a b := hp _ (List.mem_singleton.2 rfl)
  clear hp
  change claim Lg.std Alg.std τ_w_eqSignature (Gam.of [(75, ⟨true, g2 (pD (.sl (.pair .str (.pair (.int .i64) .unit)))) (pD (.sl (.pair .str (.pair (.int .i64) .unit)))) fun a b => .one ⟨[Q_w_eqSymbolS a b], [⟨.bool, .sh, F_w_eqSymbolS a b⟩], []⟩, [], false, 0⟩)]) O_w_eqSignature Go.Proofs.Tryz.f23 [.dat (.pair (.sl (.pair .str (.pair (.int .i64) .unit))) .unit) a, .dat (.pair (.sl (.pair .str (.pair (.int .i64) .unit))) .unit) b] ⟨[Q_w_eqSignature a b], [⟨.bool, .sh, F_w_eqSignature a b⟩], []⟩
  generalize hg_F_w_eqSymbolS : F_w_eqSymbolS = g_F_w_eqSymbolS
  generalize hg_Q_w_eqSymbolS : Q_w_eqSymbolS = g_Q_w_eqSymbolS
  generalize hR0 : F_w_eqSignature a b = R0
  generalize Q_w_eqSignature a b = Q0
  generalize hL : Lg.std = L
  generalize hA : Alg.std = A
  cbv
  subst hL hA
  try dsimp only [Ty.den]
  obtain ⟨f0, ⟨⟩⟩ := a
  obtain ⟨g0, ⟨⟩⟩ := b
  subst hR0 hg_F_w_eqSymbolS hg_Q_w_eqSymbolS
  simp only [Q_w_eqSignature] at hq
  simp only [Lg.std, Alg.std, List.drop_zero, List.take_length, F_w_eqSymbolS, Q_w_eqSymbolS, F_w_eqSignature]
  all_goals grind
def con_w_eqSignature : Con := ⟨true, g2 (pD (.pair (.sl (.pair .str (.pair (.int .i64) .unit))) .unit)) (pD (.pair (.sl (.pair .str (.pair (.int .i64) .unit))) .unit)) fun a b => .one ⟨[Q_w_eqSignature a b], [⟨.bool, .sh, F_w_eqSignature a b⟩], []⟩, [], false, 0⟩
theorem ok_w_eqSignature : ConOk pg 23 con_w_eqSignature := ConOk.g2 (Enters.of (by kernel_rfl)) ct_w_eqSignature

def F_w_szSignature (a : (List ((List Int) × (Int) × Unit)) × Unit) (left : Int) : Int := szf (tot (.pair (.sl (.pair .str (.pair (.int .i64) .unit))) .unit) a) left
def Q_w_szSignature (a : (List ((List Int) × (Int) × Unit)) × Unit) (left : Int) : Prop := 0 ≤ left ∧ left ≤ 1048576
def O_w_szSignature : Opt := ⟨fun i => false, fun i => [], fun i => .done, fun i => none, fun i => false, fun i => [], fun i => false, fun i => none⟩
def τ_w_szSignature : Env := Env.of [(3, (.int .i64)), (4, .bool), (45, (.sl (.pair .str (.pair (.int .i64) .unit)))), (47, (.pair (.sl (.pair .str (.pair (.int .i64) .unit))) .unit))] [] []

theorem ct_w_szSignature (a : (List ((List Int) × (Int) × Unit)) × Unit) (left : Int) : Ct pg 17 [.dat (.pair (.sl (.pair .str (.pair (.int .i64) .unit))) .unit) a, .dat (.int .i64) left] ⟨[Q_w_szSignature a left], [⟨(.int .i64), .sh, F_w_szSignature a left⟩], []⟩ := by
  refine ct_claim (O := O_w_szSignature) (τ := τ_w_szSignature) (EnvOk.of (by kernel_rfl) (by kernel_rfl)) (GOk.of (.cons ok_w_szSymbolS .nil : AllOk pg [(65, con_w_szSymbolS)])) mixed (Enters.of (by kernel_rfl)) (fn := Go.Proofs.Tryz.f17) (by kernel_rfl) rfl (by kernel_rfl) ?_
  intro hp hw
  have hq : Q_w_szSignature a left := hp _ (List.mem_singleton.2 rfl)
  clear hp
  change claim Lg.std Alg.std τ_w_szSignature (Gam.of [(65, ⟨true, g2 (pD (.sl (.pair .str (.pair (.int .i64) .unit)))) (pD (.int .i64)) fun a left => .one ⟨[Q_w_szSymbolS a left], [⟨(.int .i64), .sh, F_w_szSymbolS a left⟩], []⟩, [], false, 0⟩)]) O_w_szSignature Go.Proofs.Tryz.f17 [.dat (.pair (.sl (.pair .str (.pair (.int .i64) .unit))) .unit) a, .dat (.int .i64) left] ⟨[Q_w_szSignature a left], [⟨(.int .i64), .sh, F_w_szSignature a left⟩], []⟩
  generalize hg_F_w_szSymbolS : F_w_szSymbolS = g_F_w_szSymbolS
  generalize hg_Q_w_szSymbolS : Q_w_szSymbolS = g_Q_w_szSymbolS
  generalize hR0 : F_w_szSignature a left = R0
  generalize Q_w_szSignature a left = Q0
  generalize hL : Lg.std = L
  generalize hA : Alg.std = A
  cbv
  subst hL hA
  try dsimp only [Ty.den]
  obtain ⟨f0, ⟨⟩⟩ := a
  simp only [Q_w_szSignature] at hq
  subst hR0 hg_F_w_szSymbolS hg_Q_w_szSymbolS
  simp only [Lg.std, Alg.std, List.drop_zero, List.take_length, F_w_szSymbolS, Q_w_szSymbolS, F_w_szSignature, szf, tot_p, tot_u, tot_i, tot_b, tot_s, cnt_p, cnt_u, cnt_i0, cnt_b0, cnt_s0, cnt_i1, cnt_b1, cnt_s1, cnt_l, mk_p, mk_u, mk_i0, mk_b0, mk_s0, mk_i1, mk_s1, mk_l, hd_p, hd_u, hd_i0, hd_b0, hd_s0, hd_i1, hd_b1, hd_s1, hd_l] at *
  all_goals grind [mk_len]
def con_w_szSignature : Con := ⟨true, g2 (pD (.pair (.sl (.pair .str (.pair (.int .i64) .unit))) .unit)) (pD (.int .i64)) fun a left => .one ⟨[Q_w_szSignature a left], [⟨(.int .i64), .sh, F_w_szSignature a left⟩], []⟩, [], false, 0⟩
theorem ok_w_szSignature : ConOk pg 17 con_w_szSignature := ConOk.g2 (Enters.of (by kernel_rfl)) ct_w_szSignature
end Go.Vee
