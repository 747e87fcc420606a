/-
  Contracts of functions of the program: what each returns for all arguments that its precondition lets in.
-/
import Derived.Test.YtkbnbjdkdlooiaaGreatDoorVK12
set_option linter.unusedSimpArgs false
set_option linter.unusedVariables false
set_option maxRecDepth 100000
set_option maxHeartbeats 4000000
set_option synthInstance.maxHeartbeats 4000000
set_option synthInstance.maxSize 20000
namespace Go.Vee
open Go
def F_w_markActS (a : List ((Int) × ((Int) × (List (Int)) × Unit) × Unit)) (k : Int) : Int := k + cnt false (.sl (.pair (.int .i64) (.pair (.pair (.int .i64) (.pair (.sl (.int .u8)) .unit)) .unit))) a
def B_w_markActS_a (a : List ((Int) × ((Int) × (List (Int)) × Unit) × Unit)) (k : Int) : List ((Int) × ((Int) × (List (Int)) × Unit) × Unit) := mk false (.sl (.pair (.int .i64) (.pair (.pair (.int .i64) (.pair (.sl (.int .u8)) .unit)) .unit))) a k
def Q_w_markActS (a : List ((Int) × ((Int) × (List (Int)) × Unit) × Unit)) (k : Int) : Prop := 0 ≤ k ∧ k + cnt false (.sl (.pair (.int .i64) (.pair (.pair (.int .i64) (.pair (.sl (.int .u8)) .unit)) .unit))) a ≤ 4611686018427387904
def O_w_markActS : Opt := ⟨fun i => false, fun i => (match decide (i = 2) with | true => [true, true, false, false, false, true, false, false, false, false, false, false, false, false, false, false, false, false, false, false, false, false, false, false, false, false, false, false, false, false, false, false, false, false, false, false] | false => []), fun i => .done, fun i => none, fun i => false, fun i => [], fun i => false, fun i => none⟩
def τ_w_markActS : Env := Env.of [(2, (.int .i64)), (3, (.int .i64)), (4, .bool), (27, (.sl (.int .u8))), (69, (.sl (.pair (.int .i64) (.pair (.pair (.int .i64) (.pair (.sl (.int .u8)) .unit)) .unit)))), (156, (.pair (.int .i64) (.pair (.sl (.int .u8)) .unit))), (195, (.pair (.int .i64) (.pair (.pair (.int .i64) (.pair (.sl (.int .u8)) .unit)) .unit)))] [] []

theorem ct_w_markActS (a : List ((Int) × ((Int) × (List (Int)) × Unit) × Unit)) (k : Int) : Ct pg 92 [.mv (.sl (.pair (.int .i64) (.pair (.pair (.int .i64) (.pair (.sl (.int .u8)) .unit)) .unit))) (.ow (.pr .sh (.pr (.pr .sh (.pr (.ow .sh) .sh)) .sh))) a, .dat (.int .i64) k] ⟨[Q_w_markActS a k], [⟨(.int .i64), .sh, F_w_markActS a k⟩], [.mv (.sl (.pair (.int .i64) (.pair (.pair (.int .i64) (.pair (.sl (.int .u8)) .unit)) .unit))) (.ow (.pr .sh (.pr (.pr .sh (.pr (.ow .sh) .sh)) .sh))) (B_w_markActS_a a k)]⟩ := by
  refine ct_claim (O := O_w_markActS) (τ := τ_w_markActS) (EnvOk.of (by kernel_rfl) (by kernel_rfl)) (GOk.of (.cons ok_w_markByteS .nil : AllOk pg [(26, con_w_markByteS)])) mixed (Enters.of (by kernel_rfl)) (fn := Go.Proofs.Tryz.f92) (by kernel_rfl) rfl (by kernel_rfl) ?_
  intro hp hw
  have hq : Q_w_markActS a k := hp _ (List.mem_singleton.2 rfl)
  clear hp
  change claim Lg.std Alg.std τ_w_markActS (Gam.of [(26, ⟨true, g2 (pV (.sl (.int .u8)) (.ow .sh)) (pD (.int .i64)) fun a k => ⟨[Q_w_markByteS a k], [⟨(.int .i64), .sh, F_w_markByteS a k⟩], [.mv (.sl (.int .u8)) (.ow .sh) (B_w_markByteS_a a k)]⟩, [(.ow .sh)], false, 0⟩)]) O_w_markActS Go.Proofs.Tryz.f92 [.mv (.sl (.pair (.int .i64) (.pair (.pair (.int .i64) (.pair (.sl (.int .u8)) .unit)) .unit))) (.ow (.pr .sh (.pr (.pr .sh (.pr (.ow .sh) .sh)) .sh))) a, .dat (.int .i64) k] ⟨[Q_w_markActS a k], [⟨(.int .i64), .sh, F_w_markActS a k⟩], [.mv (.sl (.pair (.int .i64) (.pair (.pair (.int .i64) (.pair (.sl (.int .u8)) .unit)) .unit))) (.ow (.pr .sh (.pr (.pr .sh (.pr (.ow .sh) .sh)) .sh))) (B_w_markActS_a a k)]⟩
  generalize hg_F_w_markByteS : F_w_markByteS = g_F_w_markByteS
  generalize hg_B_w_markByteS_a : B_w_markByteS_a = g_B_w_markByteS_a
  generalize hg_Q_w_markByteS : Q_w_markByteS = g_Q_w_markByteS
  generalize hR0 : F_w_markActS a k = R0
  generalize hB_a : B_w_markActS_a a k = B_a
  generalize Q_w_markActS a k = Q0
  generalize hL : Lg.std = L
  generalize hA : Alg.std = A
  cbv
  subst hL hA
  try dsimp only [Ty.den]
  simp only [Q_w_markActS] at hq
  refine lp_v (V := (Int) × (Int) × (Nat) × (List ((Int) × ((Int) × (List (Int)) × Unit) × Unit))) (fun ((i, j, N, xs) : (Int) × (Int) × (Nat) × (List ((Int) × ((Int) × (List (Int)) × Unit) × Unit))) => ⟨[.ref (.pair (.int .i64) (.pair (.pair (.int .i64) (.pair (.sl (.int .u8)) .unit)) .unit)) 0 0 [] 0 N, .dat (.int .i64) j, .junk, .junk, .junk, .dat (.int .i64) i, .junk, .junk, .junk, .junk, .junk, .junk, .junk, .junk, .junk, .junk, .junk, .junk, .junk, .junk, .junk, .junk, .junk, .junk, .junk, .junk, .junk, .junk, .junk, .junk, .junk, .junk, .junk, .junk, .junk, .junk], [some (.row 0 (.pair (.int .i64) (.pair (.pair (.int .i64) (.pair (.sl (.int .u8)) .unit)) .unit)) (.pr .sh (.pr (.pr .sh (.pr (.ow .sh) .sh)) .sh)) xs), some (.gh [.ref (.pair (.int .i64) (.pair (.pair (.int .i64) (.pair (.sl (.int .u8)) .unit)) .unit)) 0 0 [] 0 N])]⟩) (fun ((i, j, N, xs) : (Int) × (Int) × (Nat) × (List ((Int) × ((Int) × (List (Int)) × Unit) × Unit))) => N = a.length ∧ 0 ≤ i ∧ i ≤ a.length ∧ j = k + cnt false (.sl (.pair (.int .i64) (.pair (.pair (.int .i64) (.pair (.sl (.int .u8)) .unit)) .unit))) (a.take i.toNat : List ((Int) × ((Int) × (List (Int)) × Unit) × Unit)) ∧ xs = (mk false (.sl (.pair (.int .i64) (.pair (.pair (.int .i64) (.pair (.sl (.int .u8)) .unit)) .unit))) a k : List ((Int) × ((Int) × (List (Int)) × Unit) × Unit)).take i.toNat ++ a.drop i.toNat) (fun ((i, j, N, xs) : (Int) × (Int) × (Nat) × (List ((Int) × ((Int) × (List (Int)) × Unit) × Unit))) => a.length - i.toNat) (0, k, _, _) rfl ?_ ?_
  · simp [Alg.std, cnt, cntL]
  rintro ⟨i, j, N, xs⟩ hf I hI
  replace hf : N = a.length ∧ 0 ≤ i ∧ i ≤ a.length ∧ j = k + cnt false (.sl (.pair (.int .i64) (.pair (.pair (.int .i64) (.pair (.sl (.int .u8)) .unit)) .unit))) (a.take i.toNat : List ((Int) × ((Int) × (List (Int)) × Unit) × Unit)) ∧ xs = (mk false (.sl (.pair (.int .i64) (.pair (.pair (.int .i64) (.pair (.sl (.int .u8)) .unit)) .unit))) a k : List ((Int) × ((Int) × (List (Int)) × Unit) × Unit)).take i.toNat ++ a.drop i.toNat := hf
  generalize hL : Lg.std = L
  generalize hA : Alg.std = A
  cbv
  subst hL hA
  try dsimp only [Ty.den]
  subst hI
  simp only [Lg.std, Alg.std, List.drop_zero, List.take_length]
  obtain ⟨h1, h2, h3, h4, h5⟩ := hf
  have hl := hw.1.1
  have hk := fun (h : i.toNat < a.length) => mk_stepT (.pair (.int .i64) (.pair (.pair (.int .i64) (.pair (.sl (.int .u8)) .unit)) .unit)) a ((0, (0, [], PUnit.unit), PUnit.unit) : (Int) × ((Int) × (List (Int)) × Unit) × Unit) k i.toNat h
  have hm := fun (h : i.toNat < a.length) => mk_mid (.pair (.int .i64) (.pair (.pair (.int .i64) (.pair (.sl (.int .u8)) .unit)) .unit)) a ((0, (0, [], PUnit.unit), PUnit.unit) : (Int) × ((Int) × (List (Int)) × Unit) × Unit) k i.toNat h
  have hml := fun (h : i.toNat ≤ a.length) => mk_midlen (.pair (.int .i64) (.pair (.pair (.int .i64) (.pair (.sl (.int .u8)) .unit)) .unit)) a k i.toNat h
  have hct := fun (h : i.toNat < a.length) => cnt_take (.pair (.int .i64) (.pair (.pair (.int .i64) (.pair (.sl (.int .u8)) .unit)) .unit)) a ((0, (0, [], PUnit.unit), PUnit.unit) : (Int) × ((Int) × (List (Int)) × Unit) × Unit) i.toNat h
  have hcl := cnt_le (.pair (.int .i64) (.pair (.pair (.int .i64) (.pair (.sl (.int .u8)) .unit)) .unit)) a (i.toNat + 1)
  have hcl0 := cnt_le (.pair (.int .i64) (.pair (.pair (.int .i64) (.pair (.sl (.int .u8)) .unit)) .unit)) a i.toNat
  have hta := fun (h : a.length ≤ i.toNat) => List.take_of_length_le h
  have htm := fun (h : a.length ≤ i.toNat) => List.take_of_length_le (l := (mk false (.sl (.pair (.int .i64) (.pair (.pair (.int .i64) (.pair (.sl (.int .u8)) .unit)) .unit))) a k : List ((Int) × ((Int) × (List (Int)) × Unit) × Unit))) (Nat.le_trans (Nat.le_of_eq (mk_len false (.pair (.int .i64) (.pair (.pair (.int .i64) (.pair (.sl (.int .u8)) .unit)) .unit)) a k)) h)
  have hdc := fun (h : i.toNat < a.length) => drop_cons a ((0, (0, [], PUnit.unit), PUnit.unit) : (Int) × ((Int) × (List (Int)) × Unit) × Unit) i.toNat h
  have he := fun (h : a.length ≤ i.toNat) => drop_nil a i.toNat h
  repeat' (first | intro _ | apply And.intro)
  all_goals (try refine ⟨(_, _, _, _), rfl, ?_, ?_⟩)
  all_goals subst hR0 hB_a hg_F_w_markByteS hg_B_w_markByteS_a hg_Q_w_markByteS
  all_goals (try simp only [F_w_markByteS, B_w_markByteS_a, Q_w_markByteS, F_w_markActS, B_w_markActS_a] at *)
  all_goals (try simp only [szf, tot_p, tot_u, tot_i, tot_b, tot_s, cnt_p, cnt_u, cnt_i0, cnt_b0, cnt_s0, cnt_i1, cnt_b1, cnt_s1, cnt_l, mk_p, mk_u, mk_i0, mk_b0, mk_s0, mk_i1, mk_s1, mk_l, hd_p, hd_u, hd_i0, hd_b0, hd_s0, hd_i1, hd_b1, hd_s1, hd_l] at *)
  all_goals grind [getD_set_self, List.set_set, i64_wrap]
def con_w_markActS : Con := ⟨true, g2 (pV (.sl (.pair (.int .i64) (.pair (.pair (.int .i64) (.pair (.sl (.int .u8)) .unit)) .unit))) (.ow (.pr .sh (.pr (.pr .sh (.pr (.ow .sh) .sh)) .sh)))) (pD (.int .i64)) fun a k => ⟨[Q_w_markActS a k], [⟨(.int .i64), .sh, F_w_markActS a k⟩], [.mv (.sl (.pair (.int .i64) (.pair (.pair (.int .i64) (.pair (.sl (.int .u8)) .unit)) .unit))) (.ow (.pr .sh (.pr (.pr .sh (.pr (.ow .sh) .sh)) .sh))) (B_w_markActS_a a k)]⟩, [(.ow (.pr .sh (.pr (.pr .sh (.pr (.ow .sh) .sh)) .sh)))], false, 0⟩
theorem ok_w_markActS : ConOk pg 92 con_w_markActS := ConOk.g2 (Enters.of (by kernel_rfl)) ct_w_markActS

def F_w_heldActS (a : List ((Int) × ((Int) × (List (Int)) × Unit) × Unit)) (k : Int) : Int := hd false (.sl (.pair (.int .i64) (.pair (.pair (.int .i64) (.pair (.sl (.int .u8)) .unit)) .unit))) a k
def Q_w_heldActS (a : List ((Int) × ((Int) × (List (Int)) × Unit) × Unit)) (k : Int) : Prop := 0 ≤ k ∧ k + cnt false (.sl (.pair (.int .i64) (.pair (.pair (.int .i64) (.pair (.sl (.int .u8)) .unit)) .unit))) a ≤ 4611686018427387904
def O_w_heldActS : Opt := ⟨fun i => false, fun i => (match decide (i = 2) with | true => [true, true, false, false, false, true, false, false, false, false, false, false, false, false, false, false, false, false, false, false, false, false, false, false, false, false, false, false, false, false, false, false, false, false, false, false, false, false, false, false, false, false] | false => []), fun i => .done, fun i => none, fun i => false, fun i => [], fun i => false, fun i => none⟩
def τ_w_heldActS : Env := Env.of [(2, (.int .i64)), (3, (.int .i64)), (4, .bool), (27, (.sl (.int .u8))), (69, (.sl (.pair (.int .i64) (.pair (.pair (.int .i64) (.pair (.sl (.int .u8)) .unit)) .unit)))), (156, (.pair (.int .i64) (.pair (.sl (.int .u8)) .unit))), (195, (.pair (.int .i64) (.pair (.pair (.int .i64) (.pair (.sl (.int .u8)) .unit)) .unit)))] [] []

theorem ct_w_heldActS (a : List ((Int) × ((Int) × (List (Int)) × Unit) × Unit)) (k : Int) : Ct pg 93 [.dat (.sl (.pair (.int .i64) (.pair (.pair (.int .i64) (.pair (.sl (.int .u8)) .unit)) .unit))) a, .dat (.int .i64) k] ⟨[Q_w_heldActS a k], [⟨(.int .i64), .sh, F_w_heldActS a k⟩], []⟩ := by
  refine ct_claim (O := O_w_heldActS) (τ := τ_w_heldActS) (EnvOk.of (by kernel_rfl) (by kernel_rfl)) (GOk.of (.cons ok_w_heldByteS .nil : AllOk pg [(124, con_w_heldByteS)])) mixed (Enters.of (by kernel_rfl)) (fn := Go.Proofs.Tryz.f93) (by kernel_rfl) rfl (by kernel_rfl) ?_
  intro hp hw
  have hq : Q_w_heldActS a k := hp _ (List.mem_singleton.2 rfl)
  clear hp
  change claim Lg.std Alg.std τ_w_heldActS (Gam.of [(124, ⟨true, g2 (pD (.sl (.int .u8))) (pD (.int .i64)) fun a k => ⟨[Q_w_heldByteS a k], [⟨(.int .i64), .sh, F_w_heldByteS a k⟩], []⟩, [], false, 0⟩)]) O_w_heldActS Go.Proofs.Tryz.f93 [.dat (.sl (.pair (.int .i64) (.pair (.pair (.int .i64) (.pair (.sl (.int .u8)) .unit)) .unit))) a, .dat (.int .i64) k] ⟨[Q_w_heldActS a k], [⟨(.int .i64), .sh, F_w_heldActS a k⟩], []⟩
  generalize hg_F_w_heldByteS : F_w_heldByteS = g_F_w_heldByteS
  generalize hg_Q_w_heldByteS : Q_w_heldByteS = g_Q_w_heldByteS
  generalize hR0 : F_w_heldActS a k = R0
  generalize Q_w_heldActS a k = Q0
  generalize hL : Lg.std = L
  generalize hA : Alg.std = A
  cbv
  subst hL hA
  try dsimp only [Ty.den]
  simp only [Q_w_heldActS] at hq
  refine lp_v (V := (Int) × (Int)) (fun ((i, j) : (Int) × (Int)) => ⟨[.dat (.sl (.pair (.int .i64) (.pair (.pair (.int .i64) (.pair (.sl (.int .u8)) .unit)) .unit))) a, .dat (.int .i64) j, .junk, .junk, .junk, .dat (.int .i64) i, .junk, .junk, .junk, .junk, .junk, .junk, .junk, .junk, .junk, .junk, .junk, .junk, .junk, .junk, .junk, .junk, .junk, .junk, .junk, .junk, .junk, .junk, .junk, .junk, .junk, .junk, .junk, .junk, .junk, .junk, .junk, .junk, .junk, .junk, .junk, .junk], []⟩) (fun ((i, j) : (Int) × (Int)) => 0 ≤ i ∧ i ≤ a.length ∧ 0 ≤ j ∧ j + cnt false (.sl (.pair (.int .i64) (.pair (.pair (.int .i64) (.pair (.sl (.int .u8)) .unit)) .unit))) (a.drop i.toNat : List ((Int) × ((Int) × (List (Int)) × Unit) × Unit)) ≤ 4611686018427387904 ∧ hd false (.sl (.pair (.int .i64) (.pair (.pair (.int .i64) (.pair (.sl (.int .u8)) .unit)) .unit))) a k = hd false (.sl (.pair (.int .i64) (.pair (.pair (.int .i64) (.pair (.sl (.int .u8)) .unit)) .unit))) (a.drop i.toNat : List ((Int) × ((Int) × (List (Int)) × Unit) × Unit)) j) (fun ((i, j) : (Int) × (Int)) => a.length - i.toNat) (0, k) rfl ?_ ?_
  · simp; omega
  rintro ⟨i, j⟩ hf I hI
  replace hf : 0 ≤ i ∧ i ≤ a.length ∧ 0 ≤ j ∧ j + cnt false (.sl (.pair (.int .i64) (.pair (.pair (.int .i64) (.pair (.sl (.int .u8)) .unit)) .unit))) (a.drop i.toNat : List ((Int) × ((Int) × (List (Int)) × Unit) × Unit)) ≤ 4611686018427387904 ∧ hd false (.sl (.pair (.int .i64) (.pair (.pair (.int .i64) (.pair (.sl (.int .u8)) .unit)) .unit))) a k = hd false (.sl (.pair (.int .i64) (.pair (.pair (.int .i64) (.pair (.sl (.int .u8)) .unit)) .unit))) (a.drop i.toNat : List ((Int) × ((Int) × (List (Int)) × Unit) × Unit)) j := hf
  generalize hL : Lg.std = L
  generalize hA : Alg.std = A
  cbv
  subst hL hA
  try dsimp only [Ty.den]
  subst hI
  simp only [Lg.std, Alg.std, List.drop_zero, List.take_length]
  obtain ⟨h1, h2, h3, h4, h5⟩ := hf
  have hl := hw.1.1
  have hs := fun (h : i.toNat < a.length) => hd_drop (.pair (.int .i64) (.pair (.pair (.int .i64) (.pair (.sl (.int .u8)) .unit)) .unit)) a ((0, (0, [], PUnit.unit), PUnit.unit) : (Int) × ((Int) × (List (Int)) × Unit) × Unit) i.toNat j h
  have hcs := fun (h : i.toNat < a.length) => cnt_split (.pair (.int .i64) (.pair (.pair (.int .i64) (.pair (.sl (.int .u8)) .unit)) .unit)) a ((0, (0, [], PUnit.unit), PUnit.unit) : (Int) × ((Int) × (List (Int)) × Unit) × Unit) i.toNat h
  have ho := hd_or true (.pair (.int .i64) (.pair (.pair (.int .i64) (.pair (.sl (.int .u8)) .unit)) .unit)) (a.getD i.toNat ((0, (0, [], PUnit.unit), PUnit.unit) : (Int) × ((Int) × (List (Int)) × Unit) × Unit)) j (by omega)
  have hn := hd_nil (.pair (.int .i64) (.pair (.pair (.int .i64) (.pair (.sl (.int .u8)) .unit)) .unit)) j
  have hdc := fun (h : i.toNat < a.length) => drop_cons a ((0, (0, [], PUnit.unit), PUnit.unit) : (Int) × ((Int) × (List (Int)) × Unit) × Unit) i.toNat h
  have he := fun (h : a.length ≤ i.toNat) => drop_nil a i.toNat h
  repeat' (first | intro _ | apply And.intro)
  all_goals (try refine ⟨(_, _), rfl, ?_, ?_⟩)
  all_goals subst hR0 hg_F_w_heldByteS hg_Q_w_heldByteS
  all_goals (try simp only [F_w_heldByteS, Q_w_heldByteS, F_w_heldActS] at *)
  all_goals (try simp only [szf, tot_p, tot_u, tot_i, tot_b, tot_s, cnt_p, cnt_u, cnt_i0, cnt_b0, cnt_s0, cnt_i1, cnt_b1, cnt_s1, cnt_l, mk_p, mk_u, mk_i0, mk_b0, mk_s0, mk_i1, mk_s1, mk_l, hd_p, hd_u, hd_i0, hd_b0, hd_s0, hd_i1, hd_b1, hd_s1, hd_l] at *)
  all_goals grind [i64_wrap]
def con_w_heldActS : Con := ⟨true, g2 (pD (.sl (.pair (.int .i64) (.pair (.pair (.int .i64) (.pair (.sl (.int .u8)) .unit)) .unit)))) (pD (.int .i64)) fun a k => ⟨[Q_w_heldActS a k], [⟨(.int .i64), .sh, F_w_heldActS a k⟩], []⟩, [], false, 0⟩
theorem ok_w_heldActS : ConOk pg 93 con_w_heldActS := ConOk.g2 (Enters.of (by kernel_rfl)) ct_w_heldActS
end Go.Vee
