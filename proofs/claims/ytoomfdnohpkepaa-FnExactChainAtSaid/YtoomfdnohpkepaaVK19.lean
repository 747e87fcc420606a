/-
  Contracts of functions of the program: what each returns for all arguments that its precondition lets in.
-/
import Derived.Test.YtoomfdnohpkepaaVK18
set_option linter.unusedSimpArgs false
set_option linter.unusedVariables false
set_option maxRecDepth 100000
set_option maxHeartbeats 4000000
set_option synthInstance.maxHeartbeats 4000000
set_option synthInstance.maxSize 20000
namespace Go.Vee
open Go
abbrev ChainT := Int × List Int × List Int × Unit
def chainS (d : DiskT) (id : Int) (data pages : List Int) : ChainT :=
  if ¬ (2 ≤ id ∧ id ≤ (d.1.length : Int) - 1) then (3, [], [], ())
  else if pages.contains id = true then (8, [], [], ())
  else if (pageAt d id).1 ≠ 0 then ((pageAt d id).1, [], [], ())
  else if hb : (pageAt d id).2.1 ≠ 3 ∨ (pageAt d id).2.2.2.1.length < 2 then (1, [], [], ())
  else if hl : (data ++ (pageAt d id).2.2.2.1.drop 1).length > 400 then (2, [], [], ())
  else if (pageAt d id).2.2.2.1.getD 0 0 = 0 then (0, data ++ (pageAt d id).2.2.2.1.drop 1, pages ++ [id], ())
  else chainS d ((pageAt d id).2.2.2.1.getD 0 0) (data ++ (pageAt d id).2.2.2.1.drop 1) (pages ++ [id])
termination_by 401 - data.length
decreasing_by
  simp only [List.length_append, List.length_drop] at hl ⊢
  omega
def chainAt (d : DiskT) (head : Int) : ChainT := if diskFault d ≠ 0 then (diskFault d, [], [], ()) else chainS d head [] []
theorem chainS_step (d : DiskT) (id : Int) (data pages : List Int) : chainS d id data pages =
  if ¬ (2 ≤ id ∧ id ≤ (d.1.length : Int) - 1) then (3, [], [], ())
  else if pages.contains id = true then (8, [], [], ())
  else if (pageAt d id).1 ≠ 0 then ((pageAt d id).1, [], [], ())
  else if (pageAt d id).2.1 ≠ 3 ∨ (pageAt d id).2.2.2.1.length < 2 then (1, [], [], ())
  else if (data ++ (pageAt d id).2.2.2.1.drop 1).length > 400 then (2, [], [], ())
  else if (pageAt d id).2.2.2.1.getD 0 0 = 0 then (0, data ++ (pageAt d id).2.2.2.1.drop 1, pages ++ [id], ())
  else chainS d ((pageAt d id).2.2.2.1.getD 0 0) (data ++ (pageAt d id).2.2.2.1.drop 1) (pages ++ [id]) := by
  conv => lhs; rw [chainS]
  simp only [dite_eq_ite]
theorem chainS_len (d : DiskT) : ∀ (n : Nat) (id : Int) (data pages : List Int), 401 - data.length ≤ n → data.length ≤ 400 → pages.length ≤ data.length → (chainS d id data pages).2.1.length ≤ 400 ∧ (chainS d id data pages).2.2.1.length ≤ 400
  | 0, id, data, pages, h1, h2, h3 => by omega
  | n + 1, id, data, pages, h1, h2, h3 => by
    rw [chainS_step]
    split
    · simp
    split
    · simp
    split
    · simp
    split
    · simp
    split
    · simp
    rename_i g1 g2 g3 g4 g5
    simp only [List.length_append, List.length_drop] at g5
    split
    · simp only [List.length_append, List.length_drop, List.length_singleton]; omega
    · exact chainS_len d n _ _ _ (by simp only [List.length_append, List.length_drop]; omega) (by simp only [List.length_append, List.length_drop]; omega) (by simp only [List.length_append, List.length_drop, List.length_singleton]; omega)
theorem chainAt_len (d : DiskT) (head : Int) : (chainAt d head).2.1.length ≤ 400 ∧ (chainAt d head).2.2.1.length ≤ 400 := by
  unfold chainAt
  split
  · simp
  · exact chainS_len d 401 head [] [] (by simp) (by simp) (by simp)
theorem pageAt_in (d : DiskT) (id : Int) (h : 2 ≤ id ∧ id ≤ (d.1.length : Int) - 1) : l15Read (readD d id) id = pageAt d id := by
  unfold pageAt; rw [if_neg (Classical.not_not.2 h)]

def F_w_eqChainResult (a : (Int) × (List (Int)) × (List (Int)) × Unit) (b : (Int) × (List (Int)) × (List (Int)) × Unit) : Bool := decide (a = b)
def Q_w_eqChainResult (a : (Int) × (List (Int)) × (List (Int)) × Unit) (b : (Int) × (List (Int)) × (List (Int)) × Unit) : Prop := True
def O_w_eqChainResult : Opt := ⟨fun i => false, fun i => [], fun i => .done, fun i => none, fun i => false, fun i => []⟩
def τ_w_eqChainResult : Env := Env.of [(2, (.int .i64)), (4, .bool), (26, (.sl (.int .u8))), (43, (.sl (.int .i64))), (82, (.pair (.int .i64) (.pair (.sl (.int .u8)) (.pair (.sl (.int .i64)) .unit))))] [] []

theorem ct_w_eqChainResult (a : (Int) × (List (Int)) × (List (Int)) × Unit) (b : (Int) × (List (Int)) × (List (Int)) × Unit) : Ct pg 58 [.dat (.pair (.int .i64) (.pair (.sl (.int .u8)) (.pair (.sl (.int .i64)) .unit))) a, .dat (.pair (.int .i64) (.pair (.sl (.int .u8)) (.pair (.sl (.int .i64)) .unit))) b] ⟨[Q_w_eqChainResult a b], [⟨.bool, .sh, F_w_eqChainResult a b⟩], []⟩ := by
  refine ct_claim (O := O_w_eqChainResult) (τ := τ_w_eqChainResult) (EnvOk.of (by kernel_rfl) (by kernel_rfl)) (GOk.of (.cons ok_w_eqByteS (.cons ok_w_eqInt64S .nil) : AllOk pg [(21, con_w_eqByteS), (29, con_w_eqInt64S)])) mixed (Enters.of (by kernel_rfl)) (fn := Go.Proofs.Try.f58) (by kernel_rfl) rfl (by kernel_rfl) ?_
  intro hp hw
  have hq : Q_w_eqChainResult a b := hp _ (List.mem_singleton.2 rfl)
  clear hp
  change claim Lg.std Alg.std τ_w_eqChainResult (Gam.of [(21, ⟨true, g2 (pD (.sl (.int .u8))) (pD (.sl (.int .u8))) fun a b => ⟨[Q_w_eqByteS a b], [⟨.bool, .sh, F_w_eqByteS a b⟩], []⟩, [], false⟩), (29, ⟨true, g2 (pD (.sl (.int .i64))) (pD (.sl (.int .i64))) fun a b => ⟨[Q_w_eqInt64S a b], [⟨.bool, .sh, F_w_eqInt64S a b⟩], []⟩, [], false⟩)]) O_w_eqChainResult Go.Proofs.Try.f58 [.dat (.pair (.int .i64) (.pair (.sl (.int .u8)) (.pair (.sl (.int .i64)) .unit))) a, .dat (.pair (.int .i64) (.pair (.sl (.int .u8)) (.pair (.sl (.int .i64)) .unit))) b] ⟨[Q_w_eqChainResult a b], [⟨.bool, .sh, F_w_eqChainResult a b⟩], []⟩
  generalize hg_F_w_eqByteS : F_w_eqByteS = g_F_w_eqByteS
  generalize hg_Q_w_eqByteS : Q_w_eqByteS = g_Q_w_eqByteS
  generalize hg_F_w_eqInt64S : F_w_eqInt64S = g_F_w_eqInt64S
  generalize hg_Q_w_eqInt64S : Q_w_eqInt64S = g_Q_w_eqInt64S
  generalize hR0 : F_w_eqChainResult a b = R0
  generalize Q_w_eqChainResult a b = Q0
  generalize hL : Lg.std = L
  generalize hA : Alg.std = A
  cbv
  subst hL hA
  try dsimp only [Ty.den]
  obtain ⟨f0, f1, f2, ⟨⟩⟩ := a
  obtain ⟨g0, g1, g2, ⟨⟩⟩ := b
  subst hR0 hg_F_w_eqByteS hg_Q_w_eqByteS hg_F_w_eqInt64S hg_Q_w_eqInt64S
  simp only [Q_w_eqChainResult] at hq
  simp only [Lg.std, Alg.std, List.drop_zero, List.take_length, F_w_eqByteS, F_w_eqInt64S, Q_w_eqByteS, Q_w_eqInt64S, F_w_eqChainResult]
  all_goals grind
def con_w_eqChainResult : Con := ⟨true, g2 (pD (.pair (.int .i64) (.pair (.sl (.int .u8)) (.pair (.sl (.int .i64)) .unit)))) (pD (.pair (.int .i64) (.pair (.sl (.int .u8)) (.pair (.sl (.int .i64)) .unit)))) fun a b => ⟨[Q_w_eqChainResult a b], [⟨.bool, .sh, F_w_eqChainResult a b⟩], []⟩, [], false⟩
theorem ok_w_eqChainResult : ConOk pg 58 con_w_eqChainResult := ConOk.g2 (Enters.of (by kernel_rfl)) ct_w_eqChainResult

def F_w_markChainResult (a : (Int) × (List (Int)) × (List (Int)) × Unit) (k : Int) : Int := k + cnt false (.pair (.int .i64) (.pair (.sl (.int .u8)) (.pair (.sl (.int .i64)) .unit))) a
def B_w_markChainResult_a (a : (Int) × (List (Int)) × (List (Int)) × Unit) (k : Int) : (Int) × (List (Int)) × (List (Int)) × Unit := mk false (.pair (.int .i64) (.pair (.sl (.int .u8)) (.pair (.sl (.int .i64)) .unit))) a k
def Q_w_markChainResult (a : (Int) × (List (Int)) × (List (Int)) × Unit) (k : Int) : Prop := 0 ≤ k ∧ k + cnt false (.pair (.int .i64) (.pair (.sl (.int .u8)) (.pair (.sl (.int .i64)) .unit))) a ≤ 4611686018427387904
def O_w_markChainResult : Opt := ⟨fun i => false, fun i => [], fun i => .done, fun i => none, fun i => false, fun i => []⟩
def τ_w_markChainResult : Env := Env.of [(2, (.int .i64)), (3, (.int .i64)), (4, .bool), (26, (.sl (.int .u8))), (43, (.sl (.int .i64))), (82, (.pair (.int .i64) (.pair (.sl (.int .u8)) (.pair (.sl (.int .i64)) .unit))))] [] []

theorem ct_w_markChainResult (a : (Int) × (List (Int)) × (List (Int)) × Unit) (k : Int) : Ct pg 59 [.mv (.pair (.int .i64) (.pair (.sl (.int .u8)) (.pair (.sl (.int .i64)) .unit))) (.pr .sh (.pr (.ow .sh) (.pr (.ow .sh) .sh))) a, .dat (.int .i64) k] ⟨[Q_w_markChainResult a k], [⟨(.int .i64), .sh, F_w_markChainResult a k⟩], [.mv (.pair (.int .i64) (.pair (.sl (.int .u8)) (.pair (.sl (.int .i64)) .unit))) (.pr .sh (.pr (.ow .sh) (.pr (.ow .sh) .sh))) (B_w_markChainResult_a a k)]⟩ := by
  refine ct_claim (O := O_w_markChainResult) (τ := τ_w_markChainResult) (EnvOk.of (by kernel_rfl) (by kernel_rfl)) (GOk.of (.cons ok_w_markByteS (.cons ok_w_markInt64S .nil) : AllOk pg [(23, con_w_markByteS), (30, con_w_markInt64S)])) mixed (Enters.of (by kernel_rfl)) (fn := Go.Proofs.Try.f59) (by kernel_rfl) rfl (by kernel_rfl) ?_
  intro hp hw
  have hq : Q_w_markChainResult a k := hp _ (List.mem_singleton.2 rfl)
  clear hp
  change claim Lg.std Alg.std τ_w_markChainResult (Gam.of [(23, ⟨true, g2 (pV (.sl (.int .u8)) (.ow .sh)) (pD (.int .i64)) fun a k => ⟨[Q_w_markByteS a k], [⟨(.int .i64), .sh, F_w_markByteS a k⟩], [.mv (.sl (.int .u8)) (.ow .sh) (B_w_markByteS_a a k)]⟩, [(.ow .sh)], false⟩), (30, ⟨true, g2 (pV (.sl (.int .i64)) (.ow .sh)) (pD (.int .i64)) fun a k => ⟨[Q_w_markInt64S a k], [⟨(.int .i64), .sh, F_w_markInt64S a k⟩], [.mv (.sl (.int .i64)) (.ow .sh) (B_w_markInt64S_a a k)]⟩, [(.ow .sh)], false⟩)]) O_w_markChainResult Go.Proofs.Try.f59 [.mv (.pair (.int .i64) (.pair (.sl (.int .u8)) (.pair (.sl (.int .i64)) .unit))) (.pr .sh (.pr (.ow .sh) (.pr (.ow .sh) .sh))) a, .dat (.int .i64) k] ⟨[Q_w_markChainResult a k], [⟨(.int .i64), .sh, F_w_markChainResult a k⟩], [.mv (.pair (.int .i64) (.pair (.sl (.int .u8)) (.pair (.sl (.int .i64)) .unit))) (.pr .sh (.pr (.ow .sh) (.pr (.ow .sh) .sh))) (B_w_markChainResult_a a k)]⟩
  generalize hg_F_w_markByteS : F_w_markByteS = g_F_w_markByteS
  generalize hg_B_w_markByteS_a : B_w_markByteS_a = g_B_w_markByteS_a
  generalize hg_Q_w_markByteS : Q_w_markByteS = g_Q_w_markByteS
  generalize hg_F_w_markInt64S : F_w_markInt64S = g_F_w_markInt64S
  generalize hg_B_w_markInt64S_a : B_w_markInt64S_a = g_B_w_markInt64S_a
  generalize hg_Q_w_markInt64S : Q_w_markInt64S = g_Q_w_markInt64S
  generalize hR0 : F_w_markChainResult a k = R0
  generalize hB_a : B_w_markChainResult_a a k = B_a
  generalize Q_w_markChainResult a k = Q0
  generalize hL : Lg.std = L
  generalize hA : Alg.std = A
  cbv
  subst hL hA
  try dsimp only [Ty.den]
  obtain ⟨f0, f1, f2, ⟨⟩⟩ := a
  simp only [Q_w_markChainResult] at hq
  subst hR0 hB_a hg_F_w_markByteS hg_B_w_markByteS_a hg_Q_w_markByteS hg_F_w_markInt64S hg_B_w_markInt64S_a hg_Q_w_markInt64S
  simp only [Lg.std, Alg.std, List.drop_zero, List.take_length, F_w_markByteS, F_w_markInt64S, B_w_markByteS_a, B_w_markInt64S_a, Q_w_markByteS, Q_w_markInt64S, F_w_markChainResult, B_w_markChainResult_a, szf, tot_p, tot_u, tot_i, tot_b, tot_s, cnt_p, cnt_u, cnt_i0, cnt_b0, cnt_s0, cnt_i1, cnt_b1, cnt_s1, cnt_l, mk_p, mk_u, mk_i0, mk_b0, mk_s0, mk_i1, mk_s1, mk_l, hd_p, hd_u, hd_i0, hd_b0, hd_s0, hd_i1, hd_b1, hd_s1, hd_l] at *
  all_goals grind [mk_len]
def con_w_markChainResult : Con := ⟨true, g2 (pV (.pair (.int .i64) (.pair (.sl (.int .u8)) (.pair (.sl (.int .i64)) .unit))) (.pr .sh (.pr (.ow .sh) (.pr (.ow .sh) .sh)))) (pD (.int .i64)) fun a k => ⟨[Q_w_markChainResult a k], [⟨(.int .i64), .sh, F_w_markChainResult a k⟩], [.mv (.pair (.int .i64) (.pair (.sl (.int .u8)) (.pair (.sl (.int .i64)) .unit))) (.pr .sh (.pr (.ow .sh) (.pr (.ow .sh) .sh))) (B_w_markChainResult_a a k)]⟩, [(.pr .sh (.pr (.ow .sh) (.pr (.ow .sh) .sh)))], false⟩
theorem ok_w_markChainResult : ConOk pg 59 con_w_markChainResult := ConOk.g2 (Enters.of (by kernel_rfl)) ct_w_markChainResult

def F_w_heldChainResult (a : (Int) × (List (Int)) × (List (Int)) × Unit) (k : Int) : Int := hd false (.pair (.int .i64) (.pair (.sl (.int .u8)) (.pair (.sl (.int .i64)) .unit))) a k
def Q_w_heldChainResult (a : (Int) × (List (Int)) × (List (Int)) × Unit) (k : Int) : Prop := 0 ≤ k ∧ k + cnt false (.pair (.int .i64) (.pair (.sl (.int .u8)) (.pair (.sl (.int .i64)) .unit))) a ≤ 4611686018427387904
def O_w_heldChainResult : Opt := ⟨fun i => false, fun i => [], fun i => .done, fun i => none, fun i => false, fun i => []⟩
def τ_w_heldChainResult : Env := Env.of [(2, (.int .i64)), (3, (.int .i64)), (4, .bool), (26, (.sl (.int .u8))), (43, (.sl (.int .i64))), (82, (.pair (.int .i64) (.pair (.sl (.int .u8)) (.pair (.sl (.int .i64)) .unit))))] [] []

theorem ct_w_heldChainResult (a : (Int) × (List (Int)) × (List (Int)) × Unit) (k : Int) : Ct pg 60 [.dat (.pair (.int .i64) (.pair (.sl (.int .u8)) (.pair (.sl (.int .i64)) .unit))) a, .dat (.int .i64) k] ⟨[Q_w_heldChainResult a k], [⟨(.int .i64), .sh, F_w_heldChainResult a k⟩], []⟩ := by
  refine ct_claim (O := O_w_heldChainResult) (τ := τ_w_heldChainResult) (EnvOk.of (by kernel_rfl) (by kernel_rfl)) (GOk.of (.cons ok_w_heldByteS (.cons ok_w_heldInt64S .nil) : AllOk pg [(125, con_w_heldByteS), (109, con_w_heldInt64S)])) mixed (Enters.of (by kernel_rfl)) (fn := Go.Proofs.Try.f60) (by kernel_rfl) rfl (by kernel_rfl) ?_
  intro hp hw
  have hq : Q_w_heldChainResult a k := hp _ (List.mem_singleton.2 rfl)
  clear hp
  change claim Lg.std Alg.std τ_w_heldChainResult (Gam.of [(125, ⟨true, g2 (pD (.sl (.int .u8))) (pD (.int .i64)) fun a k => ⟨[Q_w_heldByteS a k], [⟨(.int .i64), .sh, F_w_heldByteS a k⟩], []⟩, [], false⟩), (109, ⟨true, g2 (pD (.sl (.int .i64))) (pD (.int .i64)) fun a k => ⟨[Q_w_heldInt64S a k], [⟨(.int .i64), .sh, F_w_heldInt64S a k⟩], []⟩, [], false⟩)]) O_w_heldChainResult Go.Proofs.Try.f60 [.dat (.pair (.int .i64) (.pair (.sl (.int .u8)) (.pair (.sl (.int .i64)) .unit))) a, .dat (.int .i64) k] ⟨[Q_w_heldChainResult a k], [⟨(.int .i64), .sh, F_w_heldChainResult a k⟩], []⟩
  generalize hg_F_w_heldByteS : F_w_heldByteS = g_F_w_heldByteS
  generalize hg_Q_w_heldByteS : Q_w_heldByteS = g_Q_w_heldByteS
  generalize hg_F_w_heldInt64S : F_w_heldInt64S = g_F_w_heldInt64S
  generalize hg_Q_w_heldInt64S : Q_w_heldInt64S = g_Q_w_heldInt64S
  generalize hR0 : F_w_heldChainResult a k = R0
  generalize Q_w_heldChainResult a k = Q0
  generalize hL : Lg.std = L
  generalize hA : Alg.std = A
  cbv
  subst hL hA
  try dsimp only [Ty.den]
  obtain ⟨f0, f1, f2, ⟨⟩⟩ := a
  have ho1 := fun k h => hd_or false (.sl (.int .u8)) f1 k h
  have ho2 := fun k h => hd_or false (.sl (.int .i64)) f2 k h
  simp only [Q_w_heldChainResult] at hq
  subst hR0 hg_F_w_heldByteS hg_Q_w_heldByteS hg_F_w_heldInt64S hg_Q_w_heldInt64S
  simp only [Lg.std, Alg.std, List.drop_zero, List.take_length, F_w_heldByteS, F_w_heldInt64S, Q_w_heldByteS, Q_w_heldInt64S, F_w_heldChainResult, szf, tot_p, tot_u, tot_i, tot_b, tot_s, cnt_p, cnt_u, cnt_i0, cnt_b0, cnt_s0, cnt_i1, cnt_b1, cnt_s1, cnt_l, mk_p, mk_u, mk_i0, mk_b0, mk_s0, mk_i1, mk_s1, mk_l, hd_p, hd_u, hd_i0, hd_b0, hd_s0, hd_i1, hd_b1, hd_s1, hd_l] at *
  all_goals grind [mk_len]
def con_w_heldChainResult : Con := ⟨true, g2 (pD (.pair (.int .i64) (.pair (.sl (.int .u8)) (.pair (.sl (.int .i64)) .unit)))) (pD (.int .i64)) fun a k => ⟨[Q_w_heldChainResult a k], [⟨(.int .i64), .sh, F_w_heldChainResult a k⟩], []⟩, [], false⟩
theorem ok_w_heldChainResult : ConOk pg 60 con_w_heldChainResult := ConOk.g2 (Enters.of (by kernel_rfl)) ct_w_heldChainResult

def F_s_l15Chain (d : (List (List (Int))) × (List ((Int) × (List (Int)) × Unit)) × Unit) (head : Int) : List (Int) := (chainS d head [] []).2.1
def F_s_l15Chain_1 (d : (List (List (Int))) × (List ((Int) × (List (Int)) × Unit)) × Unit) (head : Int) : List (Int) := (chainS d head [] []).2.2.1
def F_s_l15Chain_2 (d : (List (List (Int))) × (List ((Int) × (List (Int)) × Unit)) × Unit) (head : Int) : Int := (chainS d head [] []).1
def Q_s_l15Chain (d : (List (List (Int))) × (List ((Int) × (List (Int)) × Unit)) × Unit) (head : Int) : Prop := GoodW d 64
def O_s_l15Chain : Opt := ⟨fun i => false, fun i => (match decide (i = 4) with | true => [true, false, false, false, false, false, false, true, true, true, false, false, false, false, false, false, false, false, false, false, false, false, false, false, false, false, false, false, false, false, false, false, false, false, false, false, false, false, false, false, false, false, false, false, false, false, false, false, false, false, false, false, false, false, false, false, false, false, false, false, false, false, false, false, false, false, false, false] | false => []), fun i => .done, fun i => none, fun i => (match decide (i = 4) with | true => true | false => false), fun i => (match decide (i = 4) with | true => [(7, none, (.int .u8), .sh), (8, none, (.int .i64), .sh)] | false => [])⟩
def τ_s_l15Chain : Env := Env.of [(2, (.int .i64)), (3, (.int .i64)), (4, .bool), (5, (.int .u8)), (22, (.sl (.sl (.int .u8)))), (26, (.sl (.int .u8))), (30, (.pair (.sl (.sl (.int .u8))) (.pair (.sl (.pair (.int .i64) (.pair (.sl (.int .u8)) .unit))) .unit))), (43, (.sl (.int .i64))), (105, (.pair (.int .i64) (.pair (.int .i64) (.pair (.sl (.int .u8)) .unit))))] [(114, (.pair (.sl (.sl (.int .u8))) (.pair (.sl (.pair (.int .i64) (.pair (.sl (.int .u8)) .unit))) .unit)))] []

theorem ct_s_l15Chain (d : (List (List (Int))) × (List ((Int) × (List (Int)) × Unit)) × Unit) (head : Int) : Ct pg 121 [.dptr (.pair (.sl (.sl (.int .u8))) (.pair (.sl (.pair (.int .i64) (.pair (.sl (.int .u8)) .unit))) .unit)) d, .dat (.int .i64) head] ⟨[Q_s_l15Chain d head], [⟨(.sl (.int .u8)), (.ow .sh), F_s_l15Chain d head⟩, ⟨(.sl (.int .i64)), (.ow .sh), F_s_l15Chain_1 d head⟩, ⟨(.int .i64), .sh, F_s_l15Chain_2 d head⟩], []⟩ := by
  refine ct_claim (O := O_s_l15Chain) (τ := τ_s_l15Chain) (EnvOk.of (by kernel_rfl) (by kernel_rfl)) (GOk.of (.cons ok_s_l1In (.cons ok_s_l15Read (.cons ok_s_l1Has (.cons ok_s_l14Read .nil))) : AllOk pg [(143, con_s_l1In), (165, con_s_l15Read), (131, con_s_l1Has), (166, con_s_l14Read)])) mixed (Enters.of (by kernel_rfl)) (fn := Go.Proofs.Try.f121) (by kernel_rfl) rfl (by kernel_rfl) ?_
  intro hp hw
  have hq : Q_s_l15Chain d head := hp _ (List.mem_singleton.2 rfl)
  clear hp
  change claim Lg.std Alg.std τ_s_l15Chain (Gam.of [(143, ⟨true, g3 (pD (.int .i64)) (pD (.int .i64)) (pD (.int .i64)) fun n lo hi => ⟨[Q_s_l1In n lo hi], [⟨.bool, .sh, F_s_l1In n lo hi⟩], []⟩, [], false⟩), (165, ⟨true, g2 (pD (.sl (.int .u8))) (pD (.int .i64)) fun data id => ⟨[Q_s_l15Read data id], [⟨(.pair (.int .i64) (.pair (.int .i64) (.pair (.sl (.int .u8)) .unit))), (.pr .sh (.pr .sh (.pr (.ow .sh) .sh))), F_s_l15Read data id⟩, ⟨(.int .i64), .sh, F_s_l15Read_1 data id⟩], []⟩, [], false⟩), (131, ⟨true, g2 (pD (.sl (.int .i64))) (pD (.int .i64)) fun a n => ⟨[Q_s_l1Has a n], [⟨.bool, .sh, F_s_l1Has a n⟩], []⟩, [], false⟩), (166, ⟨true, g2 (pP (.pair (.sl (.sl (.int .u8))) (.pair (.sl (.pair (.int .i64) (.pair (.sl (.int .u8)) .unit))) .unit))) (pD (.int .i64)) fun d n => ⟨[Q_s_l14Read d n], [⟨(.sl (.int .u8)), .sh, F_s_l14Read d n⟩], []⟩, [], false⟩)]) O_s_l15Chain Go.Proofs.Try.f121 [.dptr (.pair (.sl (.sl (.int .u8))) (.pair (.sl (.pair (.int .i64) (.pair (.sl (.int .u8)) .unit))) .unit)) d, .dat (.int .i64) head] ⟨[Q_s_l15Chain d head], [⟨(.sl (.int .u8)), (.ow .sh), F_s_l15Chain d head⟩, ⟨(.sl (.int .i64)), (.ow .sh), F_s_l15Chain_1 d head⟩, ⟨(.int .i64), .sh, F_s_l15Chain_2 d head⟩], []⟩
  generalize hg_F_s_l1In : F_s_l1In = g_F_s_l1In
  generalize hg_Q_s_l1In : Q_s_l1In = g_Q_s_l1In
  generalize hg_F_s_l15Read : F_s_l15Read = g_F_s_l15Read
  generalize hg_F_s_l15Read_1 : F_s_l15Read_1 = g_F_s_l15Read_1
  generalize hg_Q_s_l15Read : Q_s_l15Read = g_Q_s_l15Read
  generalize hg_F_s_l1Has : F_s_l1Has = g_F_s_l1Has
  generalize hg_Q_s_l1Has : Q_s_l1Has = g_Q_s_l1Has
  generalize hg_F_s_l14Read : F_s_l14Read = g_F_s_l14Read
  generalize hg_Q_s_l14Read : Q_s_l14Read = g_Q_s_l14Read
  generalize hR0 : F_s_l15Chain d head = R0
  generalize hR1 : F_s_l15Chain_1 d head = R1
  generalize hR2 : F_s_l15Chain_2 d head = R2
  generalize Q_s_l15Chain d head = Q0
  generalize hL : Lg.std = L
  generalize hA : Alg.std = A
  cbv
  subst hL hA
  try dsimp only [Ty.den]
  obtain ⟨d_0, d_1, ⟨⟩⟩ := d
  have hG : GoodW (d_0, d_1, PUnit.unit) 64 := hq
  repeat' (first | intro _ | apply And.intro)
  all_goals first | trivial | ((fail_if_success (refine lp_v (V := Unit) (fun _ => ⟨[], []⟩) (fun _ => True) (fun _ => 0) () ?_ ?_ ?_)); subst hR0 hR1 hR2 hg_F_s_l1In hg_Q_s_l1In hg_F_s_l15Read hg_F_s_l15Read_1 hg_Q_s_l15Read hg_F_s_l1Has hg_Q_s_l1Has hg_F_s_l14Read hg_Q_s_l14Read; (try simp only [Alg.std, F_s_l1In, F_s_l15Read, F_s_l1Has, F_s_l14Read, F_s_l15Read_1, Q_s_l1In, Q_s_l15Read, Q_s_l1Has, Q_s_l14Read, F_s_l15Chain, F_s_l15Chain_1, F_s_l15Chain_2] at *); all_goals grind) | skip
  refine lp_v (V := (Int) × (Nat) × (Nat) × (List Int) × (List Int)) (fun ((id, N, P, xs, ps) : (Int) × (Nat) × (Nat) × (List Int) × (List Int)) => ⟨[.dptr (.pair (.sl (.sl (.int .u8))) (.pair (.sl (.pair (.int .i64) (.pair (.sl (.int .u8)) .unit))) .unit)) (d_0, d_1, PUnit.unit), .junk, .junk, .junk, .junk, .junk, .junk, .ref (.int .u8) 0 0 [] 0 N, .ref (.int .i64) 1 0 [] 0 P, .dat (.int .i64) id, .junk, .junk, .junk, .junk, .junk, .junk, .junk, .junk, .junk, .junk, .junk, .junk, .junk, .junk, .junk, .junk, .junk, .junk, .junk, .junk, .junk, .junk, .junk, .junk, .junk, .junk, .junk, .junk, .junk, .junk, .junk, .junk, .junk, .junk, .junk, .junk, .junk, .junk, .junk, .junk, .junk, .junk, .junk, .junk, .junk, .junk, .junk, .junk, .junk, .junk, .junk, .junk, .junk, .junk, .junk, .junk, .junk, .junk], [some (.row 0 (.int .u8) .sh xs), some (.row 0 (.int .i64) .sh ps)]⟩) (fun ((id, N, P, xs, ps) : (Int) × (Nat) × (Nat) × (List Int) × (List Int)) => N = xs.length ∧ P = ps.length ∧ ps.length ≤ xs.length ∧ xs.length ≤ 400 ∧ chainS (d_0, d_1, PUnit.unit) id xs ps = chainS (d_0, d_1, PUnit.unit) head [] []) (fun ((id, N, P, xs, ps) : (Int) × (Nat) × (Nat) × (List Int) × (List Int)) => 401 - xs.length) (head, _, _, _, _) rfl ?_ ?_
  · subst hR0 hR1 hR2 hg_F_s_l1In hg_Q_s_l1In hg_F_s_l15Read hg_F_s_l15Read_1 hg_Q_s_l15Read hg_F_s_l1Has hg_Q_s_l1Has hg_F_s_l14Read hg_Q_s_l14Read
    (try simp only [Alg.std, F_s_l1In, F_s_l15Read, F_s_l1Has, F_s_l14Read, F_s_l15Read_1, Q_s_l1In, Q_s_l15Read, Q_s_l1Has, Q_s_l14Read, F_s_l15Chain, F_s_l15Chain_1, F_s_l15Chain_2] at *)
    all_goals grind
  rintro ⟨id, N, P, xs, ps⟩ hf I hI
  replace hf : N = xs.length ∧ P = ps.length ∧ ps.length ≤ xs.length ∧ xs.length ≤ 400 ∧ chainS (d_0, d_1, PUnit.unit) id xs ps = chainS (d_0, d_1, PUnit.unit) head [] [] := hf
  generalize hL : Lg.std = L
  generalize hA : Alg.std = A
  cbv
  subst hL hA
  try dsimp only [Ty.den]
  subst hI
  obtain ⟨h1, h2, h3, h4, h5⟩ := hf
  have hst := chainS_step (d_0, d_1, PUnit.unit) id xs ps
  have hpi := pageAt_in (d_0, d_1, PUnit.unit) id
  have hpb := pageAt_body (d := (d_0, d_1, PUnit.unit)) (k := 64) hG id
  have hrl := readD_len (d := (d_0, d_1, PUnit.unit)) (k := 64) hG id
  have hl64 : d_0.length ≤ 64 := hG.1.2
  repeat' (first | intro _ | apply And.intro)
  all_goals first | (with_reducible exact True.intro) | ((fail_if_success (refine lp_v (V := Unit) (fun _ => ⟨[], []⟩) (fun _ => True) (fun _ => 0) () ?_ ?_ ?_)); (try simp only [Lg.std, Alg.std, List.drop_zero, List.take_length] at *); (try refine ⟨(_, _, _, _, _), rfl, ?_, ?_⟩); (all_goals (subst hR0 hR1 hR2 hg_F_s_l1In hg_Q_s_l1In hg_F_s_l15Read hg_F_s_l15Read_1 hg_Q_s_l15Read hg_F_s_l1Has hg_Q_s_l1Has hg_F_s_l14Read hg_Q_s_l14Read; (try simp only [Lg.std, Alg.std, List.drop_zero, List.take_length, F_s_l1In, F_s_l15Read, F_s_l1Has, F_s_l14Read, F_s_l15Read_1, Q_s_l1In, Q_s_l15Read, Q_s_l1Has, Q_s_l14Read, F_s_l15Chain, F_s_l15Chain_1, F_s_l15Chain_2] at *); first | done | ((try simp only [Bool.not_eq_eq_eq_not, Bool.not_false, Bool.not_true, decide_eq_true_eq, decide_eq_false_iff_not] at *); (try generalize l15Read (readD (d_0, d_1, PUnit.unit) id) id = rb at *); (try generalize pageAt (d_0, d_1, PUnit.unit) id = ra at *); (try obtain ⟨ra0, ra1, ra2, ra3, ⟨⟩⟩ := ra); (try obtain ⟨rb0, rb1, rb2, rb3, ⟨⟩⟩ := rb); (try dsimp only at *); grind)))) | skip
def con_s_l15Chain : Con := ⟨true, g2 (pP (.pair (.sl (.sl (.int .u8))) (.pair (.sl (.pair (.int .i64) (.pair (.sl (.int .u8)) .unit))) .unit))) (pD (.int .i64)) fun d head => ⟨[Q_s_l15Chain d head], [⟨(.sl (.int .u8)), (.ow .sh), F_s_l15Chain d head⟩, ⟨(.sl (.int .i64)), (.ow .sh), F_s_l15Chain_1 d head⟩, ⟨(.int .i64), .sh, F_s_l15Chain_2 d head⟩], []⟩, [], false⟩
theorem ok_s_l15Chain : ConOk pg 121 con_s_l15Chain := ConOk.g2 (Enters.of (by kernel_rfl)) ct_s_l15Chain

def F_i_ChainAt (d : (List (List (Int))) × (List ((Int) × (List (Int)) × Unit)) × Unit) (head : Int) : (Int) × (List (Int)) × (List (Int)) × Unit := chainAt d head
def Q_i_ChainAt (d : (List (List (Int))) × (List ((Int) × (List (Int)) × Unit)) × Unit) (head : Int) : Prop := True
def O_i_ChainAt : Opt := ⟨fun i => false, fun i => (match decide (i = 6) with | true => [false, false, true, false, true, false, true, true, false, false, false, false, false, false, false, false, false, false, false, false, false, false, false, false, false, false, false, false, false, false, false, false, false, false, false, false, false, false, false, false, false, false, false, false, false, false, false, false, false, false, false, false, false, false, false, false, false, false, false, false, false, false, false, false, false, false, false, false, false, false, false, false, false, false, false, false, false, false] | false => []), fun i => (match decide (i = 15) with | true => (.take 0 (.take 2 (.alt 1 (.alt 3 (.take 4 (.alt 5 (.take 6 (.alt 7 .done .no)) .no)) .no) (.alt 3 (.take 4 (.alt 1 (.alt 5 (.take 6 (.alt 7 .done .no)) .no) .no)) .no)))) | false => .done), fun i => (match decide (i = 15) with | true => some [false, false, true, false, true, false, true, true, true, false, false, false, false, false, false, false, false, false, false, false, false, false, false, false, false, false, false, false, false, false, false, false, false, false, false, false, false, false, false, false, false, false, false, false, false, false, false, false, false, false, false, false, false, false, false, false, false, false, false, false, false, false, false, false, false, false, false, false, false, false, false, false, false, false, false, false, false, false] | false => none), fun i => (match decide (i = 6) with | true => true | false => false), fun i => (match decide (i = 6) with | true => [(6, some 1, (.int .u8), .sh), (6, some 2, (.int .i64), .sh)] | false => [])⟩
def τ_i_ChainAt : Env := Env.of [(2, (.int .i64)), (3, (.int .i64)), (4, .bool), (5, (.int .u8)), (26, (.sl (.int .u8))), (30, (.pair (.sl (.sl (.int .u8))) (.pair (.sl (.pair (.int .i64) (.pair (.sl (.int .u8)) .unit))) .unit))), (43, (.sl (.int .i64))), (82, (.pair (.int .i64) (.pair (.sl (.int .u8)) (.pair (.sl (.int .i64)) .unit)))), (105, (.pair (.int .i64) (.pair (.int .i64) (.pair (.sl (.int .u8)) .unit))))] [] []

theorem ct_i_ChainAt (d : (List (List (Int))) × (List ((Int) × (List (Int)) × Unit)) × Unit) (head : Int) : Ct pg 57 [.dat (.pair (.sl (.sl (.int .u8))) (.pair (.sl (.pair (.int .i64) (.pair (.sl (.int .u8)) .unit))) .unit)) d, .dat (.int .i64) head] ⟨[Q_i_ChainAt d head], [⟨(.pair (.int .i64) (.pair (.sl (.int .u8)) (.pair (.sl (.int .i64)) .unit))), (.pr .sh (.pr (.ow .sh) (.pr (.ow .sh) .sh))), F_i_ChainAt d head⟩], []⟩ := by
  refine ct_claim (O := O_i_ChainAt) (τ := τ_i_ChainAt) (EnvOk.of (by kernel_rfl) (by kernel_rfl)) (GOk.of (.cons ok_sl_Contains_int64 (.cons ok_i_Disk_has (.cons ok_i_DiskFault (.cons ok_i_Disk_pageAt .nil))) : AllOk pg [(123, con_sl_Contains_int64), (122, con_i_Disk_has), (88, con_i_DiskFault), (124, con_i_Disk_pageAt)])) mixed (Enters.of (by kernel_rfl)) (fn := Go.Proofs.Try.f57) (by kernel_rfl) rfl (by kernel_rfl) ?_
  intro hp hw
  have hq : Q_i_ChainAt d head := hp _ (List.mem_singleton.2 rfl)
  clear hp
  change claim Lg.std Alg.std τ_i_ChainAt (Gam.of [(123, ⟨true, g2 (pD (.sl (.int .i64))) (pD (.int .i64)) fun a n => ⟨[Q_sl_Contains_int64 a n], [⟨.bool, .sh, F_sl_Contains_int64 a n⟩], []⟩, [], false⟩), (122, ⟨true, g2 (pD (.pair (.sl (.sl (.int .u8))) (.pair (.sl (.pair (.int .i64) (.pair (.sl (.int .u8)) .unit))) .unit))) (pD (.int .i64)) fun d n => ⟨[Q_i_Disk_has d n], [⟨.bool, .sh, F_i_Disk_has d n⟩], []⟩, [], false⟩), (88, ⟨true, g1 (pD (.pair (.sl (.sl (.int .u8))) (.pair (.sl (.pair (.int .i64) (.pair (.sl (.int .u8)) .unit))) .unit))) fun d => ⟨[Q_i_DiskFault d], [⟨(.int .i64), .sh, F_i_DiskFault d⟩], []⟩, [], false⟩), (124, ⟨true, g2 (pD (.pair (.sl (.sl (.int .u8))) (.pair (.sl (.pair (.int .i64) (.pair (.sl (.int .u8)) .unit))) .unit))) (pD (.int .i64)) fun d id => ⟨[Q_i_Disk_pageAt d id], [⟨(.pair (.int .i64) (.pair (.int .i64) (.pair (.sl (.int .u8)) .unit))), (.pr .sh (.pr .sh (.pr (.ow .sh) .sh))), F_i_Disk_pageAt d id⟩, ⟨(.int .i64), .sh, F_i_Disk_pageAt_1 d id⟩], []⟩, [], false⟩)]) O_i_ChainAt Go.Proofs.Try.f57 [.dat (.pair (.sl (.sl (.int .u8))) (.pair (.sl (.pair (.int .i64) (.pair (.sl (.int .u8)) .unit))) .unit)) d, .dat (.int .i64) head] ⟨[Q_i_ChainAt d head], [⟨(.pair (.int .i64) (.pair (.sl (.int .u8)) (.pair (.sl (.int .i64)) .unit))), (.pr .sh (.pr (.ow .sh) (.pr (.ow .sh) .sh))), F_i_ChainAt d head⟩], []⟩
  generalize hg_F_sl_Contains_int64 : F_sl_Contains_int64 = g_F_sl_Contains_int64
  generalize hg_Q_sl_Contains_int64 : Q_sl_Contains_int64 = g_Q_sl_Contains_int64
  generalize hg_F_i_Disk_has : F_i_Disk_has = g_F_i_Disk_has
  generalize hg_Q_i_Disk_has : Q_i_Disk_has = g_Q_i_Disk_has
  generalize hg_F_i_DiskFault : F_i_DiskFault = g_F_i_DiskFault
  generalize hg_Q_i_DiskFault : Q_i_DiskFault = g_Q_i_DiskFault
  generalize hg_F_i_Disk_pageAt : F_i_Disk_pageAt = g_F_i_Disk_pageAt
  generalize hg_F_i_Disk_pageAt_1 : F_i_Disk_pageAt_1 = g_F_i_Disk_pageAt_1
  generalize hg_Q_i_Disk_pageAt : Q_i_Disk_pageAt = g_Q_i_Disk_pageAt
  generalize hR0 : F_i_ChainAt d head = R0
  generalize Q_i_ChainAt d head = Q0
  generalize hL : Lg.std = L
  generalize hA : Alg.std = A
  cbv
  subst hL hA
  try dsimp only [Ty.den]
  obtain ⟨d_0, d_1, ⟨⟩⟩ := d
  have hgd := fun h => (diskFault_good (d_0, d_1, PUnit.unit) h).w
  repeat' (first | intro _ | apply And.intro)
  all_goals first | trivial | ((fail_if_success (refine lp_v (V := Unit) (fun _ => ⟨[], []⟩) (fun _ => True) (fun _ => 0) () ?_ ?_ ?_)); subst hR0 hg_F_sl_Contains_int64 hg_Q_sl_Contains_int64 hg_F_i_Disk_has hg_Q_i_Disk_has hg_F_i_DiskFault hg_Q_i_DiskFault hg_F_i_Disk_pageAt hg_F_i_Disk_pageAt_1 hg_Q_i_Disk_pageAt; (try simp only [Alg.std, F_sl_Contains_int64, F_i_Disk_has, F_i_DiskFault, F_i_Disk_pageAt, F_i_Disk_pageAt_1, Q_sl_Contains_int64, Q_i_Disk_has, Q_i_DiskFault, Q_i_Disk_pageAt, F_i_ChainAt] at *); all_goals grind [chainAt]) | skip
  refine lp_v (V := (Int) × (Nat) × (Nat) × (List Int) × (List Int)) (fun ((id, N, P, xs, ps) : (Int) × (Nat) × (Nat) × (List Int) × (List Int)) => ⟨[.junk, .junk, .bptr 0 0, .junk, .bptr 1 0, .junk, .bptr 2 0, .dat (.int .i64) id, .junk, .junk, .junk, .junk, .junk, .junk, .junk, .junk, .junk, .junk, .junk, .junk, .junk, .junk, .junk, .junk, .junk, .junk, .junk, .junk, .junk, .junk, .junk, .junk, .junk, .junk, .junk, .junk, .junk, .junk, .junk, .junk, .junk, .junk, .junk, .junk, .junk, .junk, .junk, .junk, .junk, .junk, .junk, .junk, .junk, .junk, .junk, .junk, .junk, .junk, .junk, .junk, .junk, .junk, .junk, .junk, .junk, .junk, .junk, .junk, .junk, .junk, .junk, .junk, .junk, .junk, .junk, .junk, .junk, .junk], [some (.box [.dat (.sl (.sl (.int .u8))) d_0, .dat (.sl (.pair (.int .i64) (.pair (.sl (.int .u8)) .unit))) d_1]), some (.box [.dat (.int .i64) 0, .nilS, .nilS]), some (.box [.dat (.int .i64) 0, .ref (.int .u8) 3 0 [] 0 N, .ref (.int .i64) 4 0 [] 0 P]), some (.row 0 (.int .u8) .sh xs), some (.row 0 (.int .i64) .sh ps)]⟩) (fun ((id, N, P, xs, ps) : (Int) × (Nat) × (Nat) × (List Int) × (List Int)) => GoodW (d_0, d_1, PUnit.unit) 64 ∧ diskFault (d_0, d_1, PUnit.unit) = 0 ∧ N = xs.length ∧ P = ps.length ∧ ps.length ≤ xs.length ∧ xs.length ≤ 400 ∧ chainS (d_0, d_1, PUnit.unit) id xs ps = chainS (d_0, d_1, PUnit.unit) head [] []) (fun ((id, N, P, xs, ps) : (Int) × (Nat) × (Nat) × (List Int) × (List Int)) => 401 - xs.length) (head, _, _, _, _) rfl ?_ ?_
  · subst hR0 hg_F_sl_Contains_int64 hg_Q_sl_Contains_int64 hg_F_i_Disk_has hg_Q_i_Disk_has hg_F_i_DiskFault hg_Q_i_DiskFault hg_F_i_Disk_pageAt hg_F_i_Disk_pageAt_1 hg_Q_i_Disk_pageAt
    (try simp only [Alg.std, F_sl_Contains_int64, F_i_Disk_has, F_i_DiskFault, F_i_Disk_pageAt, F_i_Disk_pageAt_1, Q_sl_Contains_int64, Q_i_Disk_has, Q_i_DiskFault, Q_i_Disk_pageAt, F_i_ChainAt] at *)
    all_goals grind
  rintro ⟨id, N, P, xs, ps⟩ hf I hI
  replace hf : GoodW (d_0, d_1, PUnit.unit) 64 ∧ diskFault (d_0, d_1, PUnit.unit) = 0 ∧ N = xs.length ∧ P = ps.length ∧ ps.length ≤ xs.length ∧ xs.length ≤ 400 ∧ chainS (d_0, d_1, PUnit.unit) id xs ps = chainS (d_0, d_1, PUnit.unit) head [] [] := hf
  generalize hL : Lg.std = L
  generalize hA : Alg.std = A
  cbv
  subst hL hA
  try dsimp only [Ty.den]
  subst hI
  obtain ⟨h1, h2, h3, h4, h5, h6, h7⟩ := hf
  have hG := h1
  have hst := chainS_step (d_0, d_1, PUnit.unit) id xs ps
  have hpi := pageAt_in (d_0, d_1, PUnit.unit) id
  have hpb := pageAt_body (d := (d_0, d_1, PUnit.unit)) (k := 64) hG id
  have hrl := readD_len (d := (d_0, d_1, PUnit.unit)) (k := 64) hG id
  have hl64 : d_0.length ≤ 64 := hG.1.2
  repeat' (first | intro _ | apply And.intro)
  all_goals first | (with_reducible exact True.intro) | ((fail_if_success (refine lp_v (V := Unit) (fun _ => ⟨[], []⟩) (fun _ => True) (fun _ => 0) () ?_ ?_ ?_)); (try simp only [Lg.std, Alg.std, List.drop_zero, List.take_length, decide_eq_true_eq, decide_eq_false_iff_not, Bool.not_eq_eq_eq_not, Bool.not_true, Bool.not_false] at *); (try refine ⟨(_, _, _, _, _), rfl, ?_, ?_⟩); (all_goals (subst hR0 hg_F_sl_Contains_int64 hg_Q_sl_Contains_int64 hg_F_i_Disk_has hg_Q_i_Disk_has hg_F_i_DiskFault hg_Q_i_DiskFault hg_F_i_Disk_pageAt hg_F_i_Disk_pageAt_1 hg_Q_i_Disk_pageAt; (try simp only [Lg.std, Alg.std, List.drop_zero, List.take_length, F_sl_Contains_int64, F_i_Disk_has, F_i_DiskFault, F_i_Disk_pageAt, F_i_Disk_pageAt_1, Q_sl_Contains_int64, Q_i_Disk_has, Q_i_DiskFault, Q_i_Disk_pageAt, F_i_ChainAt] at *); first | done | ((try simp only [Bool.not_eq_eq_eq_not, Bool.not_false, Bool.not_true, decide_eq_true_eq, decide_eq_false_iff_not] at *); (try generalize l15Read (readD (d_0, d_1, PUnit.unit) id) id = rb at *); (try generalize pageAt (d_0, d_1, PUnit.unit) id = ra at *); (try obtain ⟨ra0, ra1, ra2, ra3, ⟨⟩⟩ := ra); (try obtain ⟨rb0, rb1, rb2, rb3, ⟨⟩⟩ := rb); (try dsimp only at *); (try have htk : List.take ((ra3.length : Int).toNat - 1) (List.drop 1 ra3) = List.drop 1 ra3 := List.take_of_length_le (by simp)); grind [chainAt])))) | skip
def con_i_ChainAt : Con := ⟨true, g2 (pD (.pair (.sl (.sl (.int .u8))) (.pair (.sl (.pair (.int .i64) (.pair (.sl (.int .u8)) .unit))) .unit))) (pD (.int .i64)) fun d head => ⟨[Q_i_ChainAt d head], [⟨(.pair (.int .i64) (.pair (.sl (.int .u8)) (.pair (.sl (.int .i64)) .unit))), (.pr .sh (.pr (.ow .sh) (.pr (.ow .sh) .sh))), F_i_ChainAt d head⟩], []⟩, [], false⟩
theorem ok_i_ChainAt : ConOk pg 57 con_i_ChainAt := ConOk.g2 (Enters.of (by kernel_rfl)) ct_i_ChainAt

def F_s_ChainAt (d : (List (List (Int))) × (List ((Int) × (List (Int)) × Unit)) × Unit) (head : Int) : (Int) × (List (Int)) × (List (Int)) × Unit := chainAt d head
def Q_s_ChainAt (d : (List (List (Int))) × (List ((Int) × (List (Int)) × Unit)) × Unit) (head : Int) : Prop := True
def O_s_ChainAt : Opt := ⟨fun i => false, fun i => [], fun i => .done, fun i => none, fun i => false, fun i => []⟩
def τ_s_ChainAt : Env := Env.of [(2, (.int .i64)), (4, .bool), (26, (.sl (.int .u8))), (30, (.pair (.sl (.sl (.int .u8))) (.pair (.sl (.pair (.int .i64) (.pair (.sl (.int .u8)) .unit))) .unit))), (43, (.sl (.int .i64))), (82, (.pair (.int .i64) (.pair (.sl (.int .u8)) (.pair (.sl (.int .i64)) .unit))))] [(114, (.pair (.sl (.sl (.int .u8))) (.pair (.sl (.pair (.int .i64) (.pair (.sl (.int .u8)) .unit))) .unit)))] []

theorem ct_s_ChainAt (d : (List (List (Int))) × (List ((Int) × (List (Int)) × Unit)) × Unit) (head : Int) : Ct pg 56 [.dat (.pair (.sl (.sl (.int .u8))) (.pair (.sl (.pair (.int .i64) (.pair (.sl (.int .u8)) .unit))) .unit)) d, .dat (.int .i64) head] ⟨[Q_s_ChainAt d head], [⟨(.pair (.int .i64) (.pair (.sl (.int .u8)) (.pair (.sl (.int .i64)) .unit))), (.pr .sh (.pr (.ow .sh) (.pr (.ow .sh) .sh))), F_s_ChainAt d head⟩], []⟩ := by
  refine ct_claim (O := O_s_ChainAt) (τ := τ_s_ChainAt) (EnvOk.of (by kernel_rfl) (by kernel_rfl)) (GOk.of (.cons ok_s_DiskFault (.cons ok_s_l15Chain .nil) : AllOk pg [(81, con_s_DiskFault), (121, con_s_l15Chain)])) mixed (Enters.of (by kernel_rfl)) (fn := Go.Proofs.Try.f56) (by kernel_rfl) rfl (by kernel_rfl) ?_
  intro hp hw
  have hq : Q_s_ChainAt d head := hp _ (List.mem_singleton.2 rfl)
  clear hp
  change claim Lg.std Alg.std τ_s_ChainAt (Gam.of [(81, ⟨true, g1 (pD (.pair (.sl (.sl (.int .u8))) (.pair (.sl (.pair (.int .i64) (.pair (.sl (.int .u8)) .unit))) .unit))) fun d => ⟨[Q_s_DiskFault d], [⟨(.int .i64), .sh, F_s_DiskFault d⟩], []⟩, [], false⟩), (121, ⟨true, g2 (pP (.pair (.sl (.sl (.int .u8))) (.pair (.sl (.pair (.int .i64) (.pair (.sl (.int .u8)) .unit))) .unit))) (pD (.int .i64)) fun d head => ⟨[Q_s_l15Chain d head], [⟨(.sl (.int .u8)), (.ow .sh), F_s_l15Chain d head⟩, ⟨(.sl (.int .i64)), (.ow .sh), F_s_l15Chain_1 d head⟩, ⟨(.int .i64), .sh, F_s_l15Chain_2 d head⟩], []⟩, [], false⟩)]) O_s_ChainAt Go.Proofs.Try.f56 [.dat (.pair (.sl (.sl (.int .u8))) (.pair (.sl (.pair (.int .i64) (.pair (.sl (.int .u8)) .unit))) .unit)) d, .dat (.int .i64) head] ⟨[Q_s_ChainAt d head], [⟨(.pair (.int .i64) (.pair (.sl (.int .u8)) (.pair (.sl (.int .i64)) .unit))), (.pr .sh (.pr (.ow .sh) (.pr (.ow .sh) .sh))), F_s_ChainAt d head⟩], []⟩
  generalize hg_F_s_DiskFault : F_s_DiskFault = g_F_s_DiskFault
  generalize hg_Q_s_DiskFault : Q_s_DiskFault = g_Q_s_DiskFault
  generalize hg_F_s_l15Chain : F_s_l15Chain = g_F_s_l15Chain
  generalize hg_F_s_l15Chain_1 : F_s_l15Chain_1 = g_F_s_l15Chain_1
  generalize hg_F_s_l15Chain_2 : F_s_l15Chain_2 = g_F_s_l15Chain_2
  generalize hg_Q_s_l15Chain : Q_s_l15Chain = g_Q_s_l15Chain
  generalize hR0 : F_s_ChainAt d head = R0
  generalize Q_s_ChainAt d head = Q0
  generalize hL : Lg.std = L
  generalize hA : Alg.std = A
  cbv
  subst hL hA
  try dsimp only [Ty.den]
  obtain ⟨d_0, d_1, ⟨⟩⟩ := d
  have hgd := fun h => (diskFault_good (d_0, d_1, PUnit.unit) h).w
  subst hR0 hg_F_s_DiskFault hg_Q_s_DiskFault hg_F_s_l15Chain hg_F_s_l15Chain_1 hg_F_s_l15Chain_2 hg_Q_s_l15Chain
  simp only [Lg.std, Alg.std, List.drop_zero, List.take_length, F_s_DiskFault, F_s_l15Chain, F_s_l15Chain_1, F_s_l15Chain_2, Q_s_DiskFault, Q_s_l15Chain, F_s_ChainAt, chainAt] at *
  try simp only [true_and, and_true, false_implies, implies_true, imp_self]
  generalize hG : GoodW (d_0, d_1, PUnit.unit) 64 = G at *
  repeat' (first | intro _ | apply And.intro)
  all_goals grind
def con_s_ChainAt : Con := ⟨true, g2 (pD (.pair (.sl (.sl (.int .u8))) (.pair (.sl (.pair (.int .i64) (.pair (.sl (.int .u8)) .unit))) .unit))) (pD (.int .i64)) fun d head => ⟨[Q_s_ChainAt d head], [⟨(.pair (.int .i64) (.pair (.sl (.int .u8)) (.pair (.sl (.int .i64)) .unit))), (.pr .sh (.pr (.ow .sh) (.pr (.ow .sh) .sh))), F_s_ChainAt d head⟩], []⟩, [], false⟩
theorem ok_s_ChainAt : ConOk pg 56 con_s_ChainAt := ConOk.g2 (Enters.of (by kernel_rfl)) ct_s_ChainAt

def F_w_FnExactChainAt (d : (List (List (Int))) × (List ((Int) × (List (Int)) × Unit)) × Unit) (i : Int) : Bool := true
def Q_w_FnExactChainAt (d : (List (List (Int))) × (List ((Int) × (List (Int)) × Unit)) × Unit) (i : Int) : Prop := True
def O_w_FnExactChainAt : Opt := ⟨fun i => false, fun i => [], fun i => (match decide (i = 10) with | true => (.alt 0 (.alt 1 (.alt 2 (.alt 3 (.take 4 .done) .no) .no) .no) (.alt 1 (.alt 0 (.alt 2 (.alt 3 (.take 4 .done) .no) .no) (.alt 2 (.alt 0 (.alt 3 (.take 4 .done) .no) .no) .no)) .no)) | false => .done), fun i => (match decide (i = 10) with | true => some [false, true, true, false, false, false, true, true, true, false, false, false, false, false, false, false, false, false, false, false, false, false, false, false, false, false, false, false, false, false, false, false, false, false, false, true, false, false, false, false, false, false, false, false, false, false, false, false, false, false, false, false, false, false, false, false, false, false, false, false, false, false, false, false, false, false, false, false, false, false, false, false, false, false] | false => none), fun i => false, fun i => []⟩
def τ_w_FnExactChainAt : Env := Env.of [(2, (.int .i64)), (3, (.int .i64)), (4, .bool), (25, (.pair (.sl (.sl (.int .u8))) (.pair (.sl (.pair (.int .i64) (.pair (.sl (.int .u8)) .unit))) .unit))), (30, (.pair (.sl (.sl (.int .u8))) (.pair (.sl (.pair (.int .i64) (.pair (.sl (.int .u8)) .unit))) .unit))), (82, (.pair (.int .i64) (.pair (.sl (.int .u8)) (.pair (.sl (.int .i64)) .unit))))] [] []

theorem ct_w_FnExactChainAt (d : (List (List (Int))) × (List ((Int) × (List (Int)) × Unit)) × Unit) (i : Int) : Ct pg 9 [.dat (.pair (.sl (.sl (.int .u8))) (.pair (.sl (.pair (.int .i64) (.pair (.sl (.int .u8)) .unit))) .unit)) d, .dat (.int .i64) i] ⟨[Q_w_FnExactChainAt d i], [⟨.bool, .sh, F_w_FnExactChainAt d i⟩], []⟩ := by
  refine ct_claim (O := O_w_FnExactChainAt) (τ := τ_w_FnExactChainAt) (EnvOk.of (by kernel_rfl) (by kernel_rfl)) (GOk.of (.cons ok_w_toDisk (.cons ok_w_eqDisk (.cons ok_w_szDisk (.cons ok_w_markDisk (.cons ok_w_eqChainResult (.cons ok_w_markChainResult (.cons ok_w_heldChainResult (.cons ok_i_ChainAt (.cons ok_s_ChainAt .nil)))))))) : AllOk pg [(16, con_w_toDisk), (20, con_w_eqDisk), (14, con_w_szDisk), (22, con_w_markDisk), (58, con_w_eqChainResult), (59, con_w_markChainResult), (60, con_w_heldChainResult), (57, con_i_ChainAt), (56, con_s_ChainAt)])) mixed (Enters.of (by kernel_rfl)) (fn := Go.Proofs.Try.f9) (by kernel_rfl) rfl (by kernel_rfl) ?_
  intro hp hw
  have hq : Q_w_FnExactChainAt d i := hp _ (List.mem_singleton.2 rfl)
  clear hp
  change claim Lg.std Alg.std τ_w_FnExactChainAt (Gam.of [(16, ⟨true, g1 (pD (.pair (.sl (.sl (.int .u8))) (.pair (.sl (.pair (.int .i64) (.pair (.sl (.int .u8)) .unit))) .unit))) fun a => ⟨[Q_w_toDisk a], [⟨(.pair (.sl (.sl (.int .u8))) (.pair (.sl (.pair (.int .i64) (.pair (.sl (.int .u8)) .unit))) .unit)), (.pr (.ow (.ow .sh)) (.pr (.ow (.pr .sh (.pr (.ow .sh) .sh))) .sh)), F_w_toDisk a⟩], []⟩, [], false⟩), (20, ⟨true, g2 (pD (.pair (.sl (.sl (.int .u8))) (.pair (.sl (.pair (.int .i64) (.pair (.sl (.int .u8)) .unit))) .unit))) (pD (.pair (.sl (.sl (.int .u8))) (.pair (.sl (.pair (.int .i64) (.pair (.sl (.int .u8)) .unit))) .unit))) fun a b => ⟨[Q_w_eqDisk a b], [⟨.bool, .sh, F_w_eqDisk a b⟩], []⟩, [], false⟩), (14, ⟨true, g2 (pD (.pair (.sl (.sl (.int .u8))) (.pair (.sl (.pair (.int .i64) (.pair (.sl (.int .u8)) .unit))) .unit))) (pD (.int .i64)) fun a left => ⟨[Q_w_szDisk a left], [⟨(.int .i64), .sh, F_w_szDisk a left⟩], []⟩, [], false⟩), (22, ⟨true, g2 (pV (.pair (.sl (.sl (.int .u8))) (.pair (.sl (.pair (.int .i64) (.pair (.sl (.int .u8)) .unit))) .unit)) (.pr (.ow (.ow .sh)) (.pr (.ow (.pr .sh (.pr (.ow .sh) .sh))) .sh))) (pD (.int .i64)) fun a k => ⟨[Q_w_markDisk a k], [⟨(.int .i64), .sh, F_w_markDisk a k⟩], [.mv (.pair (.sl (.sl (.int .u8))) (.pair (.sl (.pair (.int .i64) (.pair (.sl (.int .u8)) .unit))) .unit)) (.pr (.ow (.ow .sh)) (.pr (.ow (.pr .sh (.pr (.ow .sh) .sh))) .sh)) (B_w_markDisk_a a k)]⟩, [(.pr (.ow (.ow .sh)) (.pr (.ow (.pr .sh (.pr (.ow .sh) .sh))) .sh))], false⟩), (58, ⟨true, g2 (pD (.pair (.int .i64) (.pair (.sl (.int .u8)) (.pair (.sl (.int .i64)) .unit)))) (pD (.pair (.int .i64) (.pair (.sl (.int .u8)) (.pair (.sl (.int .i64)) .unit)))) fun a b => ⟨[Q_w_eqChainResult a b], [⟨.bool, .sh, F_w_eqChainResult a b⟩], []⟩, [], false⟩), (59, ⟨true, g2 (pV (.pair (.int .i64) (.pair (.sl (.int .u8)) (.pair (.sl (.int .i64)) .unit))) (.pr .sh (.pr (.ow .sh) (.pr (.ow .sh) .sh)))) (pD (.int .i64)) fun a k => ⟨[Q_w_markChainResult a k], [⟨(.int .i64), .sh, F_w_markChainResult a k⟩], [.mv (.pair (.int .i64) (.pair (.sl (.int .u8)) (.pair (.sl (.int .i64)) .unit))) (.pr .sh (.pr (.ow .sh) (.pr (.ow .sh) .sh))) (B_w_markChainResult_a a k)]⟩, [(.pr .sh (.pr (.ow .sh) (.pr (.ow .sh) .sh)))], false⟩), (60, ⟨true, g2 (pD (.pair (.int .i64) (.pair (.sl (.int .u8)) (.pair (.sl (.int .i64)) .unit)))) (pD (.int .i64)) fun a k => ⟨[Q_w_heldChainResult a k], [⟨(.int .i64), .sh, F_w_heldChainResult a k⟩], []⟩, [], false⟩), (57, ⟨true, g2 (pD (.pair (.sl (.sl (.int .u8))) (.pair (.sl (.pair (.int .i64) (.pair (.sl (.int .u8)) .unit))) .unit))) (pD (.int .i64)) fun d head => ⟨[Q_i_ChainAt d head], [⟨(.pair (.int .i64) (.pair (.sl (.int .u8)) (.pair (.sl (.int .i64)) .unit))), (.pr .sh (.pr (.ow .sh) (.pr (.ow .sh) .sh))), F_i_ChainAt d head⟩], []⟩, [], false⟩), (56, ⟨true, g2 (pD (.pair (.sl (.sl (.int .u8))) (.pair (.sl (.pair (.int .i64) (.pair (.sl (.int .u8)) .unit))) .unit))) (pD (.int .i64)) fun d head => ⟨[Q_s_ChainAt d head], [⟨(.pair (.int .i64) (.pair (.sl (.int .u8)) (.pair (.sl (.int .i64)) .unit))), (.pr .sh (.pr (.ow .sh) (.pr (.ow .sh) .sh))), F_s_ChainAt d head⟩], []⟩, [], false⟩)]) O_w_FnExactChainAt Go.Proofs.Try.f9 [.dat (.pair (.sl (.sl (.int .u8))) (.pair (.sl (.pair (.int .i64) (.pair (.sl (.int .u8)) .unit))) .unit)) d, .dat (.int .i64) i] ⟨[Q_w_FnExactChainAt d i], [⟨.bool, .sh, F_w_FnExactChainAt d i⟩], []⟩
  generalize hg_F_w_toDisk : F_w_toDisk = g_F_w_toDisk
  generalize hg_Q_w_toDisk : Q_w_toDisk = g_Q_w_toDisk
  generalize hg_F_w_eqDisk : F_w_eqDisk = g_F_w_eqDisk
  generalize hg_Q_w_eqDisk : Q_w_eqDisk = g_Q_w_eqDisk
  generalize hg_F_w_szDisk : F_w_szDisk = g_F_w_szDisk
  generalize hg_Q_w_szDisk : Q_w_szDisk = g_Q_w_szDisk
  generalize hg_F_w_markDisk : F_w_markDisk = g_F_w_markDisk
  generalize hg_B_w_markDisk_a : B_w_markDisk_a = g_B_w_markDisk_a
  generalize hg_Q_w_markDisk : Q_w_markDisk = g_Q_w_markDisk
  generalize hg_F_w_eqChainResult : F_w_eqChainResult = g_F_w_eqChainResult
  generalize hg_Q_w_eqChainResult : Q_w_eqChainResult = g_Q_w_eqChainResult
  generalize hg_F_w_markChainResult : F_w_markChainResult = g_F_w_markChainResult
  generalize hg_B_w_markChainResult_a : B_w_markChainResult_a = g_B_w_markChainResult_a
  generalize hg_Q_w_markChainResult : Q_w_markChainResult = g_Q_w_markChainResult
  generalize hg_F_w_heldChainResult : F_w_heldChainResult = g_F_w_heldChainResult
  generalize hg_Q_w_heldChainResult : Q_w_heldChainResult = g_Q_w_heldChainResult
  generalize hg_F_i_ChainAt : F_i_ChainAt = g_F_i_ChainAt
  generalize hg_Q_i_ChainAt : Q_i_ChainAt = g_Q_i_ChainAt
  generalize hg_F_s_ChainAt : F_s_ChainAt = g_F_s_ChainAt
  generalize hg_Q_s_ChainAt : Q_s_ChainAt = g_Q_s_ChainAt
  generalize hR0 : F_w_FnExactChainAt d i = R0
  generalize Q_w_FnExactChainAt d i = Q0
  generalize hL : Lg.std = L
  generalize hA : Alg.std = A
  cbv
  subst hL hA
  try dsimp only [Ty.den]
  obtain ⟨d_0, d_1, ⟨⟩⟩ := d
  have hct_d := cnt_tot (.pair (.sl (.sl (.int .u8))) (.pair (.sl (.pair (.int .i64) (.pair (.sl (.int .u8)) .unit))) .unit)) (d_0, d_1, PUnit.unit) (by decide)
  have hcn := chainAt_len (d_0, d_1, PUnit.unit) i
  have hc0 : cnt false (.pair (.int .i64) (.pair (.sl (.int .u8)) (.pair (.sl (.int .i64)) .unit))) (chainAt (d_0, d_1, PUnit.unit) i) ≤ 900 := by
    simp only [szf, tot_p, tot_u, tot_i, tot_b, tot_s, cnt_p, cnt_u, cnt_i0, cnt_b0, cnt_s0, cnt_i1, cnt_b1, cnt_s1, cnt_l, mk_p, mk_u, mk_i0, mk_b0, mk_s0, mk_i1, mk_s1, mk_l, hd_p, hd_u, hd_i0, hd_b0, hd_s0, hd_i1, hd_b1, hd_s1, hd_l, cnt_int]
    omega
  subst hR0 hg_F_w_toDisk hg_Q_w_toDisk hg_F_w_eqDisk hg_Q_w_eqDisk hg_F_w_szDisk hg_Q_w_szDisk hg_F_w_markDisk hg_B_w_markDisk_a hg_Q_w_markDisk hg_F_w_eqChainResult hg_Q_w_eqChainResult hg_F_w_markChainResult hg_B_w_markChainResult_a hg_Q_w_markChainResult hg_F_w_heldChainResult hg_Q_w_heldChainResult hg_F_i_ChainAt hg_Q_i_ChainAt hg_F_s_ChainAt hg_Q_s_ChainAt
  simp only [Lg.std, Alg.std, List.drop_zero, List.take_length, F_w_toDisk, F_w_eqDisk, F_w_szDisk, F_w_markDisk, F_w_eqChainResult, F_w_markChainResult, F_w_heldChainResult, F_i_ChainAt, F_s_ChainAt, B_w_markDisk_a, B_w_markChainResult_a, Q_w_toDisk, Q_w_eqDisk, Q_w_szDisk, Q_w_markDisk, Q_w_eqChainResult, Q_w_markChainResult, Q_w_heldChainResult, Q_i_ChainAt, Q_s_ChainAt, F_w_FnExactChainAt]
  generalize hW : (chainAt (d_0, d_1, PUnit.unit) i : (Int) × (List (Int)) × (List (Int)) × Unit) = w at *
  clear hW
  obtain ⟨w_0, w_1, w_2, ⟨⟩⟩ := w
  try dsimp only at *
  have hm := hd_mk false (.pair (.int .i64) (.pair (.sl (.int .u8)) (.pair (.sl (.int .i64)) .unit))) (w_0, w_1, w_2, PUnit.unit) 1 (by omega)

  have mt_w_1 := fun k => mk_take false (.int .u8) w_1 k
  dsimp only [Ty.den] at mt_w_1
  have mt_w_2 := fun k => mk_take false (.int .i64) w_2 k
  dsimp only [Ty.den] at mt_w_2
  simp only [tot_p, tot_u, tot_i, tot_b, tot_s, cnt_p, cnt_u, cnt_i0, cnt_b0, cnt_s0, cnt_i1, cnt_b1, cnt_s1, cnt_l, mk_p, mk_u, mk_i0, mk_b0, mk_s0, mk_i1, mk_s1, mk_l, hd_p, hd_u, hd_i0, hd_b0, hd_s0, hd_i1, hd_b1, hd_s1, hd_l, mt_w_1, mt_w_2] at *
  repeat' (first | intro _ | apply And.intro)
  all_goals grind [szf, cnt_mk, hd_mk]
def con_w_FnExactChainAt : Con := ⟨true, g2 (pD (.pair (.sl (.sl (.int .u8))) (.pair (.sl (.pair (.int .i64) (.pair (.sl (.int .u8)) .unit))) .unit))) (pD (.int .i64)) fun d i => ⟨[Q_w_FnExactChainAt d i], [⟨.bool, .sh, F_w_FnExactChainAt d i⟩], []⟩, [], false⟩
theorem ok_w_FnExactChainAt : ConOk pg 9 con_w_FnExactChainAt := ConOk.g2 (Enters.of (by kernel_rfl)) ct_w_FnExactChainAt
end Go.Vee
