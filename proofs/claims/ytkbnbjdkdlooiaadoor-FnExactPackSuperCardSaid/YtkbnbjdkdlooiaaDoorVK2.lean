/-
  Contracts of functions of the program: what each returns for all arguments that its precondition lets in.
-/
import Derived.Test.YtkbnbjdkdlooiaaDoorVK1
set_option linter.unusedSimpArgs false
set_option linter.unusedVariables false
set_option maxRecDepth 100000
set_option maxHeartbeats 4000000
set_option synthInstance.maxHeartbeats 4000000
set_option synthInstance.maxSize 20000
namespace Go.Vee
open Go
def F_w_eqBytesResult (a : (Int) × (List (Int)) × Unit) (b : (Int) × (List (Int)) × Unit) : Bool := decide (a = b)
def Q_w_eqBytesResult (a : (Int) × (List (Int)) × Unit) (b : (Int) × (List (Int)) × Unit) : Prop := True
def O_w_eqBytesResult : Opt := ⟨fun i => false, fun i => [], fun i => .done, fun i => none, fun i => false, fun i => [], fun i => false, fun i => none⟩
def τ_w_eqBytesResult : Env := Env.of [(2, (.int .i64)), (4, .bool), (22, (.sl (.int .u8))), (59, (.pair (.int .i64) (.pair (.sl (.int .u8)) .unit)))] [] []

theorem ct_w_eqBytesResult (a : (Int) × (List (Int)) × Unit) (b : (Int) × (List (Int)) × Unit) : Ct pg 33 [.dat (.pair (.int .i64) (.pair (.sl (.int .u8)) .unit)) a, .dat (.pair (.int .i64) (.pair (.sl (.int .u8)) .unit)) b] ⟨[Q_w_eqBytesResult a b], [⟨.bool, .sh, F_w_eqBytesResult a b⟩], []⟩ := by
  refine ct_claim (O := O_w_eqBytesResult) (τ := τ_w_eqBytesResult) (EnvOk.of (by kernel_rfl) (by kernel_rfl)) (GOk.of (.cons ok_w_eqByteS .nil : AllOk pg [(18, con_w_eqByteS)])) mixed (Enters.of (by kernel_rfl)) (fn := Go.Proofs.Tryd.f33) (by kernel_rfl) rfl (by kernel_rfl) ?_
  intro hp hw
  have hq : Q_w_eqBytesResult a b := hp _ (List.mem_singleton.2 rfl)
  clear hp
  change claim Lg.std Alg.std τ_w_eqBytesResult (Gam.of [(18, ⟨true, g2 (pD (.sl (.int .u8))) (pD (.sl (.int .u8))) fun a b => ⟨[Q_w_eqByteS a b], [⟨.bool, .sh, F_w_eqByteS a b⟩], []⟩, [], false, 0⟩)]) O_w_eqBytesResult Go.Proofs.Tryd.f33 [.dat (.pair (.int .i64) (.pair (.sl (.int .u8)) .unit)) a, .dat (.pair (.int .i64) (.pair (.sl (.int .u8)) .unit)) b] ⟨[Q_w_eqBytesResult a b], [⟨.bool, .sh, F_w_eqBytesResult a b⟩], []⟩
  generalize hg_F_w_eqByteS : F_w_eqByteS = g_F_w_eqByteS
  generalize hg_Q_w_eqByteS : Q_w_eqByteS = g_Q_w_eqByteS
  generalize hR0 : F_w_eqBytesResult a b = R0
  generalize Q_w_eqBytesResult a b = Q0
  generalize hL : Lg.std = L
  generalize hA : Alg.std = A
  cbv
  subst hL hA
  try dsimp only [Ty.den]
  obtain ⟨f0, f1, ⟨⟩⟩ := a
  obtain ⟨g0, g1, ⟨⟩⟩ := b
  subst hR0 hg_F_w_eqByteS hg_Q_w_eqByteS
  simp only [Q_w_eqBytesResult] at hq
  simp only [Lg.std, Alg.std, List.drop_zero, List.take_length, F_w_eqByteS, Q_w_eqByteS, F_w_eqBytesResult]
  all_goals grind
def con_w_eqBytesResult : Con := ⟨true, g2 (pD (.pair (.int .i64) (.pair (.sl (.int .u8)) .unit))) (pD (.pair (.int .i64) (.pair (.sl (.int .u8)) .unit))) fun a b => ⟨[Q_w_eqBytesResult a b], [⟨.bool, .sh, F_w_eqBytesResult a b⟩], []⟩, [], false, 0⟩
theorem ok_w_eqBytesResult : ConOk pg 33 con_w_eqBytesResult := ConOk.g2 (Enters.of (by kernel_rfl)) ct_w_eqBytesResult

def F_w_markBytesResult (a : (Int) × (List (Int)) × Unit) (k : Int) : Int := k + cnt false (.pair (.int .i64) (.pair (.sl (.int .u8)) .unit)) a
def B_w_markBytesResult_a (a : (Int) × (List (Int)) × Unit) (k : Int) : (Int) × (List (Int)) × Unit := mk false (.pair (.int .i64) (.pair (.sl (.int .u8)) .unit)) a k
def Q_w_markBytesResult (a : (Int) × (List (Int)) × Unit) (k : Int) : Prop := 0 ≤ k ∧ k + cnt false (.pair (.int .i64) (.pair (.sl (.int .u8)) .unit)) a ≤ 4611686018427387904
def O_w_markBytesResult : Opt := ⟨fun i => false, fun i => [], fun i => .done, fun i => none, fun i => false, fun i => [], fun i => false, fun i => none⟩
def τ_w_markBytesResult : Env := Env.of [(3, (.int .i64)), (4, .bool), (22, (.sl (.int .u8))), (59, (.pair (.int .i64) (.pair (.sl (.int .u8)) .unit)))] [] []

theorem ct_w_markBytesResult (a : (Int) × (List (Int)) × Unit) (k : Int) : Ct pg 35 [.mv (.pair (.int .i64) (.pair (.sl (.int .u8)) .unit)) (.pr .sh (.pr (.ow .sh) .sh)) a, .dat (.int .i64) k] ⟨[Q_w_markBytesResult a k], [⟨(.int .i64), .sh, F_w_markBytesResult a k⟩], [.mv (.pair (.int .i64) (.pair (.sl (.int .u8)) .unit)) (.pr .sh (.pr (.ow .sh) .sh)) (B_w_markBytesResult_a a k)]⟩ := by
  refine ct_claim (O := O_w_markBytesResult) (τ := τ_w_markBytesResult) (EnvOk.of (by kernel_rfl) (by kernel_rfl)) (GOk.of (.cons ok_w_markByteS .nil : AllOk pg [(19, con_w_markByteS)])) mixed (Enters.of (by kernel_rfl)) (fn := Go.Proofs.Tryd.f35) (by kernel_rfl) rfl (by kernel_rfl) ?_
  intro hp hw
  have hq : Q_w_markBytesResult a k := hp _ (List.mem_singleton.2 rfl)
  clear hp
  change claim Lg.std Alg.std τ_w_markBytesResult (Gam.of [(19, ⟨true, g2 (pV (.sl (.int .u8)) (.ow .sh)) (pD (.int .i64)) fun a k => ⟨[Q_w_markByteS a k], [⟨(.int .i64), .sh, F_w_markByteS a k⟩], [.mv (.sl (.int .u8)) (.ow .sh) (B_w_markByteS_a a k)]⟩, [(.ow .sh)], false, 0⟩)]) O_w_markBytesResult Go.Proofs.Tryd.f35 [.mv (.pair (.int .i64) (.pair (.sl (.int .u8)) .unit)) (.pr .sh (.pr (.ow .sh) .sh)) a, .dat (.int .i64) k] ⟨[Q_w_markBytesResult a k], [⟨(.int .i64), .sh, F_w_markBytesResult a k⟩], [.mv (.pair (.int .i64) (.pair (.sl (.int .u8)) .unit)) (.pr .sh (.pr (.ow .sh) .sh)) (B_w_markBytesResult_a a k)]⟩
  generalize hg_F_w_markByteS : F_w_markByteS = g_F_w_markByteS
  generalize hg_B_w_markByteS_a : B_w_markByteS_a = g_B_w_markByteS_a
  generalize hg_Q_w_markByteS : Q_w_markByteS = g_Q_w_markByteS
  generalize hR0 : F_w_markBytesResult a k = R0
  generalize hB_a : B_w_markBytesResult_a a k = B_a
  generalize Q_w_markBytesResult a k = Q0
  generalize hL : Lg.std = L
  generalize hA : Alg.std = A
  cbv
  subst hL hA
  try dsimp only [Ty.den]
  obtain ⟨f0, f1, ⟨⟩⟩ := a
  simp only [Q_w_markBytesResult] at hq
  subst hR0 hB_a hg_F_w_markByteS hg_B_w_markByteS_a hg_Q_w_markByteS
  simp only [Lg.std, Alg.std, List.drop_zero, List.take_length, F_w_markByteS, B_w_markByteS_a, Q_w_markByteS, F_w_markBytesResult, B_w_markBytesResult_a, szf, tot_p, tot_u, tot_i, tot_b, tot_s, cnt_p, cnt_u, cnt_i0, cnt_b0, cnt_s0, cnt_i1, cnt_b1, cnt_s1, cnt_l, mk_p, mk_u, mk_i0, mk_b0, mk_s0, mk_i1, mk_s1, mk_l, hd_p, hd_u, hd_i0, hd_b0, hd_s0, hd_i1, hd_b1, hd_s1, hd_l] at *
  all_goals grind [mk_len]
def con_w_markBytesResult : Con := ⟨true, g2 (pV (.pair (.int .i64) (.pair (.sl (.int .u8)) .unit)) (.pr .sh (.pr (.ow .sh) .sh))) (pD (.int .i64)) fun a k => ⟨[Q_w_markBytesResult a k], [⟨(.int .i64), .sh, F_w_markBytesResult a k⟩], [.mv (.pair (.int .i64) (.pair (.sl (.int .u8)) .unit)) (.pr .sh (.pr (.ow .sh) .sh)) (B_w_markBytesResult_a a k)]⟩, [(.pr .sh (.pr (.ow .sh) .sh))], false, 0⟩
theorem ok_w_markBytesResult : ConOk pg 35 con_w_markBytesResult := ConOk.g2 (Enters.of (by kernel_rfl)) ct_w_markBytesResult

def F_w_heldBytesResult (a : (Int) × (List (Int)) × Unit) (k : Int) : Int := hd false (.pair (.int .i64) (.pair (.sl (.int .u8)) .unit)) a k
def Q_w_heldBytesResult (a : (Int) × (List (Int)) × Unit) (k : Int) : Prop := 0 ≤ k ∧ k + cnt false (.pair (.int .i64) (.pair (.sl (.int .u8)) .unit)) a ≤ 4611686018427387904
def O_w_heldBytesResult : Opt := ⟨fun i => false, fun i => [], fun i => .done, fun i => none, fun i => false, fun i => [], fun i => false, fun i => none⟩
def τ_w_heldBytesResult : Env := Env.of [(3, (.int .i64)), (4, .bool), (22, (.sl (.int .u8))), (59, (.pair (.int .i64) (.pair (.sl (.int .u8)) .unit)))] [] []

theorem ct_w_heldBytesResult (a : (Int) × (List (Int)) × Unit) (k : Int) : Ct pg 36 [.dat (.pair (.int .i64) (.pair (.sl (.int .u8)) .unit)) a, .dat (.int .i64) k] ⟨[Q_w_heldBytesResult a k], [⟨(.int .i64), .sh, F_w_heldBytesResult a k⟩], []⟩ := by
  refine ct_claim (O := O_w_heldBytesResult) (τ := τ_w_heldBytesResult) (EnvOk.of (by kernel_rfl) (by kernel_rfl)) (GOk.of (.cons ok_w_heldByteS .nil : AllOk pg [(73, con_w_heldByteS)])) mixed (Enters.of (by kernel_rfl)) (fn := Go.Proofs.Tryd.f36) (by kernel_rfl) rfl (by kernel_rfl) ?_
  intro hp hw
  have hq : Q_w_heldBytesResult a k := hp _ (List.mem_singleton.2 rfl)
  clear hp
  change claim Lg.std Alg.std τ_w_heldBytesResult (Gam.of [(73, ⟨true, g2 (pD (.sl (.int .u8))) (pD (.int .i64)) fun a k => ⟨[Q_w_heldByteS a k], [⟨(.int .i64), .sh, F_w_heldByteS a k⟩], []⟩, [], false, 0⟩)]) O_w_heldBytesResult Go.Proofs.Tryd.f36 [.dat (.pair (.int .i64) (.pair (.sl (.int .u8)) .unit)) a, .dat (.int .i64) k] ⟨[Q_w_heldBytesResult a k], [⟨(.int .i64), .sh, F_w_heldBytesResult a k⟩], []⟩
  generalize hg_F_w_heldByteS : F_w_heldByteS = g_F_w_heldByteS
  generalize hg_Q_w_heldByteS : Q_w_heldByteS = g_Q_w_heldByteS
  generalize hR0 : F_w_heldBytesResult a k = R0
  generalize Q_w_heldBytesResult a k = Q0
  generalize hL : Lg.std = L
  generalize hA : Alg.std = A
  cbv
  subst hL hA
  try dsimp only [Ty.den]
  obtain ⟨f0, f1, ⟨⟩⟩ := a
  have ho1 := fun k h => hd_or false (.sl (.int .u8)) f1 k h
  simp only [Q_w_heldBytesResult] at hq
  subst hR0 hg_F_w_heldByteS hg_Q_w_heldByteS
  simp only [Lg.std, Alg.std, List.drop_zero, List.take_length, F_w_heldByteS, Q_w_heldByteS, F_w_heldBytesResult, szf, tot_p, tot_u, tot_i, tot_b, tot_s, cnt_p, cnt_u, cnt_i0, cnt_b0, cnt_s0, cnt_i1, cnt_b1, cnt_s1, cnt_l, mk_p, mk_u, mk_i0, mk_b0, mk_s0, mk_i1, mk_s1, mk_l, hd_p, hd_u, hd_i0, hd_b0, hd_s0, hd_i1, hd_b1, hd_s1, hd_l] at *
  all_goals grind [mk_len]
def con_w_heldBytesResult : Con := ⟨true, g2 (pD (.pair (.int .i64) (.pair (.sl (.int .u8)) .unit))) (pD (.int .i64)) fun a k => ⟨[Q_w_heldBytesResult a k], [⟨(.int .i64), .sh, F_w_heldBytesResult a k⟩], []⟩, [], false, 0⟩
theorem ok_w_heldBytesResult : ConOk pg 36 con_w_heldBytesResult := ConOk.g2 (Enters.of (by kernel_rfl)) ct_w_heldBytesResult
end Go.Vee
