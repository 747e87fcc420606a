/-
  Contracts of functions of the program: what each returns for all arguments that its precondition lets in.
-/
import Derived.Test.YtoomfdnohpkepaaVK4
set_option linter.unusedSimpArgs false
set_option linter.unusedVariables false
set_option maxRecDepth 100000
set_option maxHeartbeats 4000000
set_option synthInstance.maxHeartbeats 4000000
set_option synthInstance.maxSize 20000
namespace Go.Vee
open Go
def F_w_eqNode (a : (Bool) × (List (List (Int))) × (List (Int)) × (List (Int)) × Unit) (b : (Bool) × (List (List (Int))) × (List (Int)) × (List (Int)) × Unit) : Bool := decide (a = b)
def Q_w_eqNode (a : (Bool) × (List (List (Int))) × (List (Int)) × (List (Int)) × Unit) (b : (Bool) × (List (List (Int))) × (List (Int)) × (List (Int)) × Unit) : Prop := True
def O_w_eqNode : Opt := ⟨fun i => false, fun i => [], fun i => .done, fun i => none, fun i => false, fun i => []⟩
def τ_w_eqNode : Env := Env.of [(2, (.int .i64)), (3, (.int .i64)), (4, .bool), (22, (.sl (.sl (.int .u8)))), (43, (.sl (.int .i64))), (88, (.pair .bool (.pair (.sl (.sl (.int .u8))) (.pair (.sl (.int .i64)) (.pair (.sl (.int .i64)) .unit)))))] [] []

theorem ct_w_eqNode (a : (Bool) × (List (List (Int))) × (List (Int)) × (List (Int)) × Unit) (b : (Bool) × (List (List (Int))) × (List (Int)) × (List (Int)) × Unit) : Ct pg 128 [.dat (.pair .bool (.pair (.sl (.sl (.int .u8))) (.pair (.sl (.int .i64)) (.pair (.sl (.int .i64)) .unit)))) a, .dat (.pair .bool (.pair (.sl (.sl (.int .u8))) (.pair (.sl (.int .i64)) (.pair (.sl (.int .i64)) .unit)))) b] ⟨[Q_w_eqNode a b], [⟨.bool, .sh, F_w_eqNode a b⟩], []⟩ := by
  refine ct_claim (O := O_w_eqNode) (τ := τ_w_eqNode) (EnvOk.of (by kernel_rfl) (by kernel_rfl)) (GOk.of (.cons ok_w_eqInt64S (.cons ok_w_eqByteSS .nil) : AllOk pg [(29, con_w_eqInt64S), (92, con_w_eqByteSS)])) mixed (Enters.of (by kernel_rfl)) (fn := Go.Proofs.Try.f128) (by kernel_rfl) rfl (by kernel_rfl) ?_
  intro hp hw
  have hq : Q_w_eqNode a b := hp _ (List.mem_singleton.2 rfl)
  clear hp
  change claim Lg.std Alg.std τ_w_eqNode (Gam.of [(29, ⟨true, g2 (pD (.sl (.int .i64))) (pD (.sl (.int .i64))) fun a b => ⟨[Q_w_eqInt64S a b], [⟨.bool, .sh, F_w_eqInt64S a b⟩], []⟩, []⟩), (92, ⟨true, g2 (pD (.sl (.sl (.int .u8)))) (pD (.sl (.sl (.int .u8)))) fun a b => ⟨[Q_w_eqByteSS a b], [⟨.bool, .sh, F_w_eqByteSS a b⟩], []⟩, []⟩)]) O_w_eqNode Go.Proofs.Try.f128 [.dat (.pair .bool (.pair (.sl (.sl (.int .u8))) (.pair (.sl (.int .i64)) (.pair (.sl (.int .i64)) .unit)))) a, .dat (.pair .bool (.pair (.sl (.sl (.int .u8))) (.pair (.sl (.int .i64)) (.pair (.sl (.int .i64)) .unit)))) b] ⟨[Q_w_eqNode a b], [⟨.bool, .sh, F_w_eqNode a b⟩], []⟩
  generalize hg_F_w_eqInt64S : F_w_eqInt64S = g_F_w_eqInt64S
  generalize hg_Q_w_eqInt64S : Q_w_eqInt64S = g_Q_w_eqInt64S
  generalize hg_F_w_eqByteSS : F_w_eqByteSS = g_F_w_eqByteSS
  generalize hg_Q_w_eqByteSS : Q_w_eqByteSS = g_Q_w_eqByteSS
  generalize hR0 : F_w_eqNode a b = R0
  generalize Q_w_eqNode a b = Q0
  generalize hL : Lg.std = L
  generalize hA : Alg.std = A
  cbv
  subst hL hA
  try dsimp only [Ty.den]
  obtain ⟨f0, f1, f2, f3, ⟨⟩⟩ := a
  obtain ⟨g0, g1, g2, g3, ⟨⟩⟩ := b
  subst hR0 hg_F_w_eqInt64S hg_Q_w_eqInt64S hg_F_w_eqByteSS hg_Q_w_eqByteSS
  simp only [Q_w_eqNode] at hq
  simp only [Lg.std, Alg.std, List.drop_zero, List.take_length, F_w_eqInt64S, F_w_eqByteSS, Q_w_eqInt64S, Q_w_eqByteSS, F_w_eqNode]
  all_goals grind
def con_w_eqNode : Con := ⟨true, g2 (pD (.pair .bool (.pair (.sl (.sl (.int .u8))) (.pair (.sl (.int .i64)) (.pair (.sl (.int .i64)) .unit))))) (pD (.pair .bool (.pair (.sl (.sl (.int .u8))) (.pair (.sl (.int .i64)) (.pair (.sl (.int .i64)) .unit))))) fun a b => ⟨[Q_w_eqNode a b], [⟨.bool, .sh, F_w_eqNode a b⟩], []⟩, []⟩
theorem ok_w_eqNode : ConOk pg 128 con_w_eqNode := ConOk.g2 (Enters.of (by kernel_rfl)) ct_w_eqNode

def F_w_markNode (a : (Bool) × (List (List (Int))) × (List (Int)) × (List (Int)) × Unit) (k : Int) : Int := k + cnt false (.pair .bool (.pair (.sl (.sl (.int .u8))) (.pair (.sl (.int .i64)) (.pair (.sl (.int .i64)) .unit)))) a
def B_w_markNode_a (a : (Bool) × (List (List (Int))) × (List (Int)) × (List (Int)) × Unit) (k : Int) : (Bool) × (List (List (Int))) × (List (Int)) × (List (Int)) × Unit := mk false (.pair .bool (.pair (.sl (.sl (.int .u8))) (.pair (.sl (.int .i64)) (.pair (.sl (.int .i64)) .unit)))) a k
def Q_w_markNode (a : (Bool) × (List (List (Int))) × (List (Int)) × (List (Int)) × Unit) (k : Int) : Prop := 0 ≤ k ∧ k + cnt false (.pair .bool (.pair (.sl (.sl (.int .u8))) (.pair (.sl (.int .i64)) (.pair (.sl (.int .i64)) .unit)))) a ≤ 4611686018427387904
def O_w_markNode : Opt := ⟨fun i => false, fun i => [], fun i => .done, fun i => none, fun i => false, fun i => []⟩
def τ_w_markNode : Env := Env.of [(2, (.int .i64)), (3, (.int .i64)), (4, .bool), (22, (.sl (.sl (.int .u8)))), (43, (.sl (.int .i64))), (88, (.pair .bool (.pair (.sl (.sl (.int .u8))) (.pair (.sl (.int .i64)) (.pair (.sl (.int .i64)) .unit)))))] [] []

theorem ct_w_markNode (a : (Bool) × (List (List (Int))) × (List (Int)) × (List (Int)) × Unit) (k : Int) : Ct pg 129 [.mv (.pair .bool (.pair (.sl (.sl (.int .u8))) (.pair (.sl (.int .i64)) (.pair (.sl (.int .i64)) .unit)))) (.pr .sh (.pr (.ow (.ow .sh)) (.pr (.ow .sh) (.pr (.ow .sh) .sh)))) a, .dat (.int .i64) k] ⟨[Q_w_markNode a k], [⟨(.int .i64), .sh, F_w_markNode a k⟩], [.mv (.pair .bool (.pair (.sl (.sl (.int .u8))) (.pair (.sl (.int .i64)) (.pair (.sl (.int .i64)) .unit)))) (.pr .sh (.pr (.ow (.ow .sh)) (.pr (.ow .sh) (.pr (.ow .sh) .sh)))) (B_w_markNode_a a k)]⟩ := by
  refine ct_claim (O := O_w_markNode) (τ := τ_w_markNode) (EnvOk.of (by kernel_rfl) (by kernel_rfl)) (GOk.of (.cons ok_w_markInt64S (.cons ok_w_markByteSS .nil) : AllOk pg [(30, con_w_markInt64S), (94, con_w_markByteSS)])) mixed (Enters.of (by kernel_rfl)) (fn := Go.Proofs.Try.f129) (by kernel_rfl) rfl (by kernel_rfl) ?_
  intro hp hw
  have hq : Q_w_markNode a k := hp _ (List.mem_singleton.2 rfl)
  clear hp
  change claim Lg.std Alg.std τ_w_markNode (Gam.of [(30, ⟨true, g2 (pV (.sl (.int .i64)) (.ow .sh)) (pD (.int .i64)) fun a k => ⟨[Q_w_markInt64S a k], [⟨(.int .i64), .sh, F_w_markInt64S a k⟩], [.mv (.sl (.int .i64)) (.ow .sh) (B_w_markInt64S_a a k)]⟩, [(.ow .sh)]⟩), (94, ⟨true, g2 (pV (.sl (.sl (.int .u8))) (.ow (.ow .sh))) (pD (.int .i64)) fun a k => ⟨[Q_w_markByteSS a k], [⟨(.int .i64), .sh, F_w_markByteSS a k⟩], [.mv (.sl (.sl (.int .u8))) (.ow (.ow .sh)) (B_w_markByteSS_a a k)]⟩, [(.ow (.ow .sh))]⟩)]) O_w_markNode Go.Proofs.Try.f129 [.mv (.pair .bool (.pair (.sl (.sl (.int .u8))) (.pair (.sl (.int .i64)) (.pair (.sl (.int .i64)) .unit)))) (.pr .sh (.pr (.ow (.ow .sh)) (.pr (.ow .sh) (.pr (.ow .sh) .sh)))) a, .dat (.int .i64) k] ⟨[Q_w_markNode a k], [⟨(.int .i64), .sh, F_w_markNode a k⟩], [.mv (.pair .bool (.pair (.sl (.sl (.int .u8))) (.pair (.sl (.int .i64)) (.pair (.sl (.int .i64)) .unit)))) (.pr .sh (.pr (.ow (.ow .sh)) (.pr (.ow .sh) (.pr (.ow .sh) .sh)))) (B_w_markNode_a a k)]⟩
  generalize hg_F_w_markInt64S : F_w_markInt64S = g_F_w_markInt64S
  generalize hg_B_w_markInt64S_a : B_w_markInt64S_a = g_B_w_markInt64S_a
  generalize hg_Q_w_markInt64S : Q_w_markInt64S = g_Q_w_markInt64S
  generalize hg_F_w_markByteSS : F_w_markByteSS = g_F_w_markByteSS
  generalize hg_B_w_markByteSS_a : B_w_markByteSS_a = g_B_w_markByteSS_a
  generalize hg_Q_w_markByteSS : Q_w_markByteSS = g_Q_w_markByteSS
  generalize hR0 : F_w_markNode a k = R0
  generalize hB_a : B_w_markNode_a a k = B_a
  generalize Q_w_markNode a k = Q0
  generalize hL : Lg.std = L
  generalize hA : Alg.std = A
  cbv
  subst hL hA
  try dsimp only [Ty.den]
  obtain ⟨f0, f1, f2, f3, ⟨⟩⟩ := a
  simp only [Q_w_markNode] at hq
  subst hR0 hB_a hg_F_w_markInt64S hg_B_w_markInt64S_a hg_Q_w_markInt64S hg_F_w_markByteSS hg_B_w_markByteSS_a hg_Q_w_markByteSS
  simp only [Lg.std, Alg.std, List.drop_zero, List.take_length, F_w_markInt64S, F_w_markByteSS, B_w_markInt64S_a, B_w_markByteSS_a, Q_w_markInt64S, Q_w_markByteSS, F_w_markNode, B_w_markNode_a, szf, tot_p, tot_u, tot_i, tot_b, tot_s, cnt_p, cnt_u, cnt_i0, cnt_b0, cnt_s0, cnt_i1, cnt_b1, cnt_s1, cnt_l, mk_p, mk_u, mk_i0, mk_b0, mk_s0, mk_i1, mk_s1, mk_l, hd_p, hd_u, hd_i0, hd_b0, hd_s0, hd_i1, hd_b1, hd_s1, hd_l] at *
  all_goals grind [mk_len]
def con_w_markNode : Con := ⟨true, g2 (pV (.pair .bool (.pair (.sl (.sl (.int .u8))) (.pair (.sl (.int .i64)) (.pair (.sl (.int .i64)) .unit)))) (.pr .sh (.pr (.ow (.ow .sh)) (.pr (.ow .sh) (.pr (.ow .sh) .sh))))) (pD (.int .i64)) fun a k => ⟨[Q_w_markNode a k], [⟨(.int .i64), .sh, F_w_markNode a k⟩], [.mv (.pair .bool (.pair (.sl (.sl (.int .u8))) (.pair (.sl (.int .i64)) (.pair (.sl (.int .i64)) .unit)))) (.pr .sh (.pr (.ow (.ow .sh)) (.pr (.ow .sh) (.pr (.ow .sh) .sh)))) (B_w_markNode_a a k)]⟩, [(.pr .sh (.pr (.ow (.ow .sh)) (.pr (.ow .sh) (.pr (.ow .sh) .sh))))]⟩
theorem ok_w_markNode : ConOk pg 129 con_w_markNode := ConOk.g2 (Enters.of (by kernel_rfl)) ct_w_markNode

def F_w_heldNode (a : (Bool) × (List (List (Int))) × (List (Int)) × (List (Int)) × Unit) (k : Int) : Int := hd false (.pair .bool (.pair (.sl (.sl (.int .u8))) (.pair (.sl (.int .i64)) (.pair (.sl (.int .i64)) .unit)))) a k
def Q_w_heldNode (a : (Bool) × (List (List (Int))) × (List (Int)) × (List (Int)) × Unit) (k : Int) : Prop := 0 ≤ k ∧ k + cnt false (.pair .bool (.pair (.sl (.sl (.int .u8))) (.pair (.sl (.int .i64)) (.pair (.sl (.int .i64)) .unit)))) a ≤ 4611686018427387904
def O_w_heldNode : Opt := ⟨fun i => false, fun i => [], fun i => .done, fun i => none, fun i => false, fun i => []⟩
def τ_w_heldNode : Env := Env.of [(2, (.int .i64)), (3, (.int .i64)), (4, .bool), (22, (.sl (.sl (.int .u8)))), (43, (.sl (.int .i64))), (88, (.pair .bool (.pair (.sl (.sl (.int .u8))) (.pair (.sl (.int .i64)) (.pair (.sl (.int .i64)) .unit)))))] [] []

theorem ct_w_heldNode (a : (Bool) × (List (List (Int))) × (List (Int)) × (List (Int)) × Unit) (k : Int) : Ct pg 130 [.dat (.pair .bool (.pair (.sl (.sl (.int .u8))) (.pair (.sl (.int .i64)) (.pair (.sl (.int .i64)) .unit)))) a, .dat (.int .i64) k] ⟨[Q_w_heldNode a k], [⟨(.int .i64), .sh, F_w_heldNode a k⟩], []⟩ := by
  refine ct_claim (O := O_w_heldNode) (τ := τ_w_heldNode) (EnvOk.of (by kernel_rfl) (by kernel_rfl)) (GOk.of (.cons ok_w_heldInt64S (.cons ok_w_heldByteSS .nil) : AllOk pg [(109, con_w_heldInt64S), (154, con_w_heldByteSS)])) mixed (Enters.of (by kernel_rfl)) (fn := Go.Proofs.Try.f130) (by kernel_rfl) rfl (by kernel_rfl) ?_
  intro hp hw
  have hq : Q_w_heldNode a k := hp _ (List.mem_singleton.2 rfl)
  clear hp
  change claim Lg.std Alg.std τ_w_heldNode (Gam.of [(109, ⟨true, g2 (pD (.sl (.int .i64))) (pD (.int .i64)) fun a k => ⟨[Q_w_heldInt64S a k], [⟨(.int .i64), .sh, F_w_heldInt64S a k⟩], []⟩, []⟩), (154, ⟨true, g2 (pD (.sl (.sl (.int .u8)))) (pD (.int .i64)) fun a k => ⟨[Q_w_heldByteSS a k], [⟨(.int .i64), .sh, F_w_heldByteSS a k⟩], []⟩, []⟩)]) O_w_heldNode Go.Proofs.Try.f130 [.dat (.pair .bool (.pair (.sl (.sl (.int .u8))) (.pair (.sl (.int .i64)) (.pair (.sl (.int .i64)) .unit)))) a, .dat (.int .i64) k] ⟨[Q_w_heldNode a k], [⟨(.int .i64), .sh, F_w_heldNode a k⟩], []⟩
  generalize hg_F_w_heldInt64S : F_w_heldInt64S = g_F_w_heldInt64S
  generalize hg_Q_w_heldInt64S : Q_w_heldInt64S = g_Q_w_heldInt64S
  generalize hg_F_w_heldByteSS : F_w_heldByteSS = g_F_w_heldByteSS
  generalize hg_Q_w_heldByteSS : Q_w_heldByteSS = g_Q_w_heldByteSS
  generalize hR0 : F_w_heldNode a k = R0
  generalize Q_w_heldNode a k = Q0
  generalize hL : Lg.std = L
  generalize hA : Alg.std = A
  cbv
  subst hL hA
  try dsimp only [Ty.den]
  obtain ⟨f0, f1, f2, f3, ⟨⟩⟩ := a
  have ho1 := fun k h => hd_or false (.sl (.sl (.int .u8))) f1 k h
  have ho2 := fun k h => hd_or false (.sl (.int .i64)) f2 k h
  have ho3 := fun k h => hd_or false (.sl (.int .i64)) f3 k h
  simp only [Q_w_heldNode] at hq
  subst hR0 hg_F_w_heldInt64S hg_Q_w_heldInt64S hg_F_w_heldByteSS hg_Q_w_heldByteSS
  simp only [Lg.std, Alg.std, List.drop_zero, List.take_length, F_w_heldInt64S, F_w_heldByteSS, Q_w_heldInt64S, Q_w_heldByteSS, F_w_heldNode, szf, tot_p, tot_u, tot_i, tot_b, tot_s, cnt_p, cnt_u, cnt_i0, cnt_b0, cnt_s0, cnt_i1, cnt_b1, cnt_s1, cnt_l, mk_p, mk_u, mk_i0, mk_b0, mk_s0, mk_i1, mk_s1, mk_l, hd_p, hd_u, hd_i0, hd_b0, hd_s0, hd_i1, hd_b1, hd_s1, hd_l] at *
  all_goals grind [mk_len]
def con_w_heldNode : Con := ⟨true, g2 (pD (.pair .bool (.pair (.sl (.sl (.int .u8))) (.pair (.sl (.int .i64)) (.pair (.sl (.int .i64)) .unit))))) (pD (.int .i64)) fun a k => ⟨[Q_w_heldNode a k], [⟨(.int .i64), .sh, F_w_heldNode a k⟩], []⟩, []⟩
theorem ok_w_heldNode : ConOk pg 130 con_w_heldNode := ConOk.g2 (Enters.of (by kernel_rfl)) ct_w_heldNode
end Go.Vee
