/-
  Contracts of functions of the program: what each returns for all arguments that its precondition lets in.
-/
import Derived.Test.YtcdlgemhmmkneaaVK4
set_option linter.unusedSimpArgs false
set_option linter.unusedVariables false
set_option maxRecDepth 100000
set_option maxHeartbeats 4000000
set_option synthInstance.maxHeartbeats 400000
set_option synthInstance.maxSize 2000
namespace Go.Vee
open Go
def F_w_toNode (a : (Bool) × (List (List (Int))) × (List (Int)) × (List (Int)) × Unit) : (Bool) × (List (List (Int))) × (List (Int)) × (List (Int)) × Unit := a
def Q_w_toNode (a : (Bool) × (List (List (Int))) × (List (Int)) × (List (Int)) × Unit) : Prop := tot (.pair .bool (.pair (.sl (.sl (.int .u8))) (.pair (.sl (.int .i64)) (.pair (.sl (.int .i64)) .unit)))) a ≤ 1048576
def O_w_toNode : Opt := ⟨fun i => false, fun i => [], fun i => .done, fun i => none⟩
def τ_w_toNode : Env := Env.of [(2, (.int .i64)), (3, (.int .i64)), (4, .bool), (43, (.sl (.sl (.int .u8)))), (44, (.sl (.int .i64))), (46, (.pair .bool (.pair (.sl (.sl (.int .u8))) (.pair (.sl (.int .i64)) (.pair (.sl (.int .i64)) .unit))))), (49, (.pair .bool (.pair (.sl (.sl (.int .u8))) (.pair (.sl (.int .i64)) (.pair (.sl (.int .i64)) .unit)))))] []

theorem ct_w_toNode (a : (Bool) × (List (List (Int))) × (List (Int)) × (List (Int)) × Unit) : Ct pg 33 [.dat (.pair .bool (.pair (.sl (.sl (.int .u8))) (.pair (.sl (.int .i64)) (.pair (.sl (.int .i64)) .unit)))) a] ⟨[Q_w_toNode a], [⟨(.pair .bool (.pair (.sl (.sl (.int .u8))) (.pair (.sl (.int .i64)) (.pair (.sl (.int .i64)) .unit)))), (.pr .sh (.pr (.ow (.ow .sh)) (.pr (.ow .sh) (.pr (.ow .sh) .sh)))), F_w_toNode a⟩], []⟩ := by
  refine ct_claim (O := O_w_toNode) (τ := τ_w_toNode) (EnvOk.of (by kernel_rfl)) (GOk.of (.cons ok_w_toInt64S (.cons ok_w_toByteSS .nil) : AllOk pg [(89, con_w_toInt64S), (88, con_w_toByteSS)])) mixed (Enters.of (by kernel_rfl)) (fn := Go.Proofs.Try.f33) (by kernel_rfl) rfl (by kernel_rfl) ?_
  intro hp hw
  have hq : Q_w_toNode a := hp _ (List.mem_singleton.2 rfl)
  clear hp
  change claim Lg.std Alg.std τ_w_toNode (Gam.of [(89, ⟨true, g1 (pD (.sl (.int .i64))) fun a => ⟨[Q_w_toInt64S a], [⟨(.sl (.int .i64)), (.ow .sh), F_w_toInt64S a⟩], []⟩, []⟩), (88, ⟨true, g1 (pD (.sl (.sl (.int .u8)))) fun a => ⟨[Q_w_toByteSS a], [⟨(.sl (.sl (.int .u8))), (.ow (.ow .sh)), F_w_toByteSS a⟩], []⟩, []⟩)]) O_w_toNode Go.Proofs.Try.f33 [.dat (.pair .bool (.pair (.sl (.sl (.int .u8))) (.pair (.sl (.int .i64)) (.pair (.sl (.int .i64)) .unit)))) a] ⟨[Q_w_toNode a], [⟨(.pair .bool (.pair (.sl (.sl (.int .u8))) (.pair (.sl (.int .i64)) (.pair (.sl (.int .i64)) .unit)))), (.pr .sh (.pr (.ow (.ow .sh)) (.pr (.ow .sh) (.pr (.ow .sh) .sh)))), F_w_toNode a⟩], []⟩
  generalize hg_F_w_toInt64S : F_w_toInt64S = g_F_w_toInt64S
  generalize hg_Q_w_toInt64S : Q_w_toInt64S = g_Q_w_toInt64S
  generalize hg_F_w_toByteSS : F_w_toByteSS = g_F_w_toByteSS
  generalize hg_Q_w_toByteSS : Q_w_toByteSS = g_Q_w_toByteSS
  generalize hR0 : F_w_toNode a = R0
  generalize Q_w_toNode a = Q0
  generalize hL : Lg.std = L
  generalize hA : Alg.std = A
  cbv
  subst hL hA
  try dsimp only [Ty.den]
  obtain ⟨f0, f1, f2, f3, ⟨⟩⟩ := a
  simp only [Q_w_toNode] at hq
  subst hR0 hg_F_w_toInt64S hg_Q_w_toInt64S hg_F_w_toByteSS hg_Q_w_toByteSS
  simp only [Lg.std, Alg.std, List.drop_zero, List.take_length, F_w_toInt64S, F_w_toByteSS, Q_w_toInt64S, Q_w_toByteSS, F_w_toNode, szf, tot_p, tot_u, tot_i, tot_b, tot_s, cnt_p, cnt_u, cnt_i0, cnt_b0, cnt_s0, cnt_i1, cnt_b1, cnt_s1, cnt_l, mk_p, mk_u, mk_i0, mk_b0, mk_s0, mk_i1, mk_s1, mk_l, hd_p, hd_u, hd_i0, hd_b0, hd_s0, hd_i1, hd_b1, hd_s1, hd_l] at *
  all_goals grind [mk_len]
def con_w_toNode : Con := ⟨true, g1 (pD (.pair .bool (.pair (.sl (.sl (.int .u8))) (.pair (.sl (.int .i64)) (.pair (.sl (.int .i64)) .unit))))) fun a => ⟨[Q_w_toNode a], [⟨(.pair .bool (.pair (.sl (.sl (.int .u8))) (.pair (.sl (.int .i64)) (.pair (.sl (.int .i64)) .unit)))), (.pr .sh (.pr (.ow (.ow .sh)) (.pr (.ow .sh) (.pr (.ow .sh) .sh)))), F_w_toNode a⟩], []⟩, []⟩
theorem ok_w_toNode : ConOk pg 33 con_w_toNode := ConOk.g1 (Enters.of (by kernel_rfl)) ct_w_toNode

def F_w_eqNode (a : (Bool) × (List (List (Int))) × (List (Int)) × (List (Int)) × Unit) (b : (Bool) × (List (List (Int))) × (List (Int)) × (List (Int)) × Unit) : Bool := decide (a = b)
def Q_w_eqNode (a : (Bool) × (List (List (Int))) × (List (Int)) × (List (Int)) × Unit) (b : (Bool) × (List (List (Int))) × (List (Int)) × (List (Int)) × Unit) : Prop := True
def O_w_eqNode : Opt := ⟨fun i => false, fun i => [], fun i => .done, fun i => none⟩
def τ_w_eqNode : Env := Env.of [(2, (.int .i64)), (3, (.int .i64)), (4, .bool), (43, (.sl (.sl (.int .u8)))), (44, (.sl (.int .i64))), (49, (.pair .bool (.pair (.sl (.sl (.int .u8))) (.pair (.sl (.int .i64)) (.pair (.sl (.int .i64)) .unit)))))] []

theorem ct_w_eqNode (a : (Bool) × (List (List (Int))) × (List (Int)) × (List (Int)) × Unit) (b : (Bool) × (List (List (Int))) × (List (Int)) × (List (Int)) × Unit) : Ct pg 35 [.dat (.pair .bool (.pair (.sl (.sl (.int .u8))) (.pair (.sl (.int .i64)) (.pair (.sl (.int .i64)) .unit)))) a, .dat (.pair .bool (.pair (.sl (.sl (.int .u8))) (.pair (.sl (.int .i64)) (.pair (.sl (.int .i64)) .unit)))) b] ⟨[Q_w_eqNode a b], [⟨.bool, .sh, F_w_eqNode a b⟩], []⟩ := by
  refine ct_claim (O := O_w_eqNode) (τ := τ_w_eqNode) (EnvOk.of (by kernel_rfl)) (GOk.of (.cons ok_w_eqInt64S (.cons ok_w_eqByteSS .nil) : AllOk pg [(93, con_w_eqInt64S), (92, con_w_eqByteSS)])) mixed (Enters.of (by kernel_rfl)) (fn := Go.Proofs.Try.f35) (by kernel_rfl) rfl (by kernel_rfl) ?_
  intro hp hw
  have hq : Q_w_eqNode a b := hp _ (List.mem_singleton.2 rfl)
  clear hp
  change claim Lg.std Alg.std τ_w_eqNode (Gam.of [(93, ⟨true, g2 (pD (.sl (.int .i64))) (pD (.sl (.int .i64))) fun a b => ⟨[Q_w_eqInt64S a b], [⟨.bool, .sh, F_w_eqInt64S a b⟩], []⟩, []⟩), (92, ⟨true, g2 (pD (.sl (.sl (.int .u8)))) (pD (.sl (.sl (.int .u8)))) fun a b => ⟨[Q_w_eqByteSS a b], [⟨.bool, .sh, F_w_eqByteSS a b⟩], []⟩, []⟩)]) O_w_eqNode Go.Proofs.Try.f35 [.dat (.pair .bool (.pair (.sl (.sl (.int .u8))) (.pair (.sl (.int .i64)) (.pair (.sl (.int .i64)) .unit)))) a, .dat (.pair .bool (.pair (.sl (.sl (.int .u8))) (.pair (.sl (.int .i64)) (.pair (.sl (.int .i64)) .unit)))) b] ⟨[Q_w_eqNode a b], [⟨.bool, .sh, F_w_eqNode a b⟩], []⟩
  generalize hg_F_w_eqInt64S : F_w_eqInt64S = g_F_w_eqInt64S
  generalize hg_Q_w_eqInt64S : Q_w_eqInt64S = g_Q_w_eqInt64S
  generalize hg_F_w_eqByteSS : F_w_eqByteSS = g_F_w_eqByteSS
  generalize hg_Q_w_eqByteSS : Q_w_eqByteSS = g_Q_w_eqByteSS
  generalize hR0 : F_w_eqNode a b = R0
  generalize Q_w_eqNode a b = Q0
  generalize hL : Lg.std = L
  generalize hA : Alg.std = A
  cbv
  subst hL hA
  try dsimp only [Ty.den]
  obtain ⟨f0, f1, f2, f3, ⟨⟩⟩ := a
  obtain ⟨g0, g1, g2, g3, ⟨⟩⟩ := b
  subst hR0 hg_F_w_eqInt64S hg_Q_w_eqInt64S hg_F_w_eqByteSS hg_Q_w_eqByteSS
  simp only [Q_w_eqNode] at hq
  simp only [Lg.std, Alg.std, List.drop_zero, List.take_length, F_w_eqInt64S, F_w_eqByteSS, Q_w_eqInt64S, Q_w_eqByteSS, F_w_eqNode]
  all_goals grind
def con_w_eqNode : Con := ⟨true, g2 (pD (.pair .bool (.pair (.sl (.sl (.int .u8))) (.pair (.sl (.int .i64)) (.pair (.sl (.int .i64)) .unit))))) (pD (.pair .bool (.pair (.sl (.sl (.int .u8))) (.pair (.sl (.int .i64)) (.pair (.sl (.int .i64)) .unit))))) fun a b => ⟨[Q_w_eqNode a b], [⟨.bool, .sh, F_w_eqNode a b⟩], []⟩, []⟩
theorem ok_w_eqNode : ConOk pg 35 con_w_eqNode := ConOk.g2 (Enters.of (by kernel_rfl)) ct_w_eqNode

def F_w_szNode (a : (Bool) × (List (List (Int))) × (List (Int)) × (List (Int)) × Unit) (left : Int) : Int := szf (tot (.pair .bool (.pair (.sl (.sl (.int .u8))) (.pair (.sl (.int .i64)) (.pair (.sl (.int .i64)) .unit)))) a) left
def Q_w_szNode (a : (Bool) × (List (List (Int))) × (List (Int)) × (List (Int)) × Unit) (left : Int) : Prop := 0 ≤ left ∧ left ≤ 1048576
def O_w_szNode : Opt := ⟨fun i => false, fun i => [], fun i => .done, fun i => none⟩
def τ_w_szNode : Env := Env.of [(2, (.int .i64)), (3, (.int .i64)), (4, .bool), (43, (.sl (.sl (.int .u8)))), (44, (.sl (.int .i64))), (46, (.pair .bool (.pair (.sl (.sl (.int .u8))) (.pair (.sl (.int .i64)) (.pair (.sl (.int .i64)) .unit)))))] []

theorem ct_w_szNode (a : (Bool) × (List (List (Int))) × (List (Int)) × (List (Int)) × Unit) (left : Int) : Ct pg 31 [.dat (.pair .bool (.pair (.sl (.sl (.int .u8))) (.pair (.sl (.int .i64)) (.pair (.sl (.int .i64)) .unit)))) a, .dat (.int .i64) left] ⟨[Q_w_szNode a left], [⟨(.int .i64), .sh, F_w_szNode a left⟩], []⟩ := by
  refine ct_claim (O := O_w_szNode) (τ := τ_w_szNode) (EnvOk.of (by kernel_rfl)) (GOk.of (.cons ok_w_szInt64S (.cons ok_w_szByteSS .nil) : AllOk pg [(86, con_w_szInt64S), (85, con_w_szByteSS)])) mixed (Enters.of (by kernel_rfl)) (fn := Go.Proofs.Try.f31) (by kernel_rfl) rfl (by kernel_rfl) ?_
  intro hp hw
  have hq : Q_w_szNode a left := hp _ (List.mem_singleton.2 rfl)
  clear hp
  change claim Lg.std Alg.std τ_w_szNode (Gam.of [(86, ⟨true, g2 (pD (.sl (.int .i64))) (pD (.int .i64)) fun a left => ⟨[Q_w_szInt64S a left], [⟨(.int .i64), .sh, F_w_szInt64S a left⟩], []⟩, []⟩), (85, ⟨true, g2 (pD (.sl (.sl (.int .u8)))) (pD (.int .i64)) fun a left => ⟨[Q_w_szByteSS a left], [⟨(.int .i64), .sh, F_w_szByteSS a left⟩], []⟩, []⟩)]) O_w_szNode Go.Proofs.Try.f31 [.dat (.pair .bool (.pair (.sl (.sl (.int .u8))) (.pair (.sl (.int .i64)) (.pair (.sl (.int .i64)) .unit)))) a, .dat (.int .i64) left] ⟨[Q_w_szNode a left], [⟨(.int .i64), .sh, F_w_szNode a left⟩], []⟩
  generalize hg_F_w_szInt64S : F_w_szInt64S = g_F_w_szInt64S
  generalize hg_Q_w_szInt64S : Q_w_szInt64S = g_Q_w_szInt64S
  generalize hg_F_w_szByteSS : F_w_szByteSS = g_F_w_szByteSS
  generalize hg_Q_w_szByteSS : Q_w_szByteSS = g_Q_w_szByteSS
  generalize hR0 : F_w_szNode a left = R0
  generalize Q_w_szNode a left = Q0
  generalize hL : Lg.std = L
  generalize hA : Alg.std = A
  cbv
  subst hL hA
  try dsimp only [Ty.den]
  obtain ⟨f0, f1, f2, f3, ⟨⟩⟩ := a
  simp only [Q_w_szNode] at hq
  subst hR0 hg_F_w_szInt64S hg_Q_w_szInt64S hg_F_w_szByteSS hg_Q_w_szByteSS
  simp only [Lg.std, Alg.std, List.drop_zero, List.take_length, F_w_szInt64S, F_w_szByteSS, Q_w_szInt64S, Q_w_szByteSS, F_w_szNode, szf, tot_p, tot_u, tot_i, tot_b, tot_s, cnt_p, cnt_u, cnt_i0, cnt_b0, cnt_s0, cnt_i1, cnt_b1, cnt_s1, cnt_l, mk_p, mk_u, mk_i0, mk_b0, mk_s0, mk_i1, mk_s1, mk_l, hd_p, hd_u, hd_i0, hd_b0, hd_s0, hd_i1, hd_b1, hd_s1, hd_l] at *
  all_goals grind [mk_len]
def con_w_szNode : Con := ⟨true, g2 (pD (.pair .bool (.pair (.sl (.sl (.int .u8))) (.pair (.sl (.int .i64)) (.pair (.sl (.int .i64)) .unit))))) (pD (.int .i64)) fun a left => ⟨[Q_w_szNode a left], [⟨(.int .i64), .sh, F_w_szNode a left⟩], []⟩, []⟩
theorem ok_w_szNode : ConOk pg 31 con_w_szNode := ConOk.g2 (Enters.of (by kernel_rfl)) ct_w_szNode

def F_w_markNode (a : (Bool) × (List (List (Int))) × (List (Int)) × (List (Int)) × Unit) (k : Int) : Int := k + cnt false (.pair .bool (.pair (.sl (.sl (.int .u8))) (.pair (.sl (.int .i64)) (.pair (.sl (.int .i64)) .unit)))) a
def B_w_markNode_a (a : (Bool) × (List (List (Int))) × (List (Int)) × (List (Int)) × Unit) (k : Int) : (Bool) × (List (List (Int))) × (List (Int)) × (List (Int)) × Unit := mk false (.pair .bool (.pair (.sl (.sl (.int .u8))) (.pair (.sl (.int .i64)) (.pair (.sl (.int .i64)) .unit)))) a k
def Q_w_markNode (a : (Bool) × (List (List (Int))) × (List (Int)) × (List (Int)) × Unit) (k : Int) : Prop := 0 ≤ k ∧ k + cnt false (.pair .bool (.pair (.sl (.sl (.int .u8))) (.pair (.sl (.int .i64)) (.pair (.sl (.int .i64)) .unit)))) a ≤ 4611686018427387904
def O_w_markNode : Opt := ⟨fun i => false, fun i => [], fun i => .done, fun i => none⟩
def τ_w_markNode : Env := Env.of [(2, (.int .i64)), (3, (.int .i64)), (4, .bool), (43, (.sl (.sl (.int .u8)))), (44, (.sl (.int .i64))), (49, (.pair .bool (.pair (.sl (.sl (.int .u8))) (.pair (.sl (.int .i64)) (.pair (.sl (.int .i64)) .unit)))))] []

theorem ct_w_markNode (a : (Bool) × (List (List (Int))) × (List (Int)) × (List (Int)) × Unit) (k : Int) : Ct pg 63 [.mv (.pair .bool (.pair (.sl (.sl (.int .u8))) (.pair (.sl (.int .i64)) (.pair (.sl (.int .i64)) .unit)))) (.pr .sh (.pr (.ow (.ow .sh)) (.pr (.ow .sh) (.pr (.ow .sh) .sh)))) a, .dat (.int .i64) k] ⟨[Q_w_markNode a k], [⟨(.int .i64), .sh, F_w_markNode a k⟩], [.mv (.pair .bool (.pair (.sl (.sl (.int .u8))) (.pair (.sl (.int .i64)) (.pair (.sl (.int .i64)) .unit)))) (.pr .sh (.pr (.ow (.ow .sh)) (.pr (.ow .sh) (.pr (.ow .sh) .sh)))) (B_w_markNode_a a k)]⟩ := by
  refine ct_claim (O := O_w_markNode) (τ := τ_w_markNode) (EnvOk.of (by kernel_rfl)) (GOk.of (.cons ok_w_markInt64S (.cons ok_w_markByteSS .nil) : AllOk pg [(126, con_w_markInt64S), (125, con_w_markByteSS)])) mixed (Enters.of (by kernel_rfl)) (fn := Go.Proofs.Try.f63) (by kernel_rfl) rfl (by kernel_rfl) ?_
  intro hp hw
  have hq : Q_w_markNode a k := hp _ (List.mem_singleton.2 rfl)
  clear hp
  change claim Lg.std Alg.std τ_w_markNode (Gam.of [(126, ⟨true, g2 (pV (.sl (.int .i64)) (.ow .sh)) (pD (.int .i64)) fun a k => ⟨[Q_w_markInt64S a k], [⟨(.int .i64), .sh, F_w_markInt64S a k⟩], [.mv (.sl (.int .i64)) (.ow .sh) (B_w_markInt64S_a a k)]⟩, [(.ow .sh)]⟩), (125, ⟨true, g2 (pV (.sl (.sl (.int .u8))) (.ow (.ow .sh))) (pD (.int .i64)) fun a k => ⟨[Q_w_markByteSS a k], [⟨(.int .i64), .sh, F_w_markByteSS a k⟩], [.mv (.sl (.sl (.int .u8))) (.ow (.ow .sh)) (B_w_markByteSS_a a k)]⟩, [(.ow (.ow .sh))]⟩)]) O_w_markNode Go.Proofs.Try.f63 [.mv (.pair .bool (.pair (.sl (.sl (.int .u8))) (.pair (.sl (.int .i64)) (.pair (.sl (.int .i64)) .unit)))) (.pr .sh (.pr (.ow (.ow .sh)) (.pr (.ow .sh) (.pr (.ow .sh) .sh)))) a, .dat (.int .i64) k] ⟨[Q_w_markNode a k], [⟨(.int .i64), .sh, F_w_markNode a k⟩], [.mv (.pair .bool (.pair (.sl (.sl (.int .u8))) (.pair (.sl (.int .i64)) (.pair (.sl (.int .i64)) .unit)))) (.pr .sh (.pr (.ow (.ow .sh)) (.pr (.ow .sh) (.pr (.ow .sh) .sh)))) (B_w_markNode_a a k)]⟩
  generalize hg_F_w_markInt64S : F_w_markInt64S = g_F_w_markInt64S
  generalize hg_B_w_markInt64S_a : B_w_markInt64S_a = g_B_w_markInt64S_a
  generalize hg_Q_w_markInt64S : Q_w_markInt64S = g_Q_w_markInt64S
  generalize hg_F_w_markByteSS : F_w_markByteSS = g_F_w_markByteSS
  generalize hg_B_w_markByteSS_a : B_w_markByteSS_a = g_B_w_markByteSS_a
  generalize hg_Q_w_markByteSS : Q_w_markByteSS = g_Q_w_markByteSS
  generalize hR0 : F_w_markNode a k = R0
  generalize hB_a : B_w_markNode_a a k = B_a
  generalize Q_w_markNode a k = Q0
  generalize hL : Lg.std = L
  generalize hA : Alg.std = A
  cbv
  subst hL hA
  try dsimp only [Ty.den]
  obtain ⟨f0, f1, f2, f3, ⟨⟩⟩ := a
  simp only [Q_w_markNode] at hq
  subst hR0 hB_a hg_F_w_markInt64S hg_B_w_markInt64S_a hg_Q_w_markInt64S hg_F_w_markByteSS hg_B_w_markByteSS_a hg_Q_w_markByteSS
  simp only [Lg.std, Alg.std, List.drop_zero, List.take_length, F_w_markInt64S, F_w_markByteSS, B_w_markInt64S_a, B_w_markByteSS_a, Q_w_markInt64S, Q_w_markByteSS, F_w_markNode, B_w_markNode_a, szf, tot_p, tot_u, tot_i, tot_b, tot_s, cnt_p, cnt_u, cnt_i0, cnt_b0, cnt_s0, cnt_i1, cnt_b1, cnt_s1, cnt_l, mk_p, mk_u, mk_i0, mk_b0, mk_s0, mk_i1, mk_s1, mk_l, hd_p, hd_u, hd_i0, hd_b0, hd_s0, hd_i1, hd_b1, hd_s1, hd_l] at *
  all_goals grind [mk_len]
def con_w_markNode : Con := ⟨true, g2 (pV (.pair .bool (.pair (.sl (.sl (.int .u8))) (.pair (.sl (.int .i64)) (.pair (.sl (.int .i64)) .unit)))) (.pr .sh (.pr (.ow (.ow .sh)) (.pr (.ow .sh) (.pr (.ow .sh) .sh))))) (pD (.int .i64)) fun a k => ⟨[Q_w_markNode a k], [⟨(.int .i64), .sh, F_w_markNode a k⟩], [.mv (.pair .bool (.pair (.sl (.sl (.int .u8))) (.pair (.sl (.int .i64)) (.pair (.sl (.int .i64)) .unit)))) (.pr .sh (.pr (.ow (.ow .sh)) (.pr (.ow .sh) (.pr (.ow .sh) .sh)))) (B_w_markNode_a a k)]⟩, [(.pr .sh (.pr (.ow (.ow .sh)) (.pr (.ow .sh) (.pr (.ow .sh) .sh))))]⟩
theorem ok_w_markNode : ConOk pg 63 con_w_markNode := ConOk.g2 (Enters.of (by kernel_rfl)) ct_w_markNode

def F_w_heldNode (a : (Bool) × (List (List (Int))) × (List (Int)) × (List (Int)) × Unit) (k : Int) : Int := hd false (.pair .bool (.pair (.sl (.sl (.int .u8))) (.pair (.sl (.int .i64)) (.pair (.sl (.int .i64)) .unit)))) a k
def Q_w_heldNode (a : (Bool) × (List (List (Int))) × (List (Int)) × (List (Int)) × Unit) (k : Int) : Prop := 0 ≤ k ∧ k + cnt false (.pair .bool (.pair (.sl (.sl (.int .u8))) (.pair (.sl (.int .i64)) (.pair (.sl (.int .i64)) .unit)))) a ≤ 4611686018427387904
def O_w_heldNode : Opt := ⟨fun i => false, fun i => [], fun i => .done, fun i => none⟩
def τ_w_heldNode : Env := Env.of [(2, (.int .i64)), (3, (.int .i64)), (4, .bool), (43, (.sl (.sl (.int .u8)))), (44, (.sl (.int .i64))), (49, (.pair .bool (.pair (.sl (.sl (.int .u8))) (.pair (.sl (.int .i64)) (.pair (.sl (.int .i64)) .unit)))))] []

theorem ct_w_heldNode (a : (Bool) × (List (List (Int))) × (List (Int)) × (List (Int)) × Unit) (k : Int) : Ct pg 132 [.dat (.pair .bool (.pair (.sl (.sl (.int .u8))) (.pair (.sl (.int .i64)) (.pair (.sl (.int .i64)) .unit)))) a, .dat (.int .i64) k] ⟨[Q_w_heldNode a k], [⟨(.int .i64), .sh, F_w_heldNode a k⟩], []⟩ := by
  refine ct_claim (O := O_w_heldNode) (τ := τ_w_heldNode) (EnvOk.of (by kernel_rfl)) (GOk.of (.cons ok_w_heldInt64S (.cons ok_w_heldByteSS .nil) : AllOk pg [(156, con_w_heldInt64S), (155, con_w_heldByteSS)])) mixed (Enters.of (by kernel_rfl)) (fn := Go.Proofs.Try.f132) (by kernel_rfl) rfl (by kernel_rfl) ?_
  intro hp hw
  have hq : Q_w_heldNode a k := hp _ (List.mem_singleton.2 rfl)
  clear hp
  change claim Lg.std Alg.std τ_w_heldNode (Gam.of [(156, ⟨true, g2 (pD (.sl (.int .i64))) (pD (.int .i64)) fun a k => ⟨[Q_w_heldInt64S a k], [⟨(.int .i64), .sh, F_w_heldInt64S a k⟩], []⟩, []⟩), (155, ⟨true, g2 (pD (.sl (.sl (.int .u8)))) (pD (.int .i64)) fun a k => ⟨[Q_w_heldByteSS a k], [⟨(.int .i64), .sh, F_w_heldByteSS a k⟩], []⟩, []⟩)]) O_w_heldNode Go.Proofs.Try.f132 [.dat (.pair .bool (.pair (.sl (.sl (.int .u8))) (.pair (.sl (.int .i64)) (.pair (.sl (.int .i64)) .unit)))) a, .dat (.int .i64) k] ⟨[Q_w_heldNode a k], [⟨(.int .i64), .sh, F_w_heldNode a k⟩], []⟩
  generalize hg_F_w_heldInt64S : F_w_heldInt64S = g_F_w_heldInt64S
  generalize hg_Q_w_heldInt64S : Q_w_heldInt64S = g_Q_w_heldInt64S
  generalize hg_F_w_heldByteSS : F_w_heldByteSS = g_F_w_heldByteSS
  generalize hg_Q_w_heldByteSS : Q_w_heldByteSS = g_Q_w_heldByteSS
  generalize hR0 : F_w_heldNode a k = R0
  generalize Q_w_heldNode a k = Q0
  generalize hL : Lg.std = L
  generalize hA : Alg.std = A
  cbv
  subst hL hA
  try dsimp only [Ty.den]
  obtain ⟨f0, f1, f2, f3, ⟨⟩⟩ := a
  have ho1 := fun k h => hd_or false (.sl (.sl (.int .u8))) f1 k h
  have ho2 := fun k h => hd_or false (.sl (.int .i64)) f2 k h
  have ho3 := fun k h => hd_or false (.sl (.int .i64)) f3 k h
  simp only [Q_w_heldNode] at hq
  subst hR0 hg_F_w_heldInt64S hg_Q_w_heldInt64S hg_F_w_heldByteSS hg_Q_w_heldByteSS
  simp only [Lg.std, Alg.std, List.drop_zero, List.take_length, F_w_heldInt64S, F_w_heldByteSS, Q_w_heldInt64S, Q_w_heldByteSS, F_w_heldNode, szf, tot_p, tot_u, tot_i, tot_b, tot_s, cnt_p, cnt_u, cnt_i0, cnt_b0, cnt_s0, cnt_i1, cnt_b1, cnt_s1, cnt_l, mk_p, mk_u, mk_i0, mk_b0, mk_s0, mk_i1, mk_s1, mk_l, hd_p, hd_u, hd_i0, hd_b0, hd_s0, hd_i1, hd_b1, hd_s1, hd_l] at *
  all_goals grind [mk_len]
def con_w_heldNode : Con := ⟨true, g2 (pD (.pair .bool (.pair (.sl (.sl (.int .u8))) (.pair (.sl (.int .i64)) (.pair (.sl (.int .i64)) .unit))))) (pD (.int .i64)) fun a k => ⟨[Q_w_heldNode a k], [⟨(.int .i64), .sh, F_w_heldNode a k⟩], []⟩, []⟩
theorem ok_w_heldNode : ConOk pg 132 con_w_heldNode := ConOk.g2 (Enters.of (by kernel_rfl)) ct_w_heldNode

def F_sl_EqualFunc_Lbyte__b_Equal (a : List (List (Int))) (b : List (List (Int))) (u : Unit) : Bool := decide (a = b)
def Q_sl_EqualFunc_Lbyte__b_Equal (a : List (List (Int))) (b : List (List (Int))) (u : Unit) : Prop := True
def O_sl_EqualFunc_Lbyte__b_Equal : Opt := ⟨fun i => false, fun i => (match decide (i = 4) with | true => [false, true, true, false, false, false, false, false, false, false, false, false, false, false, false, true, true, true, false, false, false, false, false, false, false, false, false, false, false, false, false, false] | false => []), fun i => .done, fun i => none⟩
def τ_sl_EqualFunc_Lbyte__b_Equal : Env := Env.of [(3, (.int .i64)), (4, .bool), (22, (.sl (.int .u8))), (43, (.sl (.sl (.int .u8))))] []

theorem ct_sl_EqualFunc_Lbyte__b_Equal (a : List (List (Int))) (b : List (List (Int))) (u : Unit) : Ct pg 90 [.dat (.sl (.sl (.int .u8))) a, .dat (.sl (.sl (.int .u8))) b, .clo 80 []] ⟨[Q_sl_EqualFunc_Lbyte__b_Equal a b u], [⟨.bool, .sh, F_sl_EqualFunc_Lbyte__b_Equal a b u⟩], []⟩ := by
  refine ct_claim (O := O_sl_EqualFunc_Lbyte__b_Equal) (τ := τ_sl_EqualFunc_Lbyte__b_Equal) (EnvOk.of (by kernel_rfl)) (GOk.of (.cons ok_b_Equal .nil : AllOk pg [(80, con_b_Equal)])) mixed (Enters.of (by kernel_rfl)) (fn := Go.Proofs.Try.f90) (by kernel_rfl) rfl (by kernel_rfl) ?_
  intro hp hw
  have hq : Q_sl_EqualFunc_Lbyte__b_Equal a b u := hp _ (List.mem_singleton.2 rfl)
  clear hp
  change claim Lg.std Alg.std τ_sl_EqualFunc_Lbyte__b_Equal (Gam.of [(80, ⟨true, g2 (pD (.sl (.int .u8))) (pD (.sl (.int .u8))) fun a b => ⟨[Q_b_Equal a b], [⟨.bool, .sh, F_b_Equal a b⟩], []⟩, []⟩)]) O_sl_EqualFunc_Lbyte__b_Equal Go.Proofs.Try.f90 [.dat (.sl (.sl (.int .u8))) a, .dat (.sl (.sl (.int .u8))) b, .clo 80 []] ⟨[Q_sl_EqualFunc_Lbyte__b_Equal a b u], [⟨.bool, .sh, F_sl_EqualFunc_Lbyte__b_Equal a b u⟩], []⟩
  generalize hg_F_b_Equal : F_b_Equal = g_F_b_Equal
  generalize hg_Q_b_Equal : Q_b_Equal = g_Q_b_Equal
  generalize hR0 : F_sl_EqualFunc_Lbyte__b_Equal a b u = R0
  generalize Q_sl_EqualFunc_Lbyte__b_Equal a b u = Q0
  generalize hL : Lg.std = L
  generalize hA : Alg.std = A
  cbv
  subst hL hA
  try dsimp only [Ty.den]
  refine ⟨fun hne => ?_, fun heq => ?_⟩
  · subst hR0 hg_F_b_Equal hg_Q_b_Equal
    simp only [Alg.std, F_b_Equal, Q_b_Equal, F_sl_EqualFunc_Lbyte__b_Equal] at *
    all_goals grind
  refine lp_v (V := (Int) × (Int)) (fun ((i, M) : (Int) × (Int)) => ⟨[.junk, .dat (.sl (.sl (.int .u8))) b, .clo 80 [], .junk, .junk, .junk, .junk, .junk, .junk, .junk, .junk, .junk, .junk, .junk, .junk, .dat (.sl (.sl (.int .u8))) a, .dat (.int .i64) M, .dat (.int .i64) i, .junk, .junk, .junk, .junk, .junk, .junk, .junk, .junk, .junk, .junk, .junk, .junk, .junk, .junk], []⟩) (fun ((i, M) : (Int) × (Int)) => M = a.length ∧ a.length = b.length ∧ 0 ≤ i ∧ i ≤ a.length ∧ decide (a = b) = decide (a.drop i.toNat = b.drop i.toNat)) (fun ((i, M) : (Int) × (Int)) => a.length - i.toNat) (0, _) rfl ?_ ?_
  · simp [Alg.std] at heq ⊢; omega
  rintro ⟨i, M⟩ hf I hI
  replace hf : M = a.length ∧ a.length = b.length ∧ 0 ≤ i ∧ i ≤ a.length ∧ decide (a = b) = decide (a.drop i.toNat = b.drop i.toNat) := hf
  generalize hL : Lg.std = L
  generalize hA : Alg.std = A
  cbv
  subst hL hA
  try dsimp only [Ty.den]
  subst hI
  simp only [Lg.std, Alg.std, List.drop_zero, List.take_length]
  obtain ⟨h1, h2, h3, h4, h5⟩ := hf
  have hl := hw.1.1
  have hdc := fun (h : i.toNat < a.length) => drop_cons a ([] : List (Int)) i.toNat h
  have he := fun (h : a.length ≤ i.toNat) => drop_nil a i.toNat h
  have hdc2 := fun (h : i.toNat < b.length) => drop_cons b ([] : List (Int)) i.toNat h
  have he2 := fun (h : b.length ≤ i.toNat) => drop_nil b i.toNat h
  repeat' (first | intro _ | apply And.intro)
  all_goals (try refine ⟨(_, _), rfl, ?_, ?_⟩)
  all_goals subst hR0 hg_F_b_Equal hg_Q_b_Equal
  all_goals (try simp only [F_b_Equal, Q_b_Equal, F_sl_EqualFunc_Lbyte__b_Equal] at *)
  all_goals grind
def con_sl_EqualFunc_Lbyte__b_Equal : Con := ⟨true, g3 (pD (.sl (.sl (.int .u8)))) (pD (.sl (.sl (.int .u8)))) (pC0 80) fun a b u => ⟨[Q_sl_EqualFunc_Lbyte__b_Equal a b u], [⟨.bool, .sh, F_sl_EqualFunc_Lbyte__b_Equal a b u⟩], []⟩, []⟩
theorem ok_sl_EqualFunc_Lbyte__b_Equal : ConOk pg 90 con_sl_EqualFunc_Lbyte__b_Equal := ConOk.g3 (Enters.of (by kernel_rfl)) ct_sl_EqualFunc_Lbyte__b_Equal

def F_sl_Equal_int64 (a : List (Int)) (b : List (Int)) : Bool := decide (a = b)
def Q_sl_Equal_int64 (a : List (Int)) (b : List (Int)) : Prop := True
def O_sl_Equal_int64 : Opt := ⟨fun i => (match decide (i = 6) with | true => true | false => false), fun i => (match decide (i = 4) with | true => [true, true, false, false, false, false, false, false, false, false, false, false, true, true, false, false, false, false, false, false, false, false, false, false, false, false] | false => []), fun i => .done, fun i => none⟩
def τ_sl_Equal_int64 : Env := Env.of [(2, (.int .i64)), (3, (.int .i64)), (4, .bool), (44, (.sl (.int .i64)))] []

theorem ct_sl_Equal_int64 (a : List (Int)) (b : List (Int)) : Ct pg 91 [.dat (.sl (.int .i64)) a, .dat (.sl (.int .i64)) b] ⟨[Q_sl_Equal_int64 a b], [⟨.bool, .sh, F_sl_Equal_int64 a b⟩], []⟩ := by
  refine ct_claim (O := O_sl_Equal_int64) (τ := τ_sl_Equal_int64) (EnvOk.of (by kernel_rfl)) (GOk.of (.nil : AllOk pg [])) mixed (Enters.of (by kernel_rfl)) (fn := Go.Proofs.Try.f91) (by kernel_rfl) rfl (by kernel_rfl) ?_
  intro hp hw
  have hq : Q_sl_Equal_int64 a b := hp _ (List.mem_singleton.2 rfl)
  clear hp
  change claim Lg.std Alg.std τ_sl_Equal_int64 (Gam.of []) O_sl_Equal_int64 Go.Proofs.Try.f91 [.dat (.sl (.int .i64)) a, .dat (.sl (.int .i64)) b] ⟨[Q_sl_Equal_int64 a b], [⟨.bool, .sh, F_sl_Equal_int64 a b⟩], []⟩
  generalize hR0 : F_sl_Equal_int64 a b = R0
  generalize Q_sl_Equal_int64 a b = Q0
  generalize hL : Lg.std = L
  generalize hA : Alg.std = A
  cbv
  subst hL hA
  try dsimp only [Ty.den]
  refine ⟨fun hne => ?_, fun heq => ?_⟩
  · subst hR0
    simp only [Alg.std, F_sl_Equal_int64] at *
    all_goals grind
  refine lp_v (V := (Int) × (Int)) (fun ((i, M) : (Int) × (Int)) => ⟨[.dat (.sl (.int .i64)) a, .dat (.sl (.int .i64)) b, .junk, .junk, .junk, .junk, .junk, .junk, .junk, .junk, .junk, .junk, .dat (.int .i64) M, .dat (.int .i64) i, .junk, .junk, .junk, .junk, .junk, .junk, .junk, .junk, .junk, .junk, .junk, .junk], []⟩) (fun ((i, M) : (Int) × (Int)) => a.length = b.length ∧ 0 ≤ i ∧ i ≤ a.length ∧ decide (a = b) = decide (a.drop i.toNat = b.drop i.toNat) ∧ M = a.length) (fun ((i, M) : (Int) × (Int)) => a.length - i.toNat) (0, _) rfl ?_ ?_
  · simp [Alg.std] at heq ⊢; omega
  rintro ⟨i, M⟩ hf I hI
  replace hf : a.length = b.length ∧ 0 ≤ i ∧ i ≤ a.length ∧ decide (a = b) = decide (a.drop i.toNat = b.drop i.toNat) ∧ M = a.length := hf
  generalize hL : Lg.std = L
  generalize hA : Alg.std = A
  cbv
  subst hL hA
  try dsimp only [Ty.den]
  subst hI
  simp only [Lg.std, Alg.std, List.drop_zero, List.take_length]
  obtain ⟨h1, h2, h3, h4, h5⟩ := hf
  have hl := hw.1.1
  have hdc := fun (h : i.toNat < a.length) => drop_cons a (0 : Int) i.toNat h
  have he := fun (h : a.length ≤ i.toNat) => drop_nil a i.toNat h
  have hdc2 := fun (h : i.toNat < b.length) => drop_cons b (0 : Int) i.toNat h
  have he2 := fun (h : b.length ≤ i.toNat) => drop_nil b i.toNat h
  repeat' (first | intro _ | apply And.intro)
  all_goals (try refine ⟨(_, _), rfl, ?_, ?_⟩)
  all_goals subst hR0
  all_goals (try simp only [F_sl_Equal_int64] at *)
  all_goals grind
def con_sl_Equal_int64 : Con := ⟨true, g2 (pD (.sl (.int .i64))) (pD (.sl (.int .i64))) fun a b => ⟨[Q_sl_Equal_int64 a b], [⟨.bool, .sh, F_sl_Equal_int64 a b⟩], []⟩, []⟩
theorem ok_sl_Equal_int64 : ConOk pg 91 con_sl_Equal_int64 := ConOk.g2 (Enters.of (by kernel_rfl)) ct_sl_Equal_int64

def F_s_l1Same (a : List (Int)) (b : List (Int)) : Bool := decide (a = b)
def Q_s_l1Same (a : List (Int)) (b : List (Int)) : Prop := True
def O_s_l1Same : Opt := ⟨fun i => (match decide (i = 6) with | true => true | false => false), fun i => (match decide (i = 4) with | true => [true, true, false, false, false, true, false, false, false, false, false, false, false, false, false, false, false, false, false, false, false, false, false, false, false, false] | false => []), fun i => .done, fun i => none⟩
def τ_s_l1Same : Env := Env.of [(2, (.int .i64)), (3, (.int .i64)), (4, .bool), (44, (.sl (.int .i64)))] []

theorem ct_s_l1Same (a : List (Int)) (b : List (Int)) : Ct pg 87 [.dat (.sl (.int .i64)) a, .dat (.sl (.int .i64)) b] ⟨[Q_s_l1Same a b], [⟨.bool, .sh, F_s_l1Same a b⟩], []⟩ := by
  refine ct_claim (O := O_s_l1Same) (τ := τ_s_l1Same) (EnvOk.of (by kernel_rfl)) (GOk.of (.nil : AllOk pg [])) mixed (Enters.of (by kernel_rfl)) (fn := Go.Proofs.Try.f87) (by kernel_rfl) rfl (by kernel_rfl) ?_
  intro hp hw
  have hq : Q_s_l1Same a b := hp _ (List.mem_singleton.2 rfl)
  clear hp
  change claim Lg.std Alg.std τ_s_l1Same (Gam.of []) O_s_l1Same Go.Proofs.Try.f87 [.dat (.sl (.int .i64)) a, .dat (.sl (.int .i64)) b] ⟨[Q_s_l1Same a b], [⟨.bool, .sh, F_s_l1Same a b⟩], []⟩
  generalize hR0 : F_s_l1Same a b = R0
  generalize Q_s_l1Same a b = Q0
  generalize hL : Lg.std = L
  generalize hA : Alg.std = A
  cbv
  subst hL hA
  try dsimp only [Ty.den]
  refine ⟨fun hne => ?_, fun heq => ?_⟩
  · subst hR0
    simp only [Alg.std, F_s_l1Same] at *
    all_goals grind
  refine lp_v (V := (Int)) (fun (i : Int) => ⟨[.dat (.sl (.int .i64)) a, .dat (.sl (.int .i64)) b, .junk, .junk, .junk, .dat (.int .i64) i, .junk, .junk, .junk, .junk, .junk, .junk, .junk, .junk, .junk, .junk, .junk, .junk, .junk, .junk, .junk, .junk, .junk, .junk, .junk, .junk], []⟩) (fun (i : Int) => a.length = b.length ∧ 0 ≤ i ∧ i ≤ a.length ∧ decide (a = b) = decide (a.drop i.toNat = b.drop i.toNat)) (fun (i : Int) => a.length - i.toNat) (0) rfl ?_ ?_
  · simp [Alg.std] at heq ⊢; omega
  rintro i hf I hI
  replace hf : a.length = b.length ∧ 0 ≤ i ∧ i ≤ a.length ∧ decide (a = b) = decide (a.drop i.toNat = b.drop i.toNat) := hf
  generalize hL : Lg.std = L
  generalize hA : Alg.std = A
  cbv
  subst hL hA
  try dsimp only [Ty.den]
  subst hI
  simp only [Lg.std, Alg.std, List.drop_zero, List.take_length]
  obtain ⟨h1, h2, h3, h4⟩ := hf
  have hl := hw.1.1
  have hdc := fun (h : i.toNat < a.length) => drop_cons a (0 : Int) i.toNat h
  have he := fun (h : a.length ≤ i.toNat) => drop_nil a i.toNat h
  have hdc2 := fun (h : i.toNat < b.length) => drop_cons b (0 : Int) i.toNat h
  have he2 := fun (h : b.length ≤ i.toNat) => drop_nil b i.toNat h
  repeat' (first | intro _ | apply And.intro)
  all_goals (try refine ⟨_, rfl, ?_, ?_⟩)
  all_goals subst hR0
  all_goals (try simp only [F_s_l1Same] at *)
  all_goals grind
def con_s_l1Same : Con := ⟨true, g2 (pD (.sl (.int .i64))) (pD (.sl (.int .i64))) fun a b => ⟨[Q_s_l1Same a b], [⟨.bool, .sh, F_s_l1Same a b⟩], []⟩, []⟩
theorem ok_s_l1Same : ConOk pg 87 con_s_l1Same := ConOk.g2 (Enters.of (by kernel_rfl)) ct_s_l1Same

def F_i_SameNodes (a : (Bool) × (List (List (Int))) × (List (Int)) × (List (Int)) × Unit) (b : (Bool) × (List (List (Int))) × (List (Int)) × (List (Int)) × Unit) : Bool := decide (a = b)
def Q_i_SameNodes (a : (Bool) × (List (List (Int))) × (List (Int)) × (List (Int)) × Unit) (b : (Bool) × (List (List (Int))) × (List (Int)) × (List (Int)) × Unit) : Prop := True
def O_i_SameNodes : Opt := ⟨fun i => false, fun i => [], fun i => .done, fun i => none⟩
def τ_i_SameNodes : Env := Env.of [(2, (.int .i64)), (3, (.int .i64)), (4, .bool), (43, (.sl (.sl (.int .u8)))), (44, (.sl (.int .i64))), (49, (.pair .bool (.pair (.sl (.sl (.int .u8))) (.pair (.sl (.int .i64)) (.pair (.sl (.int .i64)) .unit)))))] []

theorem ct_i_SameNodes (a : (Bool) × (List (List (Int))) × (List (Int)) × (List (Int)) × Unit) (b : (Bool) × (List (List (Int))) × (List (Int)) × (List (Int)) × Unit) : Ct pg 34 [.dat (.pair .bool (.pair (.sl (.sl (.int .u8))) (.pair (.sl (.int .i64)) (.pair (.sl (.int .i64)) .unit)))) a, .dat (.pair .bool (.pair (.sl (.sl (.int .u8))) (.pair (.sl (.int .i64)) (.pair (.sl (.int .i64)) .unit)))) b] ⟨[Q_i_SameNodes a b], [⟨.bool, .sh, F_i_SameNodes a b⟩], []⟩ := by
  refine ct_claim (O := O_i_SameNodes) (τ := τ_i_SameNodes) (EnvOk.of (by kernel_rfl)) (GOk.of (.cons ok_b_Equal (.cons ok_sl_EqualFunc_Lbyte__b_Equal (.cons ok_sl_Equal_int64 .nil)) : AllOk pg [(80, con_b_Equal), (90, con_sl_EqualFunc_Lbyte__b_Equal), (91, con_sl_Equal_int64)])) mixed (Enters.of (by kernel_rfl)) (fn := Go.Proofs.Try.f34) (by kernel_rfl) rfl (by kernel_rfl) ?_
  intro hp hw
  have hq : Q_i_SameNodes a b := hp _ (List.mem_singleton.2 rfl)
  clear hp
  change claim Lg.std Alg.std τ_i_SameNodes (Gam.of [(80, ⟨true, g2 (pD (.sl (.int .u8))) (pD (.sl (.int .u8))) fun a b => ⟨[Q_b_Equal a b], [⟨.bool, .sh, F_b_Equal a b⟩], []⟩, []⟩), (90, ⟨true, g3 (pD (.sl (.sl (.int .u8)))) (pD (.sl (.sl (.int .u8)))) (pC0 80) fun a b u => ⟨[Q_sl_EqualFunc_Lbyte__b_Equal a b u], [⟨.bool, .sh, F_sl_EqualFunc_Lbyte__b_Equal a b u⟩], []⟩, []⟩), (91, ⟨true, g2 (pD (.sl (.int .i64))) (pD (.sl (.int .i64))) fun a b => ⟨[Q_sl_Equal_int64 a b], [⟨.bool, .sh, F_sl_Equal_int64 a b⟩], []⟩, []⟩)]) O_i_SameNodes Go.Proofs.Try.f34 [.dat (.pair .bool (.pair (.sl (.sl (.int .u8))) (.pair (.sl (.int .i64)) (.pair (.sl (.int .i64)) .unit)))) a, .dat (.pair .bool (.pair (.sl (.sl (.int .u8))) (.pair (.sl (.int .i64)) (.pair (.sl (.int .i64)) .unit)))) b] ⟨[Q_i_SameNodes a b], [⟨.bool, .sh, F_i_SameNodes a b⟩], []⟩
  generalize hg_F_b_Equal : F_b_Equal = g_F_b_Equal
  generalize hg_Q_b_Equal : Q_b_Equal = g_Q_b_Equal
  generalize hg_F_sl_EqualFunc_Lbyte__b_Equal : F_sl_EqualFunc_Lbyte__b_Equal = g_F_sl_EqualFunc_Lbyte__b_Equal
  generalize hg_Q_sl_EqualFunc_Lbyte__b_Equal : Q_sl_EqualFunc_Lbyte__b_Equal = g_Q_sl_EqualFunc_Lbyte__b_Equal
  generalize hg_F_sl_Equal_int64 : F_sl_Equal_int64 = g_F_sl_Equal_int64
  generalize hg_Q_sl_Equal_int64 : Q_sl_Equal_int64 = g_Q_sl_Equal_int64
  generalize hR0 : F_i_SameNodes a b = R0
  generalize Q_i_SameNodes a b = Q0
  generalize hL : Lg.std = L
  generalize hA : Alg.std = A
  cbv
  subst hL hA
  try dsimp only [Ty.den]
  obtain ⟨a_0, a_1, a_2, a_3, ⟨⟩⟩ := a
  obtain ⟨b_0, b_1, b_2, b_3, ⟨⟩⟩ := b
  subst hR0 hg_F_b_Equal hg_Q_b_Equal hg_F_sl_EqualFunc_Lbyte__b_Equal hg_Q_sl_EqualFunc_Lbyte__b_Equal hg_F_sl_Equal_int64 hg_Q_sl_Equal_int64
  simp only [Q_i_SameNodes] at hq
  simp only [Lg.std, Alg.std, List.drop_zero, List.take_length, F_b_Equal, F_sl_EqualFunc_Lbyte__b_Equal, F_sl_Equal_int64, Q_b_Equal, Q_sl_EqualFunc_Lbyte__b_Equal, Q_sl_Equal_int64, F_i_SameNodes]
  all_goals grind
def con_i_SameNodes : Con := ⟨true, g2 (pD (.pair .bool (.pair (.sl (.sl (.int .u8))) (.pair (.sl (.int .i64)) (.pair (.sl (.int .i64)) .unit))))) (pD (.pair .bool (.pair (.sl (.sl (.int .u8))) (.pair (.sl (.int .i64)) (.pair (.sl (.int .i64)) .unit))))) fun a b => ⟨[Q_i_SameNodes a b], [⟨.bool, .sh, F_i_SameNodes a b⟩], []⟩, []⟩
theorem ok_i_SameNodes : ConOk pg 34 con_i_SameNodes := ConOk.g2 (Enters.of (by kernel_rfl)) ct_i_SameNodes

def F_s_SameNodes (a : (Bool) × (List (List (Int))) × (List (Int)) × (List (Int)) × Unit) (b : (Bool) × (List (List (Int))) × (List (Int)) × (List (Int)) × Unit) : Bool := decide (a = b)
def Q_s_SameNodes (a : (Bool) × (List (List (Int))) × (List (Int)) × (List (Int)) × Unit) (b : (Bool) × (List (List (Int))) × (List (Int)) × (List (Int)) × Unit) : Prop := True
def O_s_SameNodes : Opt := ⟨fun i => (match decide (i = 6) with | true => true | false => false), fun i => (match decide (i = 4) with | true => [false, false, true, true, false, true, false, false, false, false, false, false, false, false, false, false, false, false, false, false, false, false, false, false, false, false, false, false, false, false, false, false, false, false, false, false, false, false, false, false, false, false, false, false, false, false, false, false, false, false, false, false, false, false, false, false] | false => []), fun i => .done, fun i => none⟩
def τ_s_SameNodes : Env := Env.of [(2, (.int .i64)), (3, (.int .i64)), (4, .bool), (9, .str), (22, (.sl (.int .u8))), (43, (.sl (.sl (.int .u8)))), (44, (.sl (.int .i64))), (49, (.pair .bool (.pair (.sl (.sl (.int .u8))) (.pair (.sl (.int .i64)) (.pair (.sl (.int .i64)) .unit)))))] []

theorem ct_s_SameNodes (a : (Bool) × (List (List (Int))) × (List (Int)) × (List (Int)) × Unit) (b : (Bool) × (List (List (Int))) × (List (Int)) × (List (Int)) × Unit) : Ct pg 32 [.dat (.pair .bool (.pair (.sl (.sl (.int .u8))) (.pair (.sl (.int .i64)) (.pair (.sl (.int .i64)) .unit)))) a, .dat (.pair .bool (.pair (.sl (.sl (.int .u8))) (.pair (.sl (.int .i64)) (.pair (.sl (.int .i64)) .unit)))) b] ⟨[Q_s_SameNodes a b], [⟨.bool, .sh, F_s_SameNodes a b⟩], []⟩ := by
  refine ct_claim (O := O_s_SameNodes) (τ := τ_s_SameNodes) (EnvOk.of (by kernel_rfl)) (GOk.of (.cons ok_s_l1Same .nil : AllOk pg [(87, con_s_l1Same)])) mixed (Enters.of (by kernel_rfl)) (fn := Go.Proofs.Try.f32) (by kernel_rfl) rfl (by kernel_rfl) ?_
  intro hp hw
  have hq : Q_s_SameNodes a b := hp _ (List.mem_singleton.2 rfl)
  clear hp
  change claim Lg.std Alg.std τ_s_SameNodes (Gam.of [(87, ⟨true, g2 (pD (.sl (.int .i64))) (pD (.sl (.int .i64))) fun a b => ⟨[Q_s_l1Same a b], [⟨.bool, .sh, F_s_l1Same a b⟩], []⟩, []⟩)]) O_s_SameNodes Go.Proofs.Try.f32 [.dat (.pair .bool (.pair (.sl (.sl (.int .u8))) (.pair (.sl (.int .i64)) (.pair (.sl (.int .i64)) .unit)))) a, .dat (.pair .bool (.pair (.sl (.sl (.int .u8))) (.pair (.sl (.int .i64)) (.pair (.sl (.int .i64)) .unit)))) b] ⟨[Q_s_SameNodes a b], [⟨.bool, .sh, F_s_SameNodes a b⟩], []⟩
  generalize hg_F_s_l1Same : F_s_l1Same = g_F_s_l1Same
  generalize hg_Q_s_l1Same : Q_s_l1Same = g_Q_s_l1Same
  generalize hR0 : F_s_SameNodes a b = R0
  generalize Q_s_SameNodes a b = Q0
  generalize hL : Lg.std = L
  generalize hA : Alg.std = A
  cbv
  subst hL hA
  try dsimp only [Ty.den]
  obtain ⟨a_0, a_1, a_2, a_3, ⟨⟩⟩ := a
  obtain ⟨b_0, b_1, b_2, b_3, ⟨⟩⟩ := b
  repeat' (first | intro _ | apply And.intro)
  all_goals first | trivial | ((fail_if_success (refine lp_v (V := Unit) (fun _ => ⟨[], []⟩) (fun _ => True) (fun _ => 0) () ?_ ?_ ?_)); subst hR0 hg_F_s_l1Same hg_Q_s_l1Same; (try simp only [Alg.std, F_s_l1Same, Q_s_l1Same, F_s_SameNodes] at *); all_goals grind) | skip
  refine lp_v (V := (Int)) (fun (i : Int) => ⟨[.junk, .junk, .bptr 0 0, .bptr 1 0, .junk, .dat (.int .i64) i, .junk, .junk, .junk, .junk, .junk, .junk, .junk, .junk, .junk, .junk, .junk, .junk, .junk, .junk, .junk, .junk, .junk, .junk, .junk, .junk, .junk, .junk, .junk, .junk, .junk, .junk, .junk, .junk, .junk, .junk, .junk, .junk, .junk, .junk, .junk, .junk, .junk, .junk, .junk, .junk, .junk, .junk, .junk, .junk, .junk, .junk, .junk, .junk, .junk, .junk], [some (.box [.dat .bool a_0, .dat (.sl (.sl (.int .u8))) a_1, .dat (.sl (.int .i64)) a_2, .dat (.sl (.int .i64)) a_3]), some (.box [.dat .bool b_0, .dat (.sl (.sl (.int .u8))) b_1, .dat (.sl (.int .i64)) b_2, .dat (.sl (.int .i64)) b_3])]⟩) (fun (i : Int) => a_1.length = b_1.length ∧ a_0 = b_0 ∧ a_2 = b_2 ∧ a_3 = b_3 ∧ 0 ≤ i ∧ i ≤ a_1.length ∧ decide (a_1 = b_1) = decide (a_1.drop i.toNat = b_1.drop i.toNat)) (fun (i : Int) => a_1.length - i.toNat) (0) rfl ?_ ?_
  · subst hR0 hg_F_s_l1Same hg_Q_s_l1Same
    (try simp only [Alg.std, F_s_l1Same, Q_s_l1Same, F_s_SameNodes] at *)
    all_goals grind
  rintro i hf I hI
  replace hf : a_1.length = b_1.length ∧ a_0 = b_0 ∧ a_2 = b_2 ∧ a_3 = b_3 ∧ 0 ≤ i ∧ i ≤ a_1.length ∧ decide (a_1 = b_1) = decide (a_1.drop i.toNat = b_1.drop i.toNat) := hf
  generalize hL : Lg.std = L
  generalize hA : Alg.std = A
  cbv
  subst hL hA
  try dsimp only [Ty.den]
  subst hI
  simp only [Lg.std, Alg.std, List.drop_zero, List.take_length]
  obtain ⟨h1, h2, h3, h4, h5, h6, h7⟩ := hf
  have hl := hw.1.2.1.1
  have hdc := fun (h : i.toNat < a_1.length) => drop_cons a_1 ([] : List Int) i.toNat h
  have he := fun (h : a_1.length ≤ i.toNat) => drop_nil a_1 i.toNat h
  have hdc2 := fun (h : i.toNat < b_1.length) => drop_cons b_1 ([] : List Int) i.toNat h
  have he2 := fun (h : b_1.length ≤ i.toNat) => drop_nil b_1 i.toNat h
  repeat' (first | intro _ | apply And.intro)
  all_goals (try refine ⟨_, rfl, ?_, ?_⟩)
  all_goals subst hR0 hg_F_s_l1Same hg_Q_s_l1Same
  all_goals (try simp only [F_s_l1Same, Q_s_l1Same, F_s_SameNodes] at *)
  all_goals grind
def con_s_SameNodes : Con := ⟨true, g2 (pD (.pair .bool (.pair (.sl (.sl (.int .u8))) (.pair (.sl (.int .i64)) (.pair (.sl (.int .i64)) .unit))))) (pD (.pair .bool (.pair (.sl (.sl (.int .u8))) (.pair (.sl (.int .i64)) (.pair (.sl (.int .i64)) .unit))))) fun a b => ⟨[Q_s_SameNodes a b], [⟨.bool, .sh, F_s_SameNodes a b⟩], []⟩, []⟩
theorem ok_s_SameNodes : ConOk pg 32 con_s_SameNodes := ConOk.g2 (Enters.of (by kernel_rfl)) ct_s_SameNodes

def F_w_FnExactSameNodes (a : (Bool) × (List (List (Int))) × (List (Int)) × (List (Int)) × Unit) (b : (Bool) × (List (List (Int))) × (List (Int)) × (List (Int)) × Unit) : Bool := true
def Q_w_FnExactSameNodes (a : (Bool) × (List (List (Int))) × (List (Int)) × (List (Int)) × Unit) (b : (Bool) × (List (List (Int))) × (List (Int)) × (List (Int)) × Unit) : Prop := True
def O_w_FnExactSameNodes : Opt := ⟨fun i => false, fun i => [], fun i => (match decide (i = 16) with | true => (.alt 0 (.alt 1 (.alt 2 (.alt 3 (.take 4 .done) .no) .no) .no) (.alt 1 (.alt 0 (.alt 2 (.alt 3 (.take 4 .done) .no) .no) (.alt 2 (.alt 0 (.alt 3 (.take 4 .done) .no) .no) .no)) .no)) | false => (match decide (i = 14) with | true => (.alt 0 (.alt 1 (.alt 2 (.alt 3 (.take 4 .done) .no) .no) .no) (.alt 1 (.alt 0 (.alt 2 (.alt 3 (.take 4 .done) .no) .no) (.alt 2 (.alt 0 (.alt 3 (.take 4 .done) .no) .no) .no)) .no)) | false => (match decide (i = 8) with | true => (.alt 0 (.alt 1 (.alt 2 (.alt 3 (.alt 4 (.take 5 .done) .no) .no) .no) (.alt 2 (.alt 1 (.alt 3 (.alt 4 (.take 5 .done) .no) .no) .no) .no)) (.alt 2 (.alt 0 (.alt 1 (.alt 3 (.alt 4 (.take 5 .done) .no) .no) .no) .no) .no)) | false => .done))), fun i => none⟩
def τ_w_FnExactSameNodes : Env := Env.of [(3, (.int .i64)), (4, .bool), (46, (.pair .bool (.pair (.sl (.sl (.int .u8))) (.pair (.sl (.int .i64)) (.pair (.sl (.int .i64)) .unit))))), (49, (.pair .bool (.pair (.sl (.sl (.int .u8))) (.pair (.sl (.int .i64)) (.pair (.sl (.int .i64)) .unit)))))] []

theorem ct_w_FnExactSameNodes (a : (Bool) × (List (List (Int))) × (List (Int)) × (List (Int)) × Unit) (b : (Bool) × (List (List (Int))) × (List (Int)) × (List (Int)) × Unit) : Ct pg 6 [.dat (.pair .bool (.pair (.sl (.sl (.int .u8))) (.pair (.sl (.int .i64)) (.pair (.sl (.int .i64)) .unit)))) a, .dat (.pair .bool (.pair (.sl (.sl (.int .u8))) (.pair (.sl (.int .i64)) (.pair (.sl (.int .i64)) .unit)))) b] ⟨[Q_w_FnExactSameNodes a b], [⟨.bool, .sh, F_w_FnExactSameNodes a b⟩], []⟩ := by
  refine ct_claim (O := O_w_FnExactSameNodes) (τ := τ_w_FnExactSameNodes) (EnvOk.of (by kernel_rfl)) (GOk.of (.cons ok_w_toNode (.cons ok_w_eqNode (.cons ok_w_szNode (.cons ok_i_SameNodes (.cons ok_s_SameNodes .nil)))) : AllOk pg [(33, con_w_toNode), (35, con_w_eqNode), (31, con_w_szNode), (34, con_i_SameNodes), (32, con_s_SameNodes)])) mixed (Enters.of (by kernel_rfl)) (fn := Go.Proofs.Try.f6) (by kernel_rfl) rfl (by kernel_rfl) ?_
  intro hp hw
  have hq : Q_w_FnExactSameNodes a b := hp _ (List.mem_singleton.2 rfl)
  clear hp
  change claim Lg.std Alg.std τ_w_FnExactSameNodes (Gam.of [(33, ⟨true, g1 (pD (.pair .bool (.pair (.sl (.sl (.int .u8))) (.pair (.sl (.int .i64)) (.pair (.sl (.int .i64)) .unit))))) fun a => ⟨[Q_w_toNode a], [⟨(.pair .bool (.pair (.sl (.sl (.int .u8))) (.pair (.sl (.int .i64)) (.pair (.sl (.int .i64)) .unit)))), (.pr .sh (.pr (.ow (.ow .sh)) (.pr (.ow .sh) (.pr (.ow .sh) .sh)))), F_w_toNode a⟩], []⟩, []⟩), (35, ⟨true, g2 (pD (.pair .bool (.pair (.sl (.sl (.int .u8))) (.pair (.sl (.int .i64)) (.pair (.sl (.int .i64)) .unit))))) (pD (.pair .bool (.pair (.sl (.sl (.int .u8))) (.pair (.sl (.int .i64)) (.pair (.sl (.int .i64)) .unit))))) fun a b => ⟨[Q_w_eqNode a b], [⟨.bool, .sh, F_w_eqNode a b⟩], []⟩, []⟩), (31, ⟨true, g2 (pD (.pair .bool (.pair (.sl (.sl (.int .u8))) (.pair (.sl (.int .i64)) (.pair (.sl (.int .i64)) .unit))))) (pD (.int .i64)) fun a left => ⟨[Q_w_szNode a left], [⟨(.int .i64), .sh, F_w_szNode a left⟩], []⟩, []⟩), (34, ⟨true, g2 (pD (.pair .bool (.pair (.sl (.sl (.int .u8))) (.pair (.sl (.int .i64)) (.pair (.sl (.int .i64)) .unit))))) (pD (.pair .bool (.pair (.sl (.sl (.int .u8))) (.pair (.sl (.int .i64)) (.pair (.sl (.int .i64)) .unit))))) fun a b => ⟨[Q_i_SameNodes a b], [⟨.bool, .sh, F_i_SameNodes a b⟩], []⟩, []⟩), (32, ⟨true, g2 (pD (.pair .bool (.pair (.sl (.sl (.int .u8))) (.pair (.sl (.int .i64)) (.pair (.sl (.int .i64)) .unit))))) (pD (.pair .bool (.pair (.sl (.sl (.int .u8))) (.pair (.sl (.int .i64)) (.pair (.sl (.int .i64)) .unit))))) fun a b => ⟨[Q_s_SameNodes a b], [⟨.bool, .sh, F_s_SameNodes a b⟩], []⟩, []⟩)]) O_w_FnExactSameNodes Go.Proofs.Try.f6 [.dat (.pair .bool (.pair (.sl (.sl (.int .u8))) (.pair (.sl (.int .i64)) (.pair (.sl (.int .i64)) .unit)))) a, .dat (.pair .bool (.pair (.sl (.sl (.int .u8))) (.pair (.sl (.int .i64)) (.pair (.sl (.int .i64)) .unit)))) b] ⟨[Q_w_FnExactSameNodes a b], [⟨.bool, .sh, F_w_FnExactSameNodes a b⟩], []⟩
  generalize hg_F_w_toNode : F_w_toNode = g_F_w_toNode
  generalize hg_Q_w_toNode : Q_w_toNode = g_Q_w_toNode
  generalize hg_F_w_eqNode : F_w_eqNode = g_F_w_eqNode
  generalize hg_Q_w_eqNode : Q_w_eqNode = g_Q_w_eqNode
  generalize hg_F_w_szNode : F_w_szNode = g_F_w_szNode
  generalize hg_Q_w_szNode : Q_w_szNode = g_Q_w_szNode
  generalize hg_F_i_SameNodes : F_i_SameNodes = g_F_i_SameNodes
  generalize hg_Q_i_SameNodes : Q_i_SameNodes = g_Q_i_SameNodes
  generalize hg_F_s_SameNodes : F_s_SameNodes = g_F_s_SameNodes
  generalize hg_Q_s_SameNodes : Q_s_SameNodes = g_Q_s_SameNodes
  generalize hR0 : F_w_FnExactSameNodes a b = R0
  generalize Q_w_FnExactSameNodes a b = Q0
  generalize hL : Lg.std = L
  generalize hA : Alg.std = A
  cbv
  subst hL hA
  try dsimp only [Ty.den]
  obtain ⟨a_0, a_1, a_2, a_3, ⟨⟩⟩ := a
  obtain ⟨b_0, b_1, b_2, b_3, ⟨⟩⟩ := b
  subst hR0 hg_F_w_toNode hg_Q_w_toNode hg_F_w_eqNode hg_Q_w_eqNode hg_F_w_szNode hg_Q_w_szNode hg_F_i_SameNodes hg_Q_i_SameNodes hg_F_s_SameNodes hg_Q_s_SameNodes
  simp only [Lg.std, Alg.std, List.drop_zero, List.take_length, F_w_toNode, F_w_eqNode, F_w_szNode, F_i_SameNodes, F_s_SameNodes, Q_w_toNode, Q_w_eqNode, Q_w_szNode, Q_i_SameNodes, Q_s_SameNodes, F_w_FnExactSameNodes, szf] at *
  try simp only [ne_eq, not_true_eq_false, decide_true, decide_false, Bool.not_true, Bool.not_false, Bool.false_eq_true, Bool.true_eq_false, false_implies, forall_const, implies_true, true_and, and_true, reduceCtorEq, false_implies, true_implies]
  repeat' (first | intro _ | apply And.intro)
  all_goals grind

def con_w_FnExactSameNodes : Con := ⟨true, g2 (pD (.pair .bool (.pair (.sl (.sl (.int .u8))) (.pair (.sl (.int .i64)) (.pair (.sl (.int .i64)) .unit))))) (pD (.pair .bool (.pair (.sl (.sl (.int .u8))) (.pair (.sl (.int .i64)) (.pair (.sl (.int .i64)) .unit))))) fun a b => ⟨[Q_w_FnExactSameNodes a b], [⟨.bool, .sh, F_w_FnExactSameNodes a b⟩], []⟩, []⟩
theorem ok_w_FnExactSameNodes : ConOk pg 6 con_w_FnExactSameNodes := ConOk.g2 (Enters.of (by kernel_rfl)) ct_w_FnExactSameNodes
end Go.Vee
