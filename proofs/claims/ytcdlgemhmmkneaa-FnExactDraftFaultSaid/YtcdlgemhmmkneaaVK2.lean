/-
  Contracts of functions of the program: what each returns for all arguments that its precondition lets in.
-/
import Derived.Test.YtcdlgemhmmkneaaVK1
set_option linter.unusedSimpArgs false
set_option linter.unusedVariables false
set_option maxRecDepth 100000
set_option maxHeartbeats 4000000
set_option synthInstance.maxHeartbeats 400000
set_option synthInstance.maxSize 2000
namespace Go.Vee
open Go
def F_w_toPage (a : (Int) × (Int) × (List (Int)) × Unit) : (Int) × (Int) × (List (Int)) × Unit := a
def Q_w_toPage (a : (Int) × (Int) × (List (Int)) × Unit) : Prop := tot (.pair (.int .i64) (.pair (.int .i64) (.pair (.sl (.int .u8)) .unit))) a ≤ 1048576
def O_w_toPage : Opt := ⟨fun i => false, fun i => [], fun i => .done, fun i => none⟩
def τ_w_toPage : Env := Env.of [(2, (.int .i64)), (22, (.sl (.int .u8))), (24, (.pair (.int .i64) (.pair (.int .i64) (.pair (.sl (.int .u8)) .unit)))), (27, (.pair (.int .i64) (.pair (.int .i64) (.pair (.sl (.int .u8)) .unit))))] []

theorem ct_w_toPage (a : (Int) × (Int) × (List (Int)) × Unit) : Ct pg 17 [.dat (.pair (.int .i64) (.pair (.int .i64) (.pair (.sl (.int .u8)) .unit))) a] ⟨[Q_w_toPage a], [⟨(.pair (.int .i64) (.pair (.int .i64) (.pair (.sl (.int .u8)) .unit))), (.pr .sh (.pr .sh (.pr (.ow .sh) .sh))), F_w_toPage a⟩], []⟩ := by
  refine ct_claim (O := O_w_toPage) (τ := τ_w_toPage) (EnvOk.of (by kernel_rfl)) (GOk.of (.cons ok_w_toByteS .nil : AllOk pg [(42, con_w_toByteS)])) mixed (Enters.of (by kernel_rfl)) (fn := Go.Proofs.Try.f17) (by kernel_rfl) rfl (by kernel_rfl) ?_
  intro hp hw
  have hq : Q_w_toPage a := hp _ (List.mem_singleton.2 rfl)
  clear hp
  change claim Lg.std Alg.std τ_w_toPage (Gam.of [(42, ⟨true, g1 (pD (.sl (.int .u8))) fun a => ⟨[Q_w_toByteS a], [⟨(.sl (.int .u8)), (.ow .sh), F_w_toByteS a⟩], []⟩, []⟩)]) O_w_toPage Go.Proofs.Try.f17 [.dat (.pair (.int .i64) (.pair (.int .i64) (.pair (.sl (.int .u8)) .unit))) a] ⟨[Q_w_toPage a], [⟨(.pair (.int .i64) (.pair (.int .i64) (.pair (.sl (.int .u8)) .unit))), (.pr .sh (.pr .sh (.pr (.ow .sh) .sh))), F_w_toPage a⟩], []⟩
  generalize hg_F_w_toByteS : F_w_toByteS = g_F_w_toByteS
  generalize hg_Q_w_toByteS : Q_w_toByteS = g_Q_w_toByteS
  generalize hR0 : F_w_toPage a = R0
  generalize Q_w_toPage a = Q0
  generalize hL : Lg.std = L
  generalize hA : Alg.std = A
  cbv
  subst hL hA
  try dsimp only [Ty.den]
  obtain ⟨f0, f1, f2, ⟨⟩⟩ := a
  simp only [Q_w_toPage] at hq
  subst hR0 hg_F_w_toByteS hg_Q_w_toByteS
  simp only [Lg.std, Alg.std, List.drop_zero, List.take_length, F_w_toByteS, Q_w_toByteS, F_w_toPage, szf, tot_p, tot_u, tot_i, tot_b, tot_s, cnt_p, cnt_u, cnt_i0, cnt_b0, cnt_s0, cnt_i1, cnt_b1, cnt_s1, cnt_l, mk_p, mk_u, mk_i0, mk_b0, mk_s0, mk_i1, mk_s1, mk_l, hd_p, hd_u, hd_i0, hd_b0, hd_s0, hd_i1, hd_b1, hd_s1, hd_l] at *
  all_goals grind [mk_len]
def con_w_toPage : Con := ⟨true, g1 (pD (.pair (.int .i64) (.pair (.int .i64) (.pair (.sl (.int .u8)) .unit)))) fun a => ⟨[Q_w_toPage a], [⟨(.pair (.int .i64) (.pair (.int .i64) (.pair (.sl (.int .u8)) .unit))), (.pr .sh (.pr .sh (.pr (.ow .sh) .sh))), F_w_toPage a⟩], []⟩, []⟩
theorem ok_w_toPage : ConOk pg 17 con_w_toPage := ConOk.g1 (Enters.of (by kernel_rfl)) ct_w_toPage

def F_w_eqPage (a : (Int) × (Int) × (List (Int)) × Unit) (b : (Int) × (Int) × (List (Int)) × Unit) : Bool := decide (a = b)
def Q_w_eqPage (a : (Int) × (Int) × (List (Int)) × Unit) (b : (Int) × (Int) × (List (Int)) × Unit) : Prop := True
def O_w_eqPage : Opt := ⟨fun i => false, fun i => [], fun i => .done, fun i => none⟩
def τ_w_eqPage : Env := Env.of [(2, (.int .i64)), (4, .bool), (22, (.sl (.int .u8))), (27, (.pair (.int .i64) (.pair (.int .i64) (.pair (.sl (.int .u8)) .unit))))] []

theorem ct_w_eqPage (a : (Int) × (Int) × (List (Int)) × Unit) (b : (Int) × (Int) × (List (Int)) × Unit) : Ct pg 19 [.dat (.pair (.int .i64) (.pair (.int .i64) (.pair (.sl (.int .u8)) .unit))) a, .dat (.pair (.int .i64) (.pair (.int .i64) (.pair (.sl (.int .u8)) .unit))) b] ⟨[Q_w_eqPage a b], [⟨.bool, .sh, F_w_eqPage a b⟩], []⟩ := by
  refine ct_claim (O := O_w_eqPage) (τ := τ_w_eqPage) (EnvOk.of (by kernel_rfl)) (GOk.of (.cons ok_w_eqByteS .nil : AllOk pg [(45, con_w_eqByteS)])) mixed (Enters.of (by kernel_rfl)) (fn := Go.Proofs.Try.f19) (by kernel_rfl) rfl (by kernel_rfl) ?_
  intro hp hw
  have hq : Q_w_eqPage a b := hp _ (List.mem_singleton.2 rfl)
  clear hp
  change claim Lg.std Alg.std τ_w_eqPage (Gam.of [(45, ⟨true, g2 (pD (.sl (.int .u8))) (pD (.sl (.int .u8))) fun a b => ⟨[Q_w_eqByteS a b], [⟨.bool, .sh, F_w_eqByteS a b⟩], []⟩, []⟩)]) O_w_eqPage Go.Proofs.Try.f19 [.dat (.pair (.int .i64) (.pair (.int .i64) (.pair (.sl (.int .u8)) .unit))) a, .dat (.pair (.int .i64) (.pair (.int .i64) (.pair (.sl (.int .u8)) .unit))) b] ⟨[Q_w_eqPage a b], [⟨.bool, .sh, F_w_eqPage a b⟩], []⟩
  generalize hg_F_w_eqByteS : F_w_eqByteS = g_F_w_eqByteS
  generalize hg_Q_w_eqByteS : Q_w_eqByteS = g_Q_w_eqByteS
  generalize hR0 : F_w_eqPage a b = R0
  generalize Q_w_eqPage a b = Q0
  generalize hL : Lg.std = L
  generalize hA : Alg.std = A
  cbv
  subst hL hA
  try dsimp only [Ty.den]
  obtain ⟨f0, f1, f2, ⟨⟩⟩ := a
  obtain ⟨g0, g1, g2, ⟨⟩⟩ := b
  subst hR0 hg_F_w_eqByteS hg_Q_w_eqByteS
  simp only [Q_w_eqPage] at hq
  simp only [Lg.std, Alg.std, List.drop_zero, List.take_length, F_w_eqByteS, Q_w_eqByteS, F_w_eqPage]
  all_goals grind
def con_w_eqPage : Con := ⟨true, g2 (pD (.pair (.int .i64) (.pair (.int .i64) (.pair (.sl (.int .u8)) .unit)))) (pD (.pair (.int .i64) (.pair (.int .i64) (.pair (.sl (.int .u8)) .unit)))) fun a b => ⟨[Q_w_eqPage a b], [⟨.bool, .sh, F_w_eqPage a b⟩], []⟩, []⟩
theorem ok_w_eqPage : ConOk pg 19 con_w_eqPage := ConOk.g2 (Enters.of (by kernel_rfl)) ct_w_eqPage

def F_w_szPage (a : (Int) × (Int) × (List (Int)) × Unit) (left : Int) : Int := szf (tot (.pair (.int .i64) (.pair (.int .i64) (.pair (.sl (.int .u8)) .unit))) a) left
def Q_w_szPage (a : (Int) × (Int) × (List (Int)) × Unit) (left : Int) : Prop := 0 ≤ left ∧ left ≤ 1048576
def O_w_szPage : Opt := ⟨fun i => false, fun i => [], fun i => .done, fun i => none⟩
def τ_w_szPage : Env := Env.of [(2, (.int .i64)), (3, (.int .i64)), (4, .bool), (22, (.sl (.int .u8))), (24, (.pair (.int .i64) (.pair (.int .i64) (.pair (.sl (.int .u8)) .unit))))] []

theorem ct_w_szPage (a : (Int) × (Int) × (List (Int)) × Unit) (left : Int) : Ct pg 15 [.dat (.pair (.int .i64) (.pair (.int .i64) (.pair (.sl (.int .u8)) .unit))) a, .dat (.int .i64) left] ⟨[Q_w_szPage a left], [⟨(.int .i64), .sh, F_w_szPage a left⟩], []⟩ := by
  refine ct_claim (O := O_w_szPage) (τ := τ_w_szPage) (EnvOk.of (by kernel_rfl)) (GOk.of (.cons ok_w_szByteS .nil : AllOk pg [(71, con_w_szByteS)])) mixed (Enters.of (by kernel_rfl)) (fn := Go.Proofs.Try.f15) (by kernel_rfl) rfl (by kernel_rfl) ?_
  intro hp hw
  have hq : Q_w_szPage a left := hp _ (List.mem_singleton.2 rfl)
  clear hp
  change claim Lg.std Alg.std τ_w_szPage (Gam.of [(71, ⟨true, g2 (pD (.sl (.int .u8))) (pD (.int .i64)) fun a left => ⟨[Q_w_szByteS a left], [⟨(.int .i64), .sh, F_w_szByteS a left⟩], []⟩, []⟩)]) O_w_szPage Go.Proofs.Try.f15 [.dat (.pair (.int .i64) (.pair (.int .i64) (.pair (.sl (.int .u8)) .unit))) a, .dat (.int .i64) left] ⟨[Q_w_szPage a left], [⟨(.int .i64), .sh, F_w_szPage a left⟩], []⟩
  generalize hg_F_w_szByteS : F_w_szByteS = g_F_w_szByteS
  generalize hg_Q_w_szByteS : Q_w_szByteS = g_Q_w_szByteS
  generalize hR0 : F_w_szPage a left = R0
  generalize Q_w_szPage a left = Q0
  generalize hL : Lg.std = L
  generalize hA : Alg.std = A
  cbv
  subst hL hA
  try dsimp only [Ty.den]
  obtain ⟨f0, f1, f2, ⟨⟩⟩ := a
  simp only [Q_w_szPage] at hq
  subst hR0 hg_F_w_szByteS hg_Q_w_szByteS
  simp only [Lg.std, Alg.std, List.drop_zero, List.take_length, F_w_szByteS, Q_w_szByteS, F_w_szPage, szf, tot_p, tot_u, tot_i, tot_b, tot_s, cnt_p, cnt_u, cnt_i0, cnt_b0, cnt_s0, cnt_i1, cnt_b1, cnt_s1, cnt_l, mk_p, mk_u, mk_i0, mk_b0, mk_s0, mk_i1, mk_s1, mk_l, hd_p, hd_u, hd_i0, hd_b0, hd_s0, hd_i1, hd_b1, hd_s1, hd_l] at *
  all_goals grind [mk_len]
def con_w_szPage : Con := ⟨true, g2 (pD (.pair (.int .i64) (.pair (.int .i64) (.pair (.sl (.int .u8)) .unit)))) (pD (.int .i64)) fun a left => ⟨[Q_w_szPage a left], [⟨(.int .i64), .sh, F_w_szPage a left⟩], []⟩, []⟩
theorem ok_w_szPage : ConOk pg 15 con_w_szPage := ConOk.g2 (Enters.of (by kernel_rfl)) ct_w_szPage

def F_w_markPage (a : (Int) × (Int) × (List (Int)) × Unit) (k : Int) : Int := k + cnt false (.pair (.int .i64) (.pair (.int .i64) (.pair (.sl (.int .u8)) .unit))) a
def B_w_markPage_a (a : (Int) × (Int) × (List (Int)) × Unit) (k : Int) : (Int) × (Int) × (List (Int)) × Unit := mk false (.pair (.int .i64) (.pair (.int .i64) (.pair (.sl (.int .u8)) .unit))) a k
def Q_w_markPage (a : (Int) × (Int) × (List (Int)) × Unit) (k : Int) : Prop := 0 ≤ k ∧ k + cnt false (.pair (.int .i64) (.pair (.int .i64) (.pair (.sl (.int .u8)) .unit))) a ≤ 4611686018427387904
def O_w_markPage : Opt := ⟨fun i => false, fun i => [], fun i => .done, fun i => none⟩
def τ_w_markPage : Env := Env.of [(2, (.int .i64)), (3, (.int .i64)), (4, .bool), (22, (.sl (.int .u8))), (27, (.pair (.int .i64) (.pair (.int .i64) (.pair (.sl (.int .u8)) .unit))))] []

theorem ct_w_markPage (a : (Int) × (Int) × (List (Int)) × Unit) (k : Int) : Ct pg 28 [.mv (.pair (.int .i64) (.pair (.int .i64) (.pair (.sl (.int .u8)) .unit))) (.pr .sh (.pr .sh (.pr (.ow .sh) .sh))) a, .dat (.int .i64) k] ⟨[Q_w_markPage a k], [⟨(.int .i64), .sh, F_w_markPage a k⟩], [.mv (.pair (.int .i64) (.pair (.int .i64) (.pair (.sl (.int .u8)) .unit))) (.pr .sh (.pr .sh (.pr (.ow .sh) .sh))) (B_w_markPage_a a k)]⟩ := by
  refine ct_claim (O := O_w_markPage) (τ := τ_w_markPage) (EnvOk.of (by kernel_rfl)) (GOk.of (.cons ok_w_markByteS .nil : AllOk pg [(46, con_w_markByteS)])) mixed (Enters.of (by kernel_rfl)) (fn := Go.Proofs.Try.f28) (by kernel_rfl) rfl (by kernel_rfl) ?_
  intro hp hw
  have hq : Q_w_markPage a k := hp _ (List.mem_singleton.2 rfl)
  clear hp
  change claim Lg.std Alg.std τ_w_markPage (Gam.of [(46, ⟨true, g2 (pV (.sl (.int .u8)) (.ow .sh)) (pD (.int .i64)) fun a k => ⟨[Q_w_markByteS a k], [⟨(.int .i64), .sh, F_w_markByteS a k⟩], [.mv (.sl (.int .u8)) (.ow .sh) (B_w_markByteS_a a k)]⟩, [(.ow .sh)]⟩)]) O_w_markPage Go.Proofs.Try.f28 [.mv (.pair (.int .i64) (.pair (.int .i64) (.pair (.sl (.int .u8)) .unit))) (.pr .sh (.pr .sh (.pr (.ow .sh) .sh))) a, .dat (.int .i64) k] ⟨[Q_w_markPage a k], [⟨(.int .i64), .sh, F_w_markPage a k⟩], [.mv (.pair (.int .i64) (.pair (.int .i64) (.pair (.sl (.int .u8)) .unit))) (.pr .sh (.pr .sh (.pr (.ow .sh) .sh))) (B_w_markPage_a a k)]⟩
  generalize hg_F_w_markByteS : F_w_markByteS = g_F_w_markByteS
  generalize hg_B_w_markByteS_a : B_w_markByteS_a = g_B_w_markByteS_a
  generalize hg_Q_w_markByteS : Q_w_markByteS = g_Q_w_markByteS
  generalize hR0 : F_w_markPage a k = R0
  generalize hB_a : B_w_markPage_a a k = B_a
  generalize Q_w_markPage a k = Q0
  generalize hL : Lg.std = L
  generalize hA : Alg.std = A
  cbv
  subst hL hA
  try dsimp only [Ty.den]
  obtain ⟨f0, f1, f2, ⟨⟩⟩ := a
  simp only [Q_w_markPage] at hq
  subst hR0 hB_a hg_F_w_markByteS hg_B_w_markByteS_a hg_Q_w_markByteS
  simp only [Lg.std, Alg.std, List.drop_zero, List.take_length, F_w_markByteS, B_w_markByteS_a, Q_w_markByteS, F_w_markPage, B_w_markPage_a, szf, tot_p, tot_u, tot_i, tot_b, tot_s, cnt_p, cnt_u, cnt_i0, cnt_b0, cnt_s0, cnt_i1, cnt_b1, cnt_s1, cnt_l, mk_p, mk_u, mk_i0, mk_b0, mk_s0, mk_i1, mk_s1, mk_l, hd_p, hd_u, hd_i0, hd_b0, hd_s0, hd_i1, hd_b1, hd_s1, hd_l] at *
  all_goals grind [mk_len]
def con_w_markPage : Con := ⟨true, g2 (pV (.pair (.int .i64) (.pair (.int .i64) (.pair (.sl (.int .u8)) .unit))) (.pr .sh (.pr .sh (.pr (.ow .sh) .sh)))) (pD (.int .i64)) fun a k => ⟨[Q_w_markPage a k], [⟨(.int .i64), .sh, F_w_markPage a k⟩], [.mv (.pair (.int .i64) (.pair (.int .i64) (.pair (.sl (.int .u8)) .unit))) (.pr .sh (.pr .sh (.pr (.ow .sh) .sh))) (B_w_markPage_a a k)]⟩, [(.pr .sh (.pr .sh (.pr (.ow .sh) .sh)))]⟩
theorem ok_w_markPage : ConOk pg 28 con_w_markPage := ConOk.g2 (Enters.of (by kernel_rfl)) ct_w_markPage

def F_w_heldPage (a : (Int) × (Int) × (List (Int)) × Unit) (k : Int) : Int := hd false (.pair (.int .i64) (.pair (.int .i64) (.pair (.sl (.int .u8)) .unit))) a k
def Q_w_heldPage (a : (Int) × (Int) × (List (Int)) × Unit) (k : Int) : Prop := 0 ≤ k ∧ k + cnt false (.pair (.int .i64) (.pair (.int .i64) (.pair (.sl (.int .u8)) .unit))) a ≤ 4611686018427387904
def O_w_heldPage : Opt := ⟨fun i => false, fun i => [], fun i => .done, fun i => none⟩
def τ_w_heldPage : Env := Env.of [(2, (.int .i64)), (3, (.int .i64)), (4, .bool), (22, (.sl (.int .u8))), (27, (.pair (.int .i64) (.pair (.int .i64) (.pair (.sl (.int .u8)) .unit))))] []

theorem ct_w_heldPage (a : (Int) × (Int) × (List (Int)) × Unit) (k : Int) : Ct pg 103 [.dat (.pair (.int .i64) (.pair (.int .i64) (.pair (.sl (.int .u8)) .unit))) a, .dat (.int .i64) k] ⟨[Q_w_heldPage a k], [⟨(.int .i64), .sh, F_w_heldPage a k⟩], []⟩ := by
  refine ct_claim (O := O_w_heldPage) (τ := τ_w_heldPage) (EnvOk.of (by kernel_rfl)) (GOk.of (.cons ok_w_heldByteS .nil : AllOk pg [(84, con_w_heldByteS)])) mixed (Enters.of (by kernel_rfl)) (fn := Go.Proofs.Try.f103) (by kernel_rfl) rfl (by kernel_rfl) ?_
  intro hp hw
  have hq : Q_w_heldPage a k := hp _ (List.mem_singleton.2 rfl)
  clear hp
  change claim Lg.std Alg.std τ_w_heldPage (Gam.of [(84, ⟨true, g2 (pD (.sl (.int .u8))) (pD (.int .i64)) fun a k => ⟨[Q_w_heldByteS a k], [⟨(.int .i64), .sh, F_w_heldByteS a k⟩], []⟩, []⟩)]) O_w_heldPage Go.Proofs.Try.f103 [.dat (.pair (.int .i64) (.pair (.int .i64) (.pair (.sl (.int .u8)) .unit))) a, .dat (.int .i64) k] ⟨[Q_w_heldPage a k], [⟨(.int .i64), .sh, F_w_heldPage a k⟩], []⟩
  generalize hg_F_w_heldByteS : F_w_heldByteS = g_F_w_heldByteS
  generalize hg_Q_w_heldByteS : Q_w_heldByteS = g_Q_w_heldByteS
  generalize hR0 : F_w_heldPage a k = R0
  generalize Q_w_heldPage a k = Q0
  generalize hL : Lg.std = L
  generalize hA : Alg.std = A
  cbv
  subst hL hA
  try dsimp only [Ty.den]
  obtain ⟨f0, f1, f2, ⟨⟩⟩ := a
  have ho2 := fun k h => hd_or false (.sl (.int .u8)) f2 k h
  simp only [Q_w_heldPage] at hq
  subst hR0 hg_F_w_heldByteS hg_Q_w_heldByteS
  simp only [Lg.std, Alg.std, List.drop_zero, List.take_length, F_w_heldByteS, Q_w_heldByteS, F_w_heldPage, szf, tot_p, tot_u, tot_i, tot_b, tot_s, cnt_p, cnt_u, cnt_i0, cnt_b0, cnt_s0, cnt_i1, cnt_b1, cnt_s1, cnt_l, mk_p, mk_u, mk_i0, mk_b0, mk_s0, mk_i1, mk_s1, mk_l, hd_p, hd_u, hd_i0, hd_b0, hd_s0, hd_i1, hd_b1, hd_s1, hd_l] at *
  all_goals grind [mk_len]
def con_w_heldPage : Con := ⟨true, g2 (pD (.pair (.int .i64) (.pair (.int .i64) (.pair (.sl (.int .u8)) .unit)))) (pD (.int .i64)) fun a k => ⟨[Q_w_heldPage a k], [⟨(.int .i64), .sh, F_w_heldPage a k⟩], []⟩, []⟩
theorem ok_w_heldPage : ConOk pg 103 con_w_heldPage := ConOk.g2 (Enters.of (by kernel_rfl)) ct_w_heldPage

def F_w_toRow (a : (List (Int)) × (Int) × Unit) : (List (Int)) × (Int) × Unit := a
def Q_w_toRow (a : (List (Int)) × (Int) × Unit) : Prop := tot (.pair (.sl (.int .u8)) (.pair (.int .i64) .unit)) a ≤ 1048576
def O_w_toRow : Opt := ⟨fun i => false, fun i => [], fun i => .done, fun i => none⟩
def τ_w_toRow : Env := Env.of [(2, (.int .i64)), (22, (.sl (.int .u8))), (110, (.pair (.sl (.int .u8)) (.pair (.int .i64) .unit))), (111, (.pair (.sl (.int .u8)) (.pair (.int .i64) .unit)))] []

theorem ct_w_toRow (a : (List (Int)) × (Int) × Unit) : Ct pg 77 [.dat (.pair (.sl (.int .u8)) (.pair (.int .i64) .unit)) a] ⟨[Q_w_toRow a], [⟨(.pair (.sl (.int .u8)) (.pair (.int .i64) .unit)), (.pr (.ow .sh) (.pr .sh .sh)), F_w_toRow a⟩], []⟩ := by
  refine ct_claim (O := O_w_toRow) (τ := τ_w_toRow) (EnvOk.of (by kernel_rfl)) (GOk.of (.cons ok_w_toByteS .nil : AllOk pg [(42, con_w_toByteS)])) mixed (Enters.of (by kernel_rfl)) (fn := Go.Proofs.Try.f77) (by kernel_rfl) rfl (by kernel_rfl) ?_
  intro hp hw
  have hq : Q_w_toRow a := hp _ (List.mem_singleton.2 rfl)
  clear hp
  change claim Lg.std Alg.std τ_w_toRow (Gam.of [(42, ⟨true, g1 (pD (.sl (.int .u8))) fun a => ⟨[Q_w_toByteS a], [⟨(.sl (.int .u8)), (.ow .sh), F_w_toByteS a⟩], []⟩, []⟩)]) O_w_toRow Go.Proofs.Try.f77 [.dat (.pair (.sl (.int .u8)) (.pair (.int .i64) .unit)) a] ⟨[Q_w_toRow a], [⟨(.pair (.sl (.int .u8)) (.pair (.int .i64) .unit)), (.pr (.ow .sh) (.pr .sh .sh)), F_w_toRow a⟩], []⟩
  generalize hg_F_w_toByteS : F_w_toByteS = g_F_w_toByteS
  generalize hg_Q_w_toByteS : Q_w_toByteS = g_Q_w_toByteS
  generalize hR0 : F_w_toRow a = R0
  generalize Q_w_toRow a = Q0
  generalize hL : Lg.std = L
  generalize hA : Alg.std = A
  cbv
  subst hL hA
  try dsimp only [Ty.den]
  obtain ⟨f0, f1, ⟨⟩⟩ := a
  simp only [Q_w_toRow] at hq
  subst hR0 hg_F_w_toByteS hg_Q_w_toByteS
  simp only [Lg.std, Alg.std, List.drop_zero, List.take_length, F_w_toByteS, Q_w_toByteS, F_w_toRow, szf, tot_p, tot_u, tot_i, tot_b, tot_s, cnt_p, cnt_u, cnt_i0, cnt_b0, cnt_s0, cnt_i1, cnt_b1, cnt_s1, cnt_l, mk_p, mk_u, mk_i0, mk_b0, mk_s0, mk_i1, mk_s1, mk_l, hd_p, hd_u, hd_i0, hd_b0, hd_s0, hd_i1, hd_b1, hd_s1, hd_l] at *
  all_goals grind [mk_len]
def con_w_toRow : Con := ⟨true, g1 (pD (.pair (.sl (.int .u8)) (.pair (.int .i64) .unit))) fun a => ⟨[Q_w_toRow a], [⟨(.pair (.sl (.int .u8)) (.pair (.int .i64) .unit)), (.pr (.ow .sh) (.pr .sh .sh)), F_w_toRow a⟩], []⟩, []⟩
theorem ok_w_toRow : ConOk pg 77 con_w_toRow := ConOk.g1 (Enters.of (by kernel_rfl)) ct_w_toRow

def F_w_eqRow (a : (List (Int)) × (Int) × Unit) (b : (List (Int)) × (Int) × Unit) : Bool := decide (a = b)
def Q_w_eqRow (a : (List (Int)) × (Int) × Unit) (b : (List (Int)) × (Int) × Unit) : Prop := True
def O_w_eqRow : Opt := ⟨fun i => false, fun i => [], fun i => .done, fun i => none⟩
def τ_w_eqRow : Env := Env.of [(2, (.int .i64)), (4, .bool), (22, (.sl (.int .u8))), (111, (.pair (.sl (.int .u8)) (.pair (.int .i64) .unit)))] []

theorem ct_w_eqRow (a : (List (Int)) × (Int) × Unit) (b : (List (Int)) × (Int) × Unit) : Ct pg 81 [.dat (.pair (.sl (.int .u8)) (.pair (.int .i64) .unit)) a, .dat (.pair (.sl (.int .u8)) (.pair (.int .i64) .unit)) b] ⟨[Q_w_eqRow a b], [⟨.bool, .sh, F_w_eqRow a b⟩], []⟩ := by
  refine ct_claim (O := O_w_eqRow) (τ := τ_w_eqRow) (EnvOk.of (by kernel_rfl)) (GOk.of (.cons ok_w_eqByteS .nil : AllOk pg [(45, con_w_eqByteS)])) mixed (Enters.of (by kernel_rfl)) (fn := Go.Proofs.Try.f81) (by kernel_rfl) rfl (by kernel_rfl) ?_
  intro hp hw
  have hq : Q_w_eqRow a b := hp _ (List.mem_singleton.2 rfl)
  clear hp
  change claim Lg.std Alg.std τ_w_eqRow (Gam.of [(45, ⟨true, g2 (pD (.sl (.int .u8))) (pD (.sl (.int .u8))) fun a b => ⟨[Q_w_eqByteS a b], [⟨.bool, .sh, F_w_eqByteS a b⟩], []⟩, []⟩)]) O_w_eqRow Go.Proofs.Try.f81 [.dat (.pair (.sl (.int .u8)) (.pair (.int .i64) .unit)) a, .dat (.pair (.sl (.int .u8)) (.pair (.int .i64) .unit)) b] ⟨[Q_w_eqRow a b], [⟨.bool, .sh, F_w_eqRow a b⟩], []⟩
  generalize hg_F_w_eqByteS : F_w_eqByteS = g_F_w_eqByteS
  generalize hg_Q_w_eqByteS : Q_w_eqByteS = g_Q_w_eqByteS
  generalize hR0 : F_w_eqRow a b = R0
  generalize Q_w_eqRow a b = Q0
  generalize hL : Lg.std = L
  generalize hA : Alg.std = A
  cbv
  subst hL hA
  try dsimp only [Ty.den]
  obtain ⟨f0, f1, ⟨⟩⟩ := a
  obtain ⟨g0, g1, ⟨⟩⟩ := b
  subst hR0 hg_F_w_eqByteS hg_Q_w_eqByteS
  simp only [Q_w_eqRow] at hq
  simp only [Lg.std, Alg.std, List.drop_zero, List.take_length, F_w_eqByteS, Q_w_eqByteS, F_w_eqRow]
  all_goals grind
def con_w_eqRow : Con := ⟨true, g2 (pD (.pair (.sl (.int .u8)) (.pair (.int .i64) .unit))) (pD (.pair (.sl (.int .u8)) (.pair (.int .i64) .unit))) fun a b => ⟨[Q_w_eqRow a b], [⟨.bool, .sh, F_w_eqRow a b⟩], []⟩, []⟩
theorem ok_w_eqRow : ConOk pg 81 con_w_eqRow := ConOk.g2 (Enters.of (by kernel_rfl)) ct_w_eqRow

def F_w_szRow (a : (List (Int)) × (Int) × Unit) (left : Int) : Int := szf (tot (.pair (.sl (.int .u8)) (.pair (.int .i64) .unit)) a) left
def Q_w_szRow (a : (List (Int)) × (Int) × Unit) (left : Int) : Prop := 0 ≤ left ∧ left ≤ 1048576
def O_w_szRow : Opt := ⟨fun i => false, fun i => [], fun i => .done, fun i => none⟩
def τ_w_szRow : Env := Env.of [(3, (.int .i64)), (4, .bool), (22, (.sl (.int .u8))), (110, (.pair (.sl (.int .u8)) (.pair (.int .i64) .unit)))] []

theorem ct_w_szRow (a : (List (Int)) × (Int) × Unit) (left : Int) : Ct pg 76 [.dat (.pair (.sl (.int .u8)) (.pair (.int .i64) .unit)) a, .dat (.int .i64) left] ⟨[Q_w_szRow a left], [⟨(.int .i64), .sh, F_w_szRow a left⟩], []⟩ := by
  refine ct_claim (O := O_w_szRow) (τ := τ_w_szRow) (EnvOk.of (by kernel_rfl)) (GOk.of (.cons ok_w_szByteS .nil : AllOk pg [(71, con_w_szByteS)])) mixed (Enters.of (by kernel_rfl)) (fn := Go.Proofs.Try.f76) (by kernel_rfl) rfl (by kernel_rfl) ?_
  intro hp hw
  have hq : Q_w_szRow a left := hp _ (List.mem_singleton.2 rfl)
  clear hp
  change claim Lg.std Alg.std τ_w_szRow (Gam.of [(71, ⟨true, g2 (pD (.sl (.int .u8))) (pD (.int .i64)) fun a left => ⟨[Q_w_szByteS a left], [⟨(.int .i64), .sh, F_w_szByteS a left⟩], []⟩, []⟩)]) O_w_szRow Go.Proofs.Try.f76 [.dat (.pair (.sl (.int .u8)) (.pair (.int .i64) .unit)) a, .dat (.int .i64) left] ⟨[Q_w_szRow a left], [⟨(.int .i64), .sh, F_w_szRow a left⟩], []⟩
  generalize hg_F_w_szByteS : F_w_szByteS = g_F_w_szByteS
  generalize hg_Q_w_szByteS : Q_w_szByteS = g_Q_w_szByteS
  generalize hR0 : F_w_szRow a left = R0
  generalize Q_w_szRow a left = Q0
  generalize hL : Lg.std = L
  generalize hA : Alg.std = A
  cbv
  subst hL hA
  try dsimp only [Ty.den]
  obtain ⟨f0, f1, ⟨⟩⟩ := a
  simp only [Q_w_szRow] at hq
  subst hR0 hg_F_w_szByteS hg_Q_w_szByteS
  simp only [Lg.std, Alg.std, List.drop_zero, List.take_length, F_w_szByteS, Q_w_szByteS, F_w_szRow, szf, tot_p, tot_u, tot_i, tot_b, tot_s, cnt_p, cnt_u, cnt_i0, cnt_b0, cnt_s0, cnt_i1, cnt_b1, cnt_s1, cnt_l, mk_p, mk_u, mk_i0, mk_b0, mk_s0, mk_i1, mk_s1, mk_l, hd_p, hd_u, hd_i0, hd_b0, hd_s0, hd_i1, hd_b1, hd_s1, hd_l] at *
  all_goals grind [mk_len]
def con_w_szRow : Con := ⟨true, g2 (pD (.pair (.sl (.int .u8)) (.pair (.int .i64) .unit))) (pD (.int .i64)) fun a left => ⟨[Q_w_szRow a left], [⟨(.int .i64), .sh, F_w_szRow a left⟩], []⟩, []⟩
theorem ok_w_szRow : ConOk pg 76 con_w_szRow := ConOk.g2 (Enters.of (by kernel_rfl)) ct_w_szRow

def F_w_eqBytesResult (a : (Int) × (List (Int)) × Unit) (b : (Int) × (List (Int)) × Unit) : Bool := decide (a = b)
def Q_w_eqBytesResult (a : (Int) × (List (Int)) × Unit) (b : (Int) × (List (Int)) × Unit) : Prop := True
def O_w_eqBytesResult : Opt := ⟨fun i => false, fun i => [], fun i => .done, fun i => none⟩
def τ_w_eqBytesResult : Env := Env.of [(2, (.int .i64)), (4, .bool), (22, (.sl (.int .u8))), (38, (.pair (.int .i64) (.pair (.sl (.int .u8)) .unit)))] []

theorem ct_w_eqBytesResult (a : (Int) × (List (Int)) × Unit) (b : (Int) × (List (Int)) × Unit) : Ct pg 27 [.dat (.pair (.int .i64) (.pair (.sl (.int .u8)) .unit)) a, .dat (.pair (.int .i64) (.pair (.sl (.int .u8)) .unit)) b] ⟨[Q_w_eqBytesResult a b], [⟨.bool, .sh, F_w_eqBytesResult a b⟩], []⟩ := by
  refine ct_claim (O := O_w_eqBytesResult) (τ := τ_w_eqBytesResult) (EnvOk.of (by kernel_rfl)) (GOk.of (.cons ok_w_eqByteS .nil : AllOk pg [(45, con_w_eqByteS)])) mixed (Enters.of (by kernel_rfl)) (fn := Go.Proofs.Try.f27) (by kernel_rfl) rfl (by kernel_rfl) ?_
  intro hp hw
  have hq : Q_w_eqBytesResult a b := hp _ (List.mem_singleton.2 rfl)
  clear hp
  change claim Lg.std Alg.std τ_w_eqBytesResult (Gam.of [(45, ⟨true, g2 (pD (.sl (.int .u8))) (pD (.sl (.int .u8))) fun a b => ⟨[Q_w_eqByteS a b], [⟨.bool, .sh, F_w_eqByteS a b⟩], []⟩, []⟩)]) O_w_eqBytesResult Go.Proofs.Try.f27 [.dat (.pair (.int .i64) (.pair (.sl (.int .u8)) .unit)) a, .dat (.pair (.int .i64) (.pair (.sl (.int .u8)) .unit)) b] ⟨[Q_w_eqBytesResult a b], [⟨.bool, .sh, F_w_eqBytesResult a b⟩], []⟩
  generalize hg_F_w_eqByteS : F_w_eqByteS = g_F_w_eqByteS
  generalize hg_Q_w_eqByteS : Q_w_eqByteS = g_Q_w_eqByteS
  generalize hR0 : F_w_eqBytesResult a b = R0
  generalize Q_w_eqBytesResult a b = Q0
  generalize hL : Lg.std = L
  generalize hA : Alg.std = A
  cbv
  subst hL hA
  try dsimp only [Ty.den]
  obtain ⟨f0, f1, ⟨⟩⟩ := a
  obtain ⟨g0, g1, ⟨⟩⟩ := b
  subst hR0 hg_F_w_eqByteS hg_Q_w_eqByteS
  simp only [Q_w_eqBytesResult] at hq
  simp only [Lg.std, Alg.std, List.drop_zero, List.take_length, F_w_eqByteS, Q_w_eqByteS, F_w_eqBytesResult]
  all_goals grind
def con_w_eqBytesResult : Con := ⟨true, g2 (pD (.pair (.int .i64) (.pair (.sl (.int .u8)) .unit))) (pD (.pair (.int .i64) (.pair (.sl (.int .u8)) .unit))) fun a b => ⟨[Q_w_eqBytesResult a b], [⟨.bool, .sh, F_w_eqBytesResult a b⟩], []⟩, []⟩
theorem ok_w_eqBytesResult : ConOk pg 27 con_w_eqBytesResult := ConOk.g2 (Enters.of (by kernel_rfl)) ct_w_eqBytesResult

def F_w_markBytesResult (a : (Int) × (List (Int)) × Unit) (k : Int) : Int := k + cnt false (.pair (.int .i64) (.pair (.sl (.int .u8)) .unit)) a
def B_w_markBytesResult_a (a : (Int) × (List (Int)) × Unit) (k : Int) : (Int) × (List (Int)) × Unit := mk false (.pair (.int .i64) (.pair (.sl (.int .u8)) .unit)) a k
def Q_w_markBytesResult (a : (Int) × (List (Int)) × Unit) (k : Int) : Prop := 0 ≤ k ∧ k + cnt false (.pair (.int .i64) (.pair (.sl (.int .u8)) .unit)) a ≤ 4611686018427387904
def O_w_markBytesResult : Opt := ⟨fun i => false, fun i => [], fun i => .done, fun i => none⟩
def τ_w_markBytesResult : Env := Env.of [(3, (.int .i64)), (4, .bool), (22, (.sl (.int .u8))), (38, (.pair (.int .i64) (.pair (.sl (.int .u8)) .unit)))] []

theorem ct_w_markBytesResult (a : (Int) × (List (Int)) × Unit) (k : Int) : Ct pg 29 [.mv (.pair (.int .i64) (.pair (.sl (.int .u8)) .unit)) (.pr .sh (.pr (.ow .sh) .sh)) a, .dat (.int .i64) k] ⟨[Q_w_markBytesResult a k], [⟨(.int .i64), .sh, F_w_markBytesResult a k⟩], [.mv (.pair (.int .i64) (.pair (.sl (.int .u8)) .unit)) (.pr .sh (.pr (.ow .sh) .sh)) (B_w_markBytesResult_a a k)]⟩ := by
  refine ct_claim (O := O_w_markBytesResult) (τ := τ_w_markBytesResult) (EnvOk.of (by kernel_rfl)) (GOk.of (.cons ok_w_markByteS .nil : AllOk pg [(46, con_w_markByteS)])) mixed (Enters.of (by kernel_rfl)) (fn := Go.Proofs.Try.f29) (by kernel_rfl) rfl (by kernel_rfl) ?_
  intro hp hw
  have hq : Q_w_markBytesResult a k := hp _ (List.mem_singleton.2 rfl)
  clear hp
  change claim Lg.std Alg.std τ_w_markBytesResult (Gam.of [(46, ⟨true, g2 (pV (.sl (.int .u8)) (.ow .sh)) (pD (.int .i64)) fun a k => ⟨[Q_w_markByteS a k], [⟨(.int .i64), .sh, F_w_markByteS a k⟩], [.mv (.sl (.int .u8)) (.ow .sh) (B_w_markByteS_a a k)]⟩, [(.ow .sh)]⟩)]) O_w_markBytesResult Go.Proofs.Try.f29 [.mv (.pair (.int .i64) (.pair (.sl (.int .u8)) .unit)) (.pr .sh (.pr (.ow .sh) .sh)) a, .dat (.int .i64) k] ⟨[Q_w_markBytesResult a k], [⟨(.int .i64), .sh, F_w_markBytesResult a k⟩], [.mv (.pair (.int .i64) (.pair (.sl (.int .u8)) .unit)) (.pr .sh (.pr (.ow .sh) .sh)) (B_w_markBytesResult_a a k)]⟩
  generalize hg_F_w_markByteS : F_w_markByteS = g_F_w_markByteS
  generalize hg_B_w_markByteS_a : B_w_markByteS_a = g_B_w_markByteS_a
  generalize hg_Q_w_markByteS : Q_w_markByteS = g_Q_w_markByteS
  generalize hR0 : F_w_markBytesResult a k = R0
  generalize hB_a : B_w_markBytesResult_a a k = B_a
  generalize Q_w_markBytesResult a k = Q0
  generalize hL : Lg.std = L
  generalize hA : Alg.std = A
  cbv
  subst hL hA
  try dsimp only [Ty.den]
  obtain ⟨f0, f1, ⟨⟩⟩ := a
  simp only [Q_w_markBytesResult] at hq
  subst hR0 hB_a hg_F_w_markByteS hg_B_w_markByteS_a hg_Q_w_markByteS
  simp only [Lg.std, Alg.std, List.drop_zero, List.take_length, F_w_markByteS, B_w_markByteS_a, Q_w_markByteS, F_w_markBytesResult, B_w_markBytesResult_a, szf, tot_p, tot_u, tot_i, tot_b, tot_s, cnt_p, cnt_u, cnt_i0, cnt_b0, cnt_s0, cnt_i1, cnt_b1, cnt_s1, cnt_l, mk_p, mk_u, mk_i0, mk_b0, mk_s0, mk_i1, mk_s1, mk_l, hd_p, hd_u, hd_i0, hd_b0, hd_s0, hd_i1, hd_b1, hd_s1, hd_l] at *
  all_goals grind [mk_len]
def con_w_markBytesResult : Con := ⟨true, g2 (pV (.pair (.int .i64) (.pair (.sl (.int .u8)) .unit)) (.pr .sh (.pr (.ow .sh) .sh))) (pD (.int .i64)) fun a k => ⟨[Q_w_markBytesResult a k], [⟨(.int .i64), .sh, F_w_markBytesResult a k⟩], [.mv (.pair (.int .i64) (.pair (.sl (.int .u8)) .unit)) (.pr .sh (.pr (.ow .sh) .sh)) (B_w_markBytesResult_a a k)]⟩, [(.pr .sh (.pr (.ow .sh) .sh))]⟩
theorem ok_w_markBytesResult : ConOk pg 29 con_w_markBytesResult := ConOk.g2 (Enters.of (by kernel_rfl)) ct_w_markBytesResult

def F_w_heldBytesResult (a : (Int) × (List (Int)) × Unit) (k : Int) : Int := hd false (.pair (.int .i64) (.pair (.sl (.int .u8)) .unit)) a k
def Q_w_heldBytesResult (a : (Int) × (List (Int)) × Unit) (k : Int) : Prop := 0 ≤ k ∧ k + cnt false (.pair (.int .i64) (.pair (.sl (.int .u8)) .unit)) a ≤ 4611686018427387904
def O_w_heldBytesResult : Opt := ⟨fun i => false, fun i => [], fun i => .done, fun i => none⟩
def τ_w_heldBytesResult : Env := Env.of [(3, (.int .i64)), (4, .bool), (22, (.sl (.int .u8))), (38, (.pair (.int .i64) (.pair (.sl (.int .u8)) .unit)))] []

theorem ct_w_heldBytesResult (a : (Int) × (List (Int)) × Unit) (k : Int) : Ct pg 30 [.dat (.pair (.int .i64) (.pair (.sl (.int .u8)) .unit)) a, .dat (.int .i64) k] ⟨[Q_w_heldBytesResult a k], [⟨(.int .i64), .sh, F_w_heldBytesResult a k⟩], []⟩ := by
  refine ct_claim (O := O_w_heldBytesResult) (τ := τ_w_heldBytesResult) (EnvOk.of (by kernel_rfl)) (GOk.of (.cons ok_w_heldByteS .nil : AllOk pg [(84, con_w_heldByteS)])) mixed (Enters.of (by kernel_rfl)) (fn := Go.Proofs.Try.f30) (by kernel_rfl) rfl (by kernel_rfl) ?_
  intro hp hw
  have hq : Q_w_heldBytesResult a k := hp _ (List.mem_singleton.2 rfl)
  clear hp
  change claim Lg.std Alg.std τ_w_heldBytesResult (Gam.of [(84, ⟨true, g2 (pD (.sl (.int .u8))) (pD (.int .i64)) fun a k => ⟨[Q_w_heldByteS a k], [⟨(.int .i64), .sh, F_w_heldByteS a k⟩], []⟩, []⟩)]) O_w_heldBytesResult Go.Proofs.Try.f30 [.dat (.pair (.int .i64) (.pair (.sl (.int .u8)) .unit)) a, .dat (.int .i64) k] ⟨[Q_w_heldBytesResult a k], [⟨(.int .i64), .sh, F_w_heldBytesResult a k⟩], []⟩
  generalize hg_F_w_heldByteS : F_w_heldByteS = g_F_w_heldByteS
  generalize hg_Q_w_heldByteS : Q_w_heldByteS = g_Q_w_heldByteS
  generalize hR0 : F_w_heldBytesResult a k = R0
  generalize Q_w_heldBytesResult a k = Q0
  generalize hL : Lg.std = L
  generalize hA : Alg.std = A
  cbv
  subst hL hA
  try dsimp only [Ty.den]
  obtain ⟨f0, f1, ⟨⟩⟩ := a
  have ho1 := fun k h => hd_or false (.sl (.int .u8)) f1 k h
  simp only [Q_w_heldBytesResult] at hq
  subst hR0 hg_F_w_heldByteS hg_Q_w_heldByteS
  simp only [Lg.std, Alg.std, List.drop_zero, List.take_length, F_w_heldByteS, Q_w_heldByteS, F_w_heldBytesResult, szf, tot_p, tot_u, tot_i, tot_b, tot_s, cnt_p, cnt_u, cnt_i0, cnt_b0, cnt_s0, cnt_i1, cnt_b1, cnt_s1, cnt_l, mk_p, mk_u, mk_i0, mk_b0, mk_s0, mk_i1, mk_s1, mk_l, hd_p, hd_u, hd_i0, hd_b0, hd_s0, hd_i1, hd_b1, hd_s1, hd_l] at *
  all_goals grind [mk_len]
def con_w_heldBytesResult : Con := ⟨true, g2 (pD (.pair (.int .i64) (.pair (.sl (.int .u8)) .unit))) (pD (.int .i64)) fun a k => ⟨[Q_w_heldBytesResult a k], [⟨(.int .i64), .sh, F_w_heldBytesResult a k⟩], []⟩, []⟩
theorem ok_w_heldBytesResult : ConOk pg 30 con_w_heldBytesResult := ConOk.g2 (Enters.of (by kernel_rfl)) ct_w_heldBytesResult

def F_w_szRowS (a : List ((List (Int)) × (Int) × Unit)) (left : Int) : Int := szf (tot (.sl (.pair (.sl (.int .u8)) (.pair (.int .i64) .unit))) a) left
def Q_w_szRowS (a : List ((List (Int)) × (Int) × Unit)) (left : Int) : Prop := 0 ≤ left ∧ left ≤ 1048576
def O_w_szRowS : Opt := ⟨fun i => false, fun i => (match decide (i = 5) with | true => [true, true, false, false, false, true, false, false, false, false, false, false, false, false, false, false, false, false, false, false, false, false, false, false, false, false, false] | false => []), fun i => .done, fun i => none⟩
def τ_w_szRowS : Env := Env.of [(3, (.int .i64)), (4, .bool), (31, (.sl (.pair (.sl (.int .u8)) (.pair (.int .i64) .unit)))), (110, (.pair (.sl (.int .u8)) (.pair (.int .i64) .unit)))] []

theorem ct_w_szRowS (a : List ((List (Int)) × (Int) × Unit)) (left : Int) : Ct pg 20 [.dat (.sl (.pair (.sl (.int .u8)) (.pair (.int .i64) .unit))) a, .dat (.int .i64) left] ⟨[Q_w_szRowS a left], [⟨(.int .i64), .sh, F_w_szRowS a left⟩], []⟩ := by
  refine ct_claim (O := O_w_szRowS) (τ := τ_w_szRowS) (EnvOk.of (by kernel_rfl)) (GOk.of (.cons ok_w_szRow .nil : AllOk pg [(76, con_w_szRow)])) mixed (Enters.of (by kernel_rfl)) (fn := Go.Proofs.Try.f20) (by kernel_rfl) rfl (by kernel_rfl) ?_
  intro hp hw
  have hq : Q_w_szRowS a left := hp _ (List.mem_singleton.2 rfl)
  clear hp
  change claim Lg.std Alg.std τ_w_szRowS (Gam.of [(76, ⟨true, g2 (pD (.pair (.sl (.int .u8)) (.pair (.int .i64) .unit))) (pD (.int .i64)) fun a left => ⟨[Q_w_szRow a left], [⟨(.int .i64), .sh, F_w_szRow a left⟩], []⟩, []⟩)]) O_w_szRowS Go.Proofs.Try.f20 [.dat (.sl (.pair (.sl (.int .u8)) (.pair (.int .i64) .unit))) a, .dat (.int .i64) left] ⟨[Q_w_szRowS a left], [⟨(.int .i64), .sh, F_w_szRowS a left⟩], []⟩
  generalize hg_F_w_szRow : F_w_szRow = g_F_w_szRow
  generalize hg_Q_w_szRow : Q_w_szRow = g_Q_w_szRow
  generalize hR0 : F_w_szRowS a left = R0
  generalize Q_w_szRowS a left = Q0
  generalize hL : Lg.std = L
  generalize hA : Alg.std = A
  cbv
  subst hL hA
  try dsimp only [Ty.den]
  simp only [Q_w_szRowS] at hq
  have hl : a.length ≤ 9223372036854775807 := hw.1.1
  have hle := tot_len (.pair (.sl (.int .u8)) (.pair (.int .i64) .unit)) a
  refine ⟨by simp only [Alg.std]; omega, fun hlt => ?_, fun hge => ?_⟩
  · subst hR0 hg_F_w_szRow hg_Q_w_szRow
    simp only [Lg.std, Alg.std, List.drop_zero, List.take_length, F_w_szRow, Q_w_szRow, F_w_szRowS, szf, decide_eq_true_eq] at *
    grind
  refine lp_v (V := (Int) × (Int)) (fun ((i, l) : (Int) × (Int)) => ⟨[.dat (.sl (.pair (.sl (.int .u8)) (.pair (.int .i64) .unit))) a, .dat (.int .i64) l, .junk, .junk, .junk, .dat (.int .i64) i, .junk, .junk, .junk, .junk, .junk, .junk, .junk, .junk, .junk, .junk, .junk, .junk, .junk, .junk, .junk, .junk, .junk, .junk, .junk, .junk, .junk], []⟩) (fun ((i, l) : (Int) × (Int)) => 0 ≤ i ∧ i ≤ a.length ∧ 0 ≤ l ∧ l ≤ 1048576 ∧ left - (tot (.sl (.pair (.sl (.int .u8)) (.pair (.int .i64) .unit))) a : Int) = l - (tot (.sl (.pair (.sl (.int .u8)) (.pair (.int .i64) .unit))) (a.drop i.toNat : List ((List (Int)) × (Int) × Unit)) : Int) + (a.length - i)) (fun ((i, l) : (Int) × (Int)) => a.length - i.toNat) (0, _) rfl ?_ ?_
  · simp [Alg.std] at hge ⊢; omega
  rintro ⟨i, l⟩ hf I hI
  replace hf : 0 ≤ i ∧ i ≤ a.length ∧ 0 ≤ l ∧ l ≤ 1048576 ∧ left - (tot (.sl (.pair (.sl (.int .u8)) (.pair (.int .i64) .unit))) a : Int) = l - (tot (.sl (.pair (.sl (.int .u8)) (.pair (.int .i64) .unit))) (a.drop i.toNat : List ((List (Int)) × (Int) × Unit)) : Int) + (a.length - i) := hf
  generalize hL : Lg.std = L
  generalize hA : Alg.std = A
  cbv
  subst hL hA
  try dsimp only [Ty.den]
  subst hI
  simp only [Lg.std, Alg.std, List.drop_zero, List.take_length]
  obtain ⟨h1, h2, h3, h4, h5⟩ := hf
  have hs := fun (h : i.toNat < a.length) => tot_split (.pair (.sl (.int .u8)) (.pair (.int .i64) .unit)) a (([], 0, PUnit.unit) : (List (Int)) × (Int) × Unit) i.toNat h
  have hl2 := tot_len (.pair (.sl (.int .u8)) (.pair (.int .i64) .unit)) (a.drop (i.toNat + 1))
  have hl3 : (a.drop (i.toNat + 1)).length = a.length - (i.toNat + 1) := List.length_drop
  have hn := tot_nil (.pair (.sl (.int .u8)) (.pair (.int .i64) .unit))
  have hdc := fun (h : i.toNat < a.length) => drop_cons a (([], 0, PUnit.unit) : (List (Int)) × (Int) × Unit) i.toNat h
  have he := fun (h : a.length ≤ i.toNat) => drop_nil a i.toNat h
  repeat' (first | intro _ | apply And.intro)
  all_goals (try refine ⟨(_, _), rfl, ?_, ?_⟩)
  all_goals subst hR0 hg_F_w_szRow hg_Q_w_szRow
  all_goals (try simp only [F_w_szRow, Q_w_szRow, F_w_szRowS] at *)
  all_goals grind [szf]
def con_w_szRowS : Con := ⟨true, g2 (pD (.sl (.pair (.sl (.int .u8)) (.pair (.int .i64) .unit)))) (pD (.int .i64)) fun a left => ⟨[Q_w_szRowS a left], [⟨(.int .i64), .sh, F_w_szRowS a left⟩], []⟩, []⟩
theorem ok_w_szRowS : ConOk pg 20 con_w_szRowS := ConOk.g2 (Enters.of (by kernel_rfl)) ct_w_szRowS

def F_w_toRowS (a : List ((List (Int)) × (Int) × Unit)) : List ((List (Int)) × (Int) × Unit) := a
def Q_w_toRowS (a : List ((List (Int)) × (Int) × Unit)) : Prop := tot (.sl (.pair (.sl (.int .u8)) (.pair (.int .i64) .unit))) a ≤ 1048576
def O_w_toRowS : Opt := ⟨fun i => false, fun i => (match decide (i = 3) with | true => [true, false, false, true, true, false, false, false, false, false, false, false, false, false, false, false, false, false, false, false, false, false, false] | false => []), fun i => .done, fun i => none⟩
def τ_w_toRowS : Env := Env.of [(2, (.int .i64)), (3, (.int .i64)), (4, .bool), (31, (.sl (.pair (.sl (.int .u8)) (.pair (.int .i64) .unit)))), (34, (.sl (.pair (.sl (.int .u8)) (.pair (.int .i64) .unit)))), (110, (.pair (.sl (.int .u8)) (.pair (.int .i64) .unit))), (111, (.pair (.sl (.int .u8)) (.pair (.int .i64) .unit)))] []

theorem ct_w_toRowS (a : List ((List (Int)) × (Int) × Unit)) : Ct pg 22 [.dat (.sl (.pair (.sl (.int .u8)) (.pair (.int .i64) .unit))) a] ⟨[Q_w_toRowS a], [⟨(.sl (.pair (.sl (.int .u8)) (.pair (.int .i64) .unit))), (.ow (.pr (.ow .sh) (.pr .sh .sh))), F_w_toRowS a⟩], []⟩ := by
  refine ct_claim (O := O_w_toRowS) (τ := τ_w_toRowS) (EnvOk.of (by kernel_rfl)) (GOk.of (.cons ok_w_toRow .nil : AllOk pg [(77, con_w_toRow)])) mixed (Enters.of (by kernel_rfl)) (fn := Go.Proofs.Try.f22) (by kernel_rfl) rfl (by kernel_rfl) ?_
  intro hp hw
  have hq : Q_w_toRowS a := hp _ (List.mem_singleton.2 rfl)
  clear hp
  change claim Lg.std Alg.std τ_w_toRowS (Gam.of [(77, ⟨true, g1 (pD (.pair (.sl (.int .u8)) (.pair (.int .i64) .unit))) fun a => ⟨[Q_w_toRow a], [⟨(.pair (.sl (.int .u8)) (.pair (.int .i64) .unit)), (.pr (.ow .sh) (.pr .sh .sh)), F_w_toRow a⟩], []⟩, []⟩)]) O_w_toRowS Go.Proofs.Try.f22 [.dat (.sl (.pair (.sl (.int .u8)) (.pair (.int .i64) .unit))) a] ⟨[Q_w_toRowS a], [⟨(.sl (.pair (.sl (.int .u8)) (.pair (.int .i64) .unit))), (.ow (.pr (.ow .sh) (.pr .sh .sh))), F_w_toRowS a⟩], []⟩
  generalize hg_F_w_toRow : F_w_toRow = g_F_w_toRow
  generalize hg_Q_w_toRow : Q_w_toRow = g_Q_w_toRow
  generalize hR0 : F_w_toRowS a = R0
  generalize Q_w_toRowS a = Q0
  generalize hL : Lg.std = L
  generalize hA : Alg.std = A
  cbv
  subst hL hA
  try dsimp only [Ty.den]
  simp only [Q_w_toRowS] at hq
  have hle := tot_len (.pair (.sl (.int .u8)) (.pair (.int .i64) .unit)) a
  refine ⟨trivial, by simp only [Alg.std]; omega, ?_⟩
  refine lp_v (V := (Int) × (Nat) × (List ((List (Int)) × (Int) × Unit))) (fun ((i, N, xs) : (Int) × (Nat) × (List ((List (Int)) × (Int) × Unit))) => ⟨[.dat (.sl (.pair (.sl (.int .u8)) (.pair (.int .i64) .unit))) a, .junk, .junk, .ref (.pair (.sl (.int .u8)) (.pair (.int .i64) .unit)) 0 0 [] 0 N, .dat (.int .i64) i, .junk, .junk, .junk, .junk, .junk, .junk, .junk, .junk, .junk, .junk, .junk, .junk, .junk, .junk, .junk, .junk, .junk, .junk], [some (.row 0 (.pair (.sl (.int .u8)) (.pair (.int .i64) .unit)) (.pr (.ow .sh) (.pr .sh .sh)) xs)]⟩) (fun ((i, N, xs) : (Int) × (Nat) × (List ((List (Int)) × (Int) × Unit))) => N = a.length ∧ 0 ≤ i ∧ i ≤ a.length ∧ xs = a.take i.toNat ++ List.replicate (a.length - i.toNat) (([], 0, PUnit.unit) : (List (Int)) × (Int) × Unit)) (fun ((i, N, xs) : (Int) × (Nat) × (List ((List (Int)) × (Int) × Unit))) => a.length - i.toNat) (0, _, _) rfl ?_ ?_
  · simp [Alg.std]
  rintro ⟨i, N, xs⟩ hf I hI
  replace hf : N = a.length ∧ 0 ≤ i ∧ i ≤ a.length ∧ xs = a.take i.toNat ++ List.replicate (a.length - i.toNat) (([], 0, PUnit.unit) : (List (Int)) × (Int) × Unit) := hf
  generalize hL : Lg.std = L
  generalize hA : Alg.std = A
  cbv
  subst hL hA
  try dsimp only [Ty.den]
  subst hI
  simp only [Lg.std, Alg.std, List.drop_zero, List.take_length]
  obtain ⟨h1, h2, h3, h4⟩ := hf
  have hk := fun (h : i.toNat < a.length) => copy_step a (([], 0, PUnit.unit) : (List (Int)) × (Int) × Unit) i.toNat h
  have hl : xs.length = a.length := by rw [h4]; simp; omega
  have ha := fun (h : i.toNat < a.length) => tot_at (.pair (.sl (.int .u8)) (.pair (.int .i64) .unit)) a (([], 0, PUnit.unit) : (List (Int)) × (Int) × Unit) i.toNat h
  repeat' (first | intro _ | apply And.intro)
  all_goals (try refine ⟨(_, _, _), rfl, ?_, ?_⟩)
  all_goals subst hR0 hg_F_w_toRow hg_Q_w_toRow
  all_goals (try simp only [F_w_toRow, Q_w_toRow, F_w_toRowS] at *)
  all_goals grind
def con_w_toRowS : Con := ⟨true, g1 (pD (.sl (.pair (.sl (.int .u8)) (.pair (.int .i64) .unit)))) fun a => ⟨[Q_w_toRowS a], [⟨(.sl (.pair (.sl (.int .u8)) (.pair (.int .i64) .unit))), (.ow (.pr (.ow .sh) (.pr .sh .sh))), F_w_toRowS a⟩], []⟩, []⟩
theorem ok_w_toRowS : ConOk pg 22 con_w_toRowS := ConOk.g1 (Enters.of (by kernel_rfl)) ct_w_toRowS

def F_w_eqRowS (a : List ((List (Int)) × (Int) × Unit)) (b : List ((List (Int)) × (Int) × Unit)) : Bool := decide (a = b)
def Q_w_eqRowS (a : List ((List (Int)) × (Int) × Unit)) (b : List ((List (Int)) × (Int) × Unit)) : Prop := True
def O_w_eqRowS : Opt := ⟨fun i => (match decide (i = 6) with | true => true | false => false), fun i => (match decide (i = 4) with | true => [true, true, false, false, false, true, false, false, false, false, false, false, false, false, false, false, false, false, false, false, false, false, false, false, false, false, false] | false => []), fun i => .done, fun i => none⟩
def τ_w_eqRowS : Env := Env.of [(3, (.int .i64)), (4, .bool), (34, (.sl (.pair (.sl (.int .u8)) (.pair (.int .i64) .unit)))), (111, (.pair (.sl (.int .u8)) (.pair (.int .i64) .unit)))] []

theorem ct_w_eqRowS (a : List ((List (Int)) × (Int) × Unit)) (b : List ((List (Int)) × (Int) × Unit)) : Ct pg 24 [.dat (.sl (.pair (.sl (.int .u8)) (.pair (.int .i64) .unit))) a, .dat (.sl (.pair (.sl (.int .u8)) (.pair (.int .i64) .unit))) b] ⟨[Q_w_eqRowS a b], [⟨.bool, .sh, F_w_eqRowS a b⟩], []⟩ := by
  refine ct_claim (O := O_w_eqRowS) (τ := τ_w_eqRowS) (EnvOk.of (by kernel_rfl)) (GOk.of (.cons ok_w_eqRow .nil : AllOk pg [(81, con_w_eqRow)])) mixed (Enters.of (by kernel_rfl)) (fn := Go.Proofs.Try.f24) (by kernel_rfl) rfl (by kernel_rfl) ?_
  intro hp hw
  have hq : Q_w_eqRowS a b := hp _ (List.mem_singleton.2 rfl)
  clear hp
  change claim Lg.std Alg.std τ_w_eqRowS (Gam.of [(81, ⟨true, g2 (pD (.pair (.sl (.int .u8)) (.pair (.int .i64) .unit))) (pD (.pair (.sl (.int .u8)) (.pair (.int .i64) .unit))) fun a b => ⟨[Q_w_eqRow a b], [⟨.bool, .sh, F_w_eqRow a b⟩], []⟩, []⟩)]) O_w_eqRowS Go.Proofs.Try.f24 [.dat (.sl (.pair (.sl (.int .u8)) (.pair (.int .i64) .unit))) a, .dat (.sl (.pair (.sl (.int .u8)) (.pair (.int .i64) .unit))) b] ⟨[Q_w_eqRowS a b], [⟨.bool, .sh, F_w_eqRowS a b⟩], []⟩
  generalize hg_F_w_eqRow : F_w_eqRow = g_F_w_eqRow
  generalize hg_Q_w_eqRow : Q_w_eqRow = g_Q_w_eqRow
  generalize hR0 : F_w_eqRowS a b = R0
  generalize Q_w_eqRowS a b = Q0
  generalize hL : Lg.std = L
  generalize hA : Alg.std = A
  cbv
  subst hL hA
  try dsimp only [Ty.den]
  refine ⟨fun hne => ?_, fun heq => ?_⟩
  · subst hR0 hg_F_w_eqRow hg_Q_w_eqRow
    simp only [Alg.std, F_w_eqRow, Q_w_eqRow, F_w_eqRowS] at *
    grind
  refine lp_v (V := (Int)) (fun (i : Int) => ⟨[.dat (.sl (.pair (.sl (.int .u8)) (.pair (.int .i64) .unit))) a, .dat (.sl (.pair (.sl (.int .u8)) (.pair (.int .i64) .unit))) b, .junk, .junk, .junk, .dat (.int .i64) i, .junk, .junk, .junk, .junk, .junk, .junk, .junk, .junk, .junk, .junk, .junk, .junk, .junk, .junk, .junk, .junk, .junk, .junk, .junk, .junk, .junk], []⟩) (fun (i : Int) => a.length = b.length ∧ 0 ≤ i ∧ i ≤ a.length ∧ decide (a = b) = decide (a.drop i.toNat = b.drop i.toNat)) (fun (i : Int) => a.length - i.toNat) (0) rfl ?_ ?_
  · simp [Alg.std] at heq ⊢; omega
  rintro i hf I hI
  replace hf : a.length = b.length ∧ 0 ≤ i ∧ i ≤ a.length ∧ decide (a = b) = decide (a.drop i.toNat = b.drop i.toNat) := hf
  generalize hL : Lg.std = L
  generalize hA : Alg.std = A
  cbv
  subst hL hA
  try dsimp only [Ty.den]
  subst hI
  simp only [Lg.std, Alg.std, List.drop_zero, List.take_length]
  obtain ⟨h1, h2, h3, h4⟩ := hf
  have hl := hw.1.1
  have hdc := fun (h : i.toNat < a.length) => drop_cons a (([], 0, PUnit.unit) : (List (Int)) × (Int) × Unit) i.toNat h
  have he := fun (h : a.length ≤ i.toNat) => drop_nil a i.toNat h
  have hdc2 := fun (h : i.toNat < b.length) => drop_cons b (([], 0, PUnit.unit) : (List (Int)) × (Int) × Unit) i.toNat h
  have he2 := fun (h : b.length ≤ i.toNat) => drop_nil b i.toNat h
  repeat' (first | intro _ | apply And.intro)
  all_goals (try refine ⟨_, rfl, ?_, ?_⟩)
  all_goals subst hR0 hg_F_w_eqRow hg_Q_w_eqRow
  all_goals (try simp only [F_w_eqRow, Q_w_eqRow, F_w_eqRowS] at *)
  all_goals grind
def con_w_eqRowS : Con := ⟨true, g2 (pD (.sl (.pair (.sl (.int .u8)) (.pair (.int .i64) .unit)))) (pD (.sl (.pair (.sl (.int .u8)) (.pair (.int .i64) .unit)))) fun a b => ⟨[Q_w_eqRowS a b], [⟨.bool, .sh, F_w_eqRowS a b⟩], []⟩, []⟩
theorem ok_w_eqRowS : ConOk pg 24 con_w_eqRowS := ConOk.g2 (Enters.of (by kernel_rfl)) ct_w_eqRowS

def F_w_szByteSS (a : List (List (Int))) (left : Int) : Int := szf (tot (.sl (.sl (.int .u8))) a) left
def Q_w_szByteSS (a : List (List (Int))) (left : Int) : Prop := 0 ≤ left ∧ left ≤ 1048576
def O_w_szByteSS : Opt := ⟨fun i => false, fun i => (match decide (i = 5) with | true => [true, true, false, false, false, true, false, false, false, false, false, false, false, false, false, false, false, false, false, false, false, false, false, false, false, false, false] | false => []), fun i => .done, fun i => none⟩
def τ_w_szByteSS : Env := Env.of [(3, (.int .i64)), (4, .bool), (22, (.sl (.int .u8))), (43, (.sl (.sl (.int .u8))))] []

theorem ct_w_szByteSS (a : List (List (Int))) (left : Int) : Ct pg 85 [.dat (.sl (.sl (.int .u8))) a, .dat (.int .i64) left] ⟨[Q_w_szByteSS a left], [⟨(.int .i64), .sh, F_w_szByteSS a left⟩], []⟩ := by
  refine ct_claim (O := O_w_szByteSS) (τ := τ_w_szByteSS) (EnvOk.of (by kernel_rfl)) (GOk.of (.cons ok_w_szByteS .nil : AllOk pg [(71, con_w_szByteS)])) mixed (Enters.of (by kernel_rfl)) (fn := Go.Proofs.Try.f85) (by kernel_rfl) rfl (by kernel_rfl) ?_
  intro hp hw
  have hq : Q_w_szByteSS a left := hp _ (List.mem_singleton.2 rfl)
  clear hp
  change claim Lg.std Alg.std τ_w_szByteSS (Gam.of [(71, ⟨true, g2 (pD (.sl (.int .u8))) (pD (.int .i64)) fun a left => ⟨[Q_w_szByteS a left], [⟨(.int .i64), .sh, F_w_szByteS a left⟩], []⟩, []⟩)]) O_w_szByteSS Go.Proofs.Try.f85 [.dat (.sl (.sl (.int .u8))) a, .dat (.int .i64) left] ⟨[Q_w_szByteSS a left], [⟨(.int .i64), .sh, F_w_szByteSS a left⟩], []⟩
  generalize hg_F_w_szByteS : F_w_szByteS = g_F_w_szByteS
  generalize hg_Q_w_szByteS : Q_w_szByteS = g_Q_w_szByteS
  generalize hR0 : F_w_szByteSS a left = R0
  generalize Q_w_szByteSS a left = Q0
  generalize hL : Lg.std = L
  generalize hA : Alg.std = A
  cbv
  subst hL hA
  try dsimp only [Ty.den]
  simp only [Q_w_szByteSS] at hq
  have hl : a.length ≤ 9223372036854775807 := hw.1.1
  have hle := tot_len (.sl (.int .u8)) a
  refine ⟨by simp only [Alg.std]; omega, fun hlt => ?_, fun hge => ?_⟩
  · subst hR0 hg_F_w_szByteS hg_Q_w_szByteS
    simp only [Lg.std, Alg.std, List.drop_zero, List.take_length, F_w_szByteS, Q_w_szByteS, F_w_szByteSS, szf, decide_eq_true_eq] at *
    grind
  refine lp_v (V := (Int) × (Int)) (fun ((i, l) : (Int) × (Int)) => ⟨[.dat (.sl (.sl (.int .u8))) a, .dat (.int .i64) l, .junk, .junk, .junk, .dat (.int .i64) i, .junk, .junk, .junk, .junk, .junk, .junk, .junk, .junk, .junk, .junk, .junk, .junk, .junk, .junk, .junk, .junk, .junk, .junk, .junk, .junk, .junk], []⟩) (fun ((i, l) : (Int) × (Int)) => 0 ≤ i ∧ i ≤ a.length ∧ 0 ≤ l ∧ l ≤ 1048576 ∧ left - (tot (.sl (.sl (.int .u8))) a : Int) = l - (tot (.sl (.sl (.int .u8))) (a.drop i.toNat : List (List (Int))) : Int) + (a.length - i)) (fun ((i, l) : (Int) × (Int)) => a.length - i.toNat) (0, _) rfl ?_ ?_
  · simp [Alg.std] at hge ⊢; omega
  rintro ⟨i, l⟩ hf I hI
  replace hf : 0 ≤ i ∧ i ≤ a.length ∧ 0 ≤ l ∧ l ≤ 1048576 ∧ left - (tot (.sl (.sl (.int .u8))) a : Int) = l - (tot (.sl (.sl (.int .u8))) (a.drop i.toNat : List (List (Int))) : Int) + (a.length - i) := hf
  generalize hL : Lg.std = L
  generalize hA : Alg.std = A
  cbv
  subst hL hA
  try dsimp only [Ty.den]
  subst hI
  simp only [Lg.std, Alg.std, List.drop_zero, List.take_length]
  obtain ⟨h1, h2, h3, h4, h5⟩ := hf
  have hs := fun (h : i.toNat < a.length) => tot_split (.sl (.int .u8)) a ([] : List (Int)) i.toNat h
  have hl2 := tot_len (.sl (.int .u8)) (a.drop (i.toNat + 1))
  have hl3 : (a.drop (i.toNat + 1)).length = a.length - (i.toNat + 1) := List.length_drop
  have hn := tot_nil (.sl (.int .u8))
  have hdc := fun (h : i.toNat < a.length) => drop_cons a ([] : List (Int)) i.toNat h
  have he := fun (h : a.length ≤ i.toNat) => drop_nil a i.toNat h
  repeat' (first | intro _ | apply And.intro)
  all_goals (try refine ⟨(_, _), rfl, ?_, ?_⟩)
  all_goals subst hR0 hg_F_w_szByteS hg_Q_w_szByteS
  all_goals (try simp only [F_w_szByteS, Q_w_szByteS, F_w_szByteSS] at *)
  all_goals grind [szf]
def con_w_szByteSS : Con := ⟨true, g2 (pD (.sl (.sl (.int .u8)))) (pD (.int .i64)) fun a left => ⟨[Q_w_szByteSS a left], [⟨(.int .i64), .sh, F_w_szByteSS a left⟩], []⟩, []⟩
theorem ok_w_szByteSS : ConOk pg 85 con_w_szByteSS := ConOk.g2 (Enters.of (by kernel_rfl)) ct_w_szByteSS

def F_w_toByteSS (a : List (List (Int))) : List (List (Int)) := a
def Q_w_toByteSS (a : List (List (Int))) : Prop := tot (.sl (.sl (.int .u8))) a ≤ 1048576
def O_w_toByteSS : Opt := ⟨fun i => false, fun i => (match decide (i = 3) with | true => [true, false, false, true, true, false, false, false, false, false, false, false, false, false, false, false, false, false, false, false, false, false, false] | false => []), fun i => .done, fun i => none⟩
def τ_w_toByteSS : Env := Env.of [(2, (.int .i64)), (3, (.int .i64)), (4, .bool), (22, (.sl (.int .u8))), (43, (.sl (.sl (.int .u8))))] []

theorem ct_w_toByteSS (a : List (List (Int))) : Ct pg 88 [.dat (.sl (.sl (.int .u8))) a] ⟨[Q_w_toByteSS a], [⟨(.sl (.sl (.int .u8))), (.ow (.ow .sh)), F_w_toByteSS a⟩], []⟩ := by
  refine ct_claim (O := O_w_toByteSS) (τ := τ_w_toByteSS) (EnvOk.of (by kernel_rfl)) (GOk.of (.cons ok_w_toByteS .nil : AllOk pg [(42, con_w_toByteS)])) mixed (Enters.of (by kernel_rfl)) (fn := Go.Proofs.Try.f88) (by kernel_rfl) rfl (by kernel_rfl) ?_
  intro hp hw
  have hq : Q_w_toByteSS a := hp _ (List.mem_singleton.2 rfl)
  clear hp
  change claim Lg.std Alg.std τ_w_toByteSS (Gam.of [(42, ⟨true, g1 (pD (.sl (.int .u8))) fun a => ⟨[Q_w_toByteS a], [⟨(.sl (.int .u8)), (.ow .sh), F_w_toByteS a⟩], []⟩, []⟩)]) O_w_toByteSS Go.Proofs.Try.f88 [.dat (.sl (.sl (.int .u8))) a] ⟨[Q_w_toByteSS a], [⟨(.sl (.sl (.int .u8))), (.ow (.ow .sh)), F_w_toByteSS a⟩], []⟩
  generalize hg_F_w_toByteS : F_w_toByteS = g_F_w_toByteS
  generalize hg_Q_w_toByteS : Q_w_toByteS = g_Q_w_toByteS
  generalize hR0 : F_w_toByteSS a = R0
  generalize Q_w_toByteSS a = Q0
  generalize hL : Lg.std = L
  generalize hA : Alg.std = A
  cbv
  subst hL hA
  try dsimp only [Ty.den]
  simp only [Q_w_toByteSS] at hq
  have hle := tot_len (.sl (.int .u8)) a
  refine ⟨trivial, by simp only [Alg.std]; omega, ?_⟩
  refine lp_v (V := (Int) × (Nat) × (List (List (Int)))) (fun ((i, N, xs) : (Int) × (Nat) × (List (List (Int)))) => ⟨[.dat (.sl (.sl (.int .u8))) a, .junk, .junk, .ref (.sl (.int .u8)) 0 0 [] 0 N, .dat (.int .i64) i, .junk, .junk, .junk, .junk, .junk, .junk, .junk, .junk, .junk, .junk, .junk, .junk, .junk, .junk, .junk, .junk, .junk, .junk], [some (.row 0 (.sl (.int .u8)) (.ow .sh) xs)]⟩) (fun ((i, N, xs) : (Int) × (Nat) × (List (List (Int)))) => N = a.length ∧ 0 ≤ i ∧ i ≤ a.length ∧ xs = a.take i.toNat ++ List.replicate (a.length - i.toNat) ([] : List (Int))) (fun ((i, N, xs) : (Int) × (Nat) × (List (List (Int)))) => a.length - i.toNat) (0, _, _) rfl ?_ ?_
  · simp [Alg.std]
  rintro ⟨i, N, xs⟩ hf I hI
  replace hf : N = a.length ∧ 0 ≤ i ∧ i ≤ a.length ∧ xs = a.take i.toNat ++ List.replicate (a.length - i.toNat) ([] : List (Int)) := hf
  generalize hL : Lg.std = L
  generalize hA : Alg.std = A
  cbv
  subst hL hA
  try dsimp only [Ty.den]
  subst hI
  simp only [Lg.std, Alg.std, List.drop_zero, List.take_length]
  obtain ⟨h1, h2, h3, h4⟩ := hf
  have hk := fun (h : i.toNat < a.length) => copy_step a ([] : List (Int)) i.toNat h
  have hl : xs.length = a.length := by rw [h4]; simp; omega
  have ha := fun (h : i.toNat < a.length) => tot_at (.sl (.int .u8)) a ([] : List (Int)) i.toNat h
  repeat' (first | intro _ | apply And.intro)
  all_goals (try refine ⟨(_, _, _), rfl, ?_, ?_⟩)
  all_goals subst hR0 hg_F_w_toByteS hg_Q_w_toByteS
  all_goals (try simp only [F_w_toByteS, Q_w_toByteS, F_w_toByteSS] at *)
  all_goals grind
def con_w_toByteSS : Con := ⟨true, g1 (pD (.sl (.sl (.int .u8)))) fun a => ⟨[Q_w_toByteSS a], [⟨(.sl (.sl (.int .u8))), (.ow (.ow .sh)), F_w_toByteSS a⟩], []⟩, []⟩
theorem ok_w_toByteSS : ConOk pg 88 con_w_toByteSS := ConOk.g1 (Enters.of (by kernel_rfl)) ct_w_toByteSS

def F_w_eqByteSS (a : List (List (Int))) (b : List (List (Int))) : Bool := decide (a = b)
def Q_w_eqByteSS (a : List (List (Int))) (b : List (List (Int))) : Prop := True
def O_w_eqByteSS : Opt := ⟨fun i => (match decide (i = 6) with | true => true | false => false), fun i => (match decide (i = 4) with | true => [true, true, false, false, false, true, false, false, false, false, false, false, false, false, false, false, false, false, false, false, false, false, false, false, false, false, false] | false => []), fun i => .done, fun i => none⟩
def τ_w_eqByteSS : Env := Env.of [(3, (.int .i64)), (4, .bool), (22, (.sl (.int .u8))), (43, (.sl (.sl (.int .u8))))] []

theorem ct_w_eqByteSS (a : List (List (Int))) (b : List (List (Int))) : Ct pg 92 [.dat (.sl (.sl (.int .u8))) a, .dat (.sl (.sl (.int .u8))) b] ⟨[Q_w_eqByteSS a b], [⟨.bool, .sh, F_w_eqByteSS a b⟩], []⟩ := by
  refine ct_claim (O := O_w_eqByteSS) (τ := τ_w_eqByteSS) (EnvOk.of (by kernel_rfl)) (GOk.of (.cons ok_w_eqByteS .nil : AllOk pg [(45, con_w_eqByteS)])) mixed (Enters.of (by kernel_rfl)) (fn := Go.Proofs.Try.f92) (by kernel_rfl) rfl (by kernel_rfl) ?_
  intro hp hw
  have hq : Q_w_eqByteSS a b := hp _ (List.mem_singleton.2 rfl)
  clear hp
  change claim Lg.std Alg.std τ_w_eqByteSS (Gam.of [(45, ⟨true, g2 (pD (.sl (.int .u8))) (pD (.sl (.int .u8))) fun a b => ⟨[Q_w_eqByteS a b], [⟨.bool, .sh, F_w_eqByteS a b⟩], []⟩, []⟩)]) O_w_eqByteSS Go.Proofs.Try.f92 [.dat (.sl (.sl (.int .u8))) a, .dat (.sl (.sl (.int .u8))) b] ⟨[Q_w_eqByteSS a b], [⟨.bool, .sh, F_w_eqByteSS a b⟩], []⟩
  generalize hg_F_w_eqByteS : F_w_eqByteS = g_F_w_eqByteS
  generalize hg_Q_w_eqByteS : Q_w_eqByteS = g_Q_w_eqByteS
  generalize hR0 : F_w_eqByteSS a b = R0
  generalize Q_w_eqByteSS a b = Q0
  generalize hL : Lg.std = L
  generalize hA : Alg.std = A
  cbv
  subst hL hA
  try dsimp only [Ty.den]
  refine ⟨fun hne => ?_, fun heq => ?_⟩
  · subst hR0 hg_F_w_eqByteS hg_Q_w_eqByteS
    simp only [Alg.std, F_w_eqByteS, Q_w_eqByteS, F_w_eqByteSS] at *
    grind
  refine lp_v (V := (Int)) (fun (i : Int) => ⟨[.dat (.sl (.sl (.int .u8))) a, .dat (.sl (.sl (.int .u8))) b, .junk, .junk, .junk, .dat (.int .i64) i, .junk, .junk, .junk, .junk, .junk, .junk, .junk, .junk, .junk, .junk, .junk, .junk, .junk, .junk, .junk, .junk, .junk, .junk, .junk, .junk, .junk], []⟩) (fun (i : Int) => a.length = b.length ∧ 0 ≤ i ∧ i ≤ a.length ∧ decide (a = b) = decide (a.drop i.toNat = b.drop i.toNat)) (fun (i : Int) => a.length - i.toNat) (0) rfl ?_ ?_
  · simp [Alg.std] at heq ⊢; omega
  rintro i hf I hI
  replace hf : a.length = b.length ∧ 0 ≤ i ∧ i ≤ a.length ∧ decide (a = b) = decide (a.drop i.toNat = b.drop i.toNat) := hf
  generalize hL : Lg.std = L
  generalize hA : Alg.std = A
  cbv
  subst hL hA
  try dsimp only [Ty.den]
  subst hI
  simp only [Lg.std, Alg.std, List.drop_zero, List.take_length]
  obtain ⟨h1, h2, h3, h4⟩ := hf
  have hl := hw.1.1
  have hdc := fun (h : i.toNat < a.length) => drop_cons a ([] : List (Int)) i.toNat h
  have he := fun (h : a.length ≤ i.toNat) => drop_nil a i.toNat h
  have hdc2 := fun (h : i.toNat < b.length) => drop_cons b ([] : List (Int)) i.toNat h
  have he2 := fun (h : b.length ≤ i.toNat) => drop_nil b i.toNat h
  repeat' (first | intro _ | apply And.intro)
  all_goals (try refine ⟨_, rfl, ?_, ?_⟩)
  all_goals subst hR0 hg_F_w_eqByteS hg_Q_w_eqByteS
  all_goals (try simp only [F_w_eqByteS, Q_w_eqByteS, F_w_eqByteSS] at *)
  all_goals grind
def con_w_eqByteSS : Con := ⟨true, g2 (pD (.sl (.sl (.int .u8)))) (pD (.sl (.sl (.int .u8)))) fun a b => ⟨[Q_w_eqByteSS a b], [⟨.bool, .sh, F_w_eqByteSS a b⟩], []⟩, []⟩
theorem ok_w_eqByteSS : ConOk pg 92 con_w_eqByteSS := ConOk.g2 (Enters.of (by kernel_rfl)) ct_w_eqByteSS

def F_w_markByteSS (a : List (List (Int))) (k : Int) : Int := k + cnt false (.sl (.sl (.int .u8))) a
def B_w_markByteSS_a (a : List (List (Int))) (k : Int) : List (List (Int)) := mk false (.sl (.sl (.int .u8))) a k
def Q_w_markByteSS (a : List (List (Int))) (k : Int) : Prop := 0 ≤ k ∧ k + cnt false (.sl (.sl (.int .u8))) a ≤ 4611686018427387904
def O_w_markByteSS : Opt := ⟨fun i => false, fun i => (match decide (i = 2) with | true => [true, true, false, false, false, true, false, false, false, false, false, false, false, false, false, false, false, false, false] | false => []), fun i => .done, fun i => none⟩
def τ_w_markByteSS : Env := Env.of [(3, (.int .i64)), (4, .bool), (22, (.sl (.int .u8))), (43, (.sl (.sl (.int .u8))))] []

theorem ct_w_markByteSS (a : List (List (Int))) (k : Int) : Ct pg 125 [.mv (.sl (.sl (.int .u8))) (.ow (.ow .sh)) a, .dat (.int .i64) k] ⟨[Q_w_markByteSS a k], [⟨(.int .i64), .sh, F_w_markByteSS a k⟩], [.mv (.sl (.sl (.int .u8))) (.ow (.ow .sh)) (B_w_markByteSS_a a k)]⟩ := by
  refine ct_claim (O := O_w_markByteSS) (τ := τ_w_markByteSS) (EnvOk.of (by kernel_rfl)) (GOk.of (.cons ok_w_markByteS .nil : AllOk pg [(46, con_w_markByteS)])) mixed (Enters.of (by kernel_rfl)) (fn := Go.Proofs.Try.f125) (by kernel_rfl) rfl (by kernel_rfl) ?_
  intro hp hw
  have hq : Q_w_markByteSS a k := hp _ (List.mem_singleton.2 rfl)
  clear hp
  change claim Lg.std Alg.std τ_w_markByteSS (Gam.of [(46, ⟨true, g2 (pV (.sl (.int .u8)) (.ow .sh)) (pD (.int .i64)) fun a k => ⟨[Q_w_markByteS a k], [⟨(.int .i64), .sh, F_w_markByteS a k⟩], [.mv (.sl (.int .u8)) (.ow .sh) (B_w_markByteS_a a k)]⟩, [(.ow .sh)]⟩)]) O_w_markByteSS Go.Proofs.Try.f125 [.mv (.sl (.sl (.int .u8))) (.ow (.ow .sh)) a, .dat (.int .i64) k] ⟨[Q_w_markByteSS a k], [⟨(.int .i64), .sh, F_w_markByteSS a k⟩], [.mv (.sl (.sl (.int .u8))) (.ow (.ow .sh)) (B_w_markByteSS_a a k)]⟩
  generalize hg_F_w_markByteS : F_w_markByteS = g_F_w_markByteS
  generalize hg_B_w_markByteS_a : B_w_markByteS_a = g_B_w_markByteS_a
  generalize hg_Q_w_markByteS : Q_w_markByteS = g_Q_w_markByteS
  generalize hR0 : F_w_markByteSS a k = R0
  generalize hB_a : B_w_markByteSS_a a k = B_a
  generalize Q_w_markByteSS a k = Q0
  generalize hL : Lg.std = L
  generalize hA : Alg.std = A
  cbv
  subst hL hA
  try dsimp only [Ty.den]
  simp only [Q_w_markByteSS] at hq
  refine lp_v (V := (Int) × (Int) × (Nat) × (List (List (Int)))) (fun ((i, j, N, xs) : (Int) × (Int) × (Nat) × (List (List (Int)))) => ⟨[.ref (.sl (.int .u8)) 0 0 [] 0 N, .dat (.int .i64) j, .junk, .junk, .junk, .dat (.int .i64) i, .junk, .junk, .junk, .junk, .junk, .junk, .junk, .junk, .junk, .junk, .junk, .junk, .junk], [some (.row 0 (.sl (.int .u8)) (.ow .sh) xs), some (.gh [.ref (.sl (.int .u8)) 0 0 [] 0 N])]⟩) (fun ((i, j, N, xs) : (Int) × (Int) × (Nat) × (List (List (Int)))) => N = a.length ∧ 0 ≤ i ∧ i ≤ a.length ∧ j = k + cnt false (.sl (.sl (.int .u8))) (a.take i.toNat : List (List (Int))) ∧ xs = (mk false (.sl (.sl (.int .u8))) a k : List (List (Int))).take i.toNat ++ a.drop i.toNat) (fun ((i, j, N, xs) : (Int) × (Int) × (Nat) × (List (List (Int)))) => a.length - i.toNat) (0, k, _, _) rfl ?_ ?_
  · simp [Alg.std, cnt, cntL]
  rintro ⟨i, j, N, xs⟩ hf I hI
  replace hf : N = a.length ∧ 0 ≤ i ∧ i ≤ a.length ∧ j = k + cnt false (.sl (.sl (.int .u8))) (a.take i.toNat : List (List (Int))) ∧ xs = (mk false (.sl (.sl (.int .u8))) a k : List (List (Int))).take i.toNat ++ a.drop i.toNat := hf
  generalize hL : Lg.std = L
  generalize hA : Alg.std = A
  cbv
  subst hL hA
  try dsimp only [Ty.den]
  subst hI
  simp only [Lg.std, Alg.std, List.drop_zero, List.take_length]
  obtain ⟨h1, h2, h3, h4, h5⟩ := hf
  have hl := hw.1.1
  have hk := fun (h : i.toNat < a.length) => mk_stepT (.sl (.int .u8)) a ([] : List (Int)) k i.toNat h
  have hm := fun (h : i.toNat < a.length) => mk_mid (.sl (.int .u8)) a ([] : List (Int)) k i.toNat h
  have hml := fun (h : i.toNat ≤ a.length) => mk_midlen (.sl (.int .u8)) a k i.toNat h
  have hct := fun (h : i.toNat < a.length) => cnt_take (.sl (.int .u8)) a ([] : List (Int)) i.toNat h
  have hcl := cnt_le (.sl (.int .u8)) a (i.toNat + 1)
  have hcl0 := cnt_le (.sl (.int .u8)) a i.toNat
  have hta := fun (h : a.length ≤ i.toNat) => List.take_of_length_le h
  have htm := fun (h : a.length ≤ i.toNat) => List.take_of_length_le (l := (mk false (.sl (.sl (.int .u8))) a k : List (List (Int)))) (Nat.le_trans (Nat.le_of_eq (mk_len false (.sl (.int .u8)) a k)) h)
  have hdc := fun (h : i.toNat < a.length) => drop_cons a ([] : List (Int)) i.toNat h
  have he := fun (h : a.length ≤ i.toNat) => drop_nil a i.toNat h
  repeat' (first | intro _ | apply And.intro)
  all_goals (try refine ⟨(_, _, _, _), rfl, ?_, ?_⟩)
  all_goals subst hR0 hB_a hg_F_w_markByteS hg_B_w_markByteS_a hg_Q_w_markByteS
  all_goals (try simp only [F_w_markByteS, B_w_markByteS_a, Q_w_markByteS, F_w_markByteSS, B_w_markByteSS_a] at *)
  all_goals (try simp only [szf, tot_p, tot_u, tot_i, tot_b, tot_s, cnt_p, cnt_u, cnt_i0, cnt_b0, cnt_s0, cnt_i1, cnt_b1, cnt_s1, cnt_l, mk_p, mk_u, mk_i0, mk_b0, mk_s0, mk_i1, mk_s1, mk_l, hd_p, hd_u, hd_i0, hd_b0, hd_s0, hd_i1, hd_b1, hd_s1, hd_l] at *)
  all_goals grind [getD_set_self, List.set_set, i64_wrap]
def con_w_markByteSS : Con := ⟨true, g2 (pV (.sl (.sl (.int .u8))) (.ow (.ow .sh))) (pD (.int .i64)) fun a k => ⟨[Q_w_markByteSS a k], [⟨(.int .i64), .sh, F_w_markByteSS a k⟩], [.mv (.sl (.sl (.int .u8))) (.ow (.ow .sh)) (B_w_markByteSS_a a k)]⟩, [(.ow (.ow .sh))]⟩
theorem ok_w_markByteSS : ConOk pg 125 con_w_markByteSS := ConOk.g2 (Enters.of (by kernel_rfl)) ct_w_markByteSS

def F_w_heldByteSS (a : List (List (Int))) (k : Int) : Int := hd false (.sl (.sl (.int .u8))) a k
def Q_w_heldByteSS (a : List (List (Int))) (k : Int) : Prop := 0 ≤ k ∧ k + cnt false (.sl (.sl (.int .u8))) a ≤ 4611686018427387904
def O_w_heldByteSS : Opt := ⟨fun i => false, fun i => (match decide (i = 2) with | true => [true, true, false, false, false, true, false, false, false, false, false, false, false, false, false, false, false, false, false, false, false] | false => []), fun i => .done, fun i => none⟩
def τ_w_heldByteSS : Env := Env.of [(3, (.int .i64)), (4, .bool), (22, (.sl (.int .u8))), (43, (.sl (.sl (.int .u8))))] []

theorem ct_w_heldByteSS (a : List (List (Int))) (k : Int) : Ct pg 155 [.dat (.sl (.sl (.int .u8))) a, .dat (.int .i64) k] ⟨[Q_w_heldByteSS a k], [⟨(.int .i64), .sh, F_w_heldByteSS a k⟩], []⟩ := by
  refine ct_claim (O := O_w_heldByteSS) (τ := τ_w_heldByteSS) (EnvOk.of (by kernel_rfl)) (GOk.of (.cons ok_w_heldByteS .nil : AllOk pg [(84, con_w_heldByteS)])) mixed (Enters.of (by kernel_rfl)) (fn := Go.Proofs.Try.f155) (by kernel_rfl) rfl (by kernel_rfl) ?_
  intro hp hw
  have hq : Q_w_heldByteSS a k := hp _ (List.mem_singleton.2 rfl)
  clear hp
  change claim Lg.std Alg.std τ_w_heldByteSS (Gam.of [(84, ⟨true, g2 (pD (.sl (.int .u8))) (pD (.int .i64)) fun a k => ⟨[Q_w_heldByteS a k], [⟨(.int .i64), .sh, F_w_heldByteS a k⟩], []⟩, []⟩)]) O_w_heldByteSS Go.Proofs.Try.f155 [.dat (.sl (.sl (.int .u8))) a, .dat (.int .i64) k] ⟨[Q_w_heldByteSS a k], [⟨(.int .i64), .sh, F_w_heldByteSS a k⟩], []⟩
  generalize hg_F_w_heldByteS : F_w_heldByteS = g_F_w_heldByteS
  generalize hg_Q_w_heldByteS : Q_w_heldByteS = g_Q_w_heldByteS
  generalize hR0 : F_w_heldByteSS a k = R0
  generalize Q_w_heldByteSS a k = Q0
  generalize hL : Lg.std = L
  generalize hA : Alg.std = A
  cbv
  subst hL hA
  try dsimp only [Ty.den]
  simp only [Q_w_heldByteSS] at hq
  refine lp_v (V := (Int) × (Int)) (fun ((i, j) : (Int) × (Int)) => ⟨[.dat (.sl (.sl (.int .u8))) a, .dat (.int .i64) j, .junk, .junk, .junk, .dat (.int .i64) i, .junk, .junk, .junk, .junk, .junk, .junk, .junk, .junk, .junk, .junk, .junk, .junk, .junk, .junk, .junk], []⟩) (fun ((i, j) : (Int) × (Int)) => 0 ≤ i ∧ i ≤ a.length ∧ 0 ≤ j ∧ j + cnt false (.sl (.sl (.int .u8))) (a.drop i.toNat : List (List (Int))) ≤ 4611686018427387904 ∧ hd false (.sl (.sl (.int .u8))) a k = hd false (.sl (.sl (.int .u8))) (a.drop i.toNat : List (List (Int))) j) (fun ((i, j) : (Int) × (Int)) => a.length - i.toNat) (0, k) rfl ?_ ?_
  · simp; omega
  rintro ⟨i, j⟩ hf I hI
  replace hf : 0 ≤ i ∧ i ≤ a.length ∧ 0 ≤ j ∧ j + cnt false (.sl (.sl (.int .u8))) (a.drop i.toNat : List (List (Int))) ≤ 4611686018427387904 ∧ hd false (.sl (.sl (.int .u8))) a k = hd false (.sl (.sl (.int .u8))) (a.drop i.toNat : List (List (Int))) j := hf
  generalize hL : Lg.std = L
  generalize hA : Alg.std = A
  cbv
  subst hL hA
  try dsimp only [Ty.den]
  subst hI
  simp only [Lg.std, Alg.std, List.drop_zero, List.take_length]
  obtain ⟨h1, h2, h3, h4, h5⟩ := hf
  have hl := hw.1.1
  have hs := fun (h : i.toNat < a.length) => hd_drop (.sl (.int .u8)) a ([] : List (Int)) i.toNat j h
  have hcs := fun (h : i.toNat < a.length) => cnt_split (.sl (.int .u8)) a ([] : List (Int)) i.toNat h
  have ho := hd_or true (.sl (.int .u8)) (a.getD i.toNat ([] : List (Int))) j (by omega)
  have hn := hd_nil (.sl (.int .u8)) j
  have hdc := fun (h : i.toNat < a.length) => drop_cons a ([] : List (Int)) i.toNat h
  have he := fun (h : a.length ≤ i.toNat) => drop_nil a i.toNat h
  repeat' (first | intro _ | apply And.intro)
  all_goals (try refine ⟨(_, _), rfl, ?_, ?_⟩)
  all_goals subst hR0 hg_F_w_heldByteS hg_Q_w_heldByteS
  all_goals (try simp only [F_w_heldByteS, Q_w_heldByteS, F_w_heldByteSS] at *)
  all_goals (try simp only [szf, tot_p, tot_u, tot_i, tot_b, tot_s, cnt_p, cnt_u, cnt_i0, cnt_b0, cnt_s0, cnt_i1, cnt_b1, cnt_s1, cnt_l, mk_p, mk_u, mk_i0, mk_b0, mk_s0, mk_i1, mk_s1, mk_l, hd_p, hd_u, hd_i0, hd_b0, hd_s0, hd_i1, hd_b1, hd_s1, hd_l] at *)
  all_goals grind [i64_wrap]
def con_w_heldByteSS : Con := ⟨true, g2 (pD (.sl (.sl (.int .u8)))) (pD (.int .i64)) fun a k => ⟨[Q_w_heldByteSS a k], [⟨(.int .i64), .sh, F_w_heldByteSS a k⟩], []⟩, []⟩
theorem ok_w_heldByteSS : ConOk pg 155 con_w_heldByteSS := ConOk.g2 (Enters.of (by kernel_rfl)) ct_w_heldByteSS
end Go.Vee
