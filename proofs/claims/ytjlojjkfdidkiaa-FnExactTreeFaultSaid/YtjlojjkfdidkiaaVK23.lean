/-
  Contracts of functions of the program: what each returns for all arguments that its precondition lets in.
-/
import Derived.Test.YtjlojjkfdidkiaaVK22
set_option linter.unusedSimpArgs false
set_option linter.unusedVariables false
set_option maxRecDepth 100000
set_option maxHeartbeats 4000000
set_option synthInstance.maxHeartbeats 4000000
set_option synthInstance.maxSize 20000000
namespace Go.Vee
open Go
def treeAll (d : DiskT) (root : Int) : Int × WkT := if diskFault d ≠ 0 then (diskFault d, wk0) else treeP d root
theorem okW0 : okW wk0 := ⟨by simp [wk0], by simp [wk0], by simp [wk0], by simp [wk0]⟩
theorem treeP_0 (d : DiskT) : treeP d 0 = (0, wk0) := rfl
theorem treeP_n (d : DiskT) (r : Int) (h : r ≠ 0) : treeP d r = visP d 5 r 1 [] [] wk0 := if_neg h
theorem treeS_0 (d : DiskT) : treeS d 0 = (0, wk0) := rfl
theorem treeS_n (d : DiskT) (r : Int) (h : r ≠ 0) : treeS d r = visS d 5 r 1 [] [] wk0 := if_neg h

def F_i_walkTree (d : (List (List (Int))) × (List ((Int) × (List (Int)) × Unit)) × Unit) (root : Int) : ((List (List (Int))) × (List ((Int) × (List (Int)) × Unit)) × Unit) × (List (Int)) × (List ((List (Int)) × (Int) × Unit)) × (Int) × Unit := (d, (treeP d root).2)
def F_i_walkTree_1 (d : (List (List (Int))) × (List ((Int) × (List (Int)) × Unit)) × Unit) (root : Int) : Int := (treeP d root).1
def Q_i_walkTree (d : (List (List (Int))) × (List ((Int) × (List (Int)) × Unit)) × Unit) (root : Int) : Prop := GoodW d 64
def O_i_walkTree : Opt := ⟨fun i => false, fun i => [], fun i => .done, fun i => none, fun i => false, fun i => [], fun i => false, fun i => none, fun i => none⟩
def τ_i_walkTree : Env := Env.of [(2, (.int .i64)), (3, (.int .i64)), (4, .bool), (5, (.int .u8)), (30, (.pair (.sl (.sl (.int .u8))) (.pair (.sl (.pair (.int .i64) (.pair (.sl (.int .u8)) .unit))) .unit))), (34, (.sl (.int .u8))), (94, (.pair (.pair (.sl (.sl (.int .u8))) (.pair (.sl (.pair (.int .i64) (.pair (.sl (.int .u8)) .unit))) .unit)) (.pair (.sl (.int .i64)) (.pair (.sl (.pair (.sl (.int .u8)) (.pair (.int .i64) .unit))) (.pair (.int .i64) .unit)))))] [(83, (.pair (.pair (.sl (.sl (.int .u8))) (.pair (.sl (.pair (.int .i64) (.pair (.sl (.int .u8)) .unit))) .unit)) (.pair (.sl (.int .i64)) (.pair (.sl (.pair (.sl (.int .u8)) (.pair (.int .i64) .unit))) (.pair (.int .i64) .unit)))))] []

theorem ct_i_walkTree (d : (List (List (Int))) × (List ((Int) × (List (Int)) × Unit)) × Unit) (root : Int) : Ct pg 109 [.dat (.pair (.sl (.sl (.int .u8))) (.pair (.sl (.pair (.int .i64) (.pair (.sl (.int .u8)) .unit))) .unit)) d, .dat (.int .i64) root] ⟨[Q_i_walkTree d root], [⟨(.pair (.pair (.sl (.sl (.int .u8))) (.pair (.sl (.pair (.int .i64) (.pair (.sl (.int .u8)) .unit))) .unit)) (.pair (.sl (.int .i64)) (.pair (.sl (.pair (.sl (.int .u8)) (.pair (.int .i64) .unit))) (.pair (.int .i64) .unit)))), (.np (.pr .sh (.pr (.ow .sh) (.pr (.ow (.pr (.ow .sh) (.pr .sh .sh))) (.pr .sh .sh))))), F_i_walkTree d root⟩, ⟨(.int .i64), .sh, F_i_walkTree_1 d root⟩], []⟩ := by
  refine ct_claim (O := O_i_walkTree) (τ := τ_i_walkTree) (EnvOk.of (by kernel_rfl) (by kernel_rfl)) (GOk.of (.cons ok_i_treeWalk_visit .nil : AllOk pg [(130, con_i_treeWalk_visit)])) mixed (Enters.of (by kernel_rfl)) (fn := Go.Proofs.Try.f109) (by kernel_rfl) rfl (by kernel_rfl) ?_
  intro hp hw
  have hq : Q_i_walkTree d root := hp _ (List.mem_singleton.2 rfl)
  clear hp
  change claim Lg.std Alg.std τ_i_walkTree (Gam.of [(130, ⟨true, g5 (pW (.pair (.pair (.sl (.sl (.int .u8))) (.pair (.sl (.pair (.int .i64) (.pair (.sl (.int .u8)) .unit))) .unit)) (.pair (.sl (.int .i64)) (.pair (.sl (.pair (.sl (.int .u8)) (.pair (.int .i64) .unit))) (.pair (.int .i64) .unit)))) (.pr .sh (.pr (.ow .sh) (.pr (.ow (.pr (.ow .sh) (.pr .sh .sh))) (.pr .sh .sh))))) (pD (.int .i64)) (pD (.int .i64)) (pO (.int .u8)) (pO (.int .u8)) fun w id depth low high => .one ⟨[Q_i_treeWalk_visit w id depth low high], [⟨(.int .i64), .sh, F_i_treeWalk_visit w id depth low high⟩], [.mp (.pair (.pair (.sl (.sl (.int .u8))) (.pair (.sl (.pair (.int .i64) (.pair (.sl (.int .u8)) .unit))) .unit)) (.pair (.sl (.int .i64)) (.pair (.sl (.pair (.sl (.int .u8)) (.pair (.int .i64) .unit))) (.pair (.int .i64) .unit)))) (.pr .sh (.pr (.ow .sh) (.pr (.ow (.pr (.ow .sh) (.pr .sh .sh))) (.pr .sh .sh)))) (B_i_treeWalk_visit_w w id depth low high)]⟩, [(.pr .sh (.pr (.ow .sh) (.pr (.ow (.pr (.ow .sh) (.pr .sh .sh))) (.pr .sh .sh))))], true, 0⟩)]) O_i_walkTree Go.Proofs.Try.f109 [.dat (.pair (.sl (.sl (.int .u8))) (.pair (.sl (.pair (.int .i64) (.pair (.sl (.int .u8)) .unit))) .unit)) d, .dat (.int .i64) root] ⟨[Q_i_walkTree d root], [⟨(.pair (.pair (.sl (.sl (.int .u8))) (.pair (.sl (.pair (.int .i64) (.pair (.sl (.int .u8)) .unit))) .unit)) (.pair (.sl (.int .i64)) (.pair (.sl (.pair (.sl (.int .u8)) (.pair (.int .i64) .unit))) (.pair (.int .i64) .unit)))), (.np (.pr .sh (.pr (.ow .sh) (.pr (.ow (.pr (.ow .sh) (.pr .sh .sh))) (.pr .sh .sh))))), F_i_walkTree d root⟩, ⟨(.int .i64), .sh, F_i_walkTree_1 d root⟩], []⟩
  generalize hg_F_i_treeWalk_visit : F_i_treeWalk_visit = g_F_i_treeWalk_visit
  generalize hg_B_i_treeWalk_visit_w : B_i_treeWalk_visit_w = g_B_i_treeWalk_visit_w
  generalize hg_Q_i_treeWalk_visit : Q_i_treeWalk_visit = g_Q_i_treeWalk_visit
  generalize hR0 : F_i_walkTree d root = R0
  generalize hR1 : F_i_walkTree_1 d root = R1
  generalize Q_i_walkTree d root = Q0
  generalize hL : Lg.std = L
  generalize hA : Alg.std = A
  cbv
  subst hL hA
  try dsimp only [Ty.den]
  obtain ⟨d_0, d_1, ⟨⟩⟩ := d
  simp only [Q_i_walkTree] at hq
  have h0 := treeP_0 (d_0, d_1, PUnit.unit)
  have hn := treeP_n (d_0, d_1, PUnit.unit) root
  have h1 : (6 - (1 : Int)).toNat = 5 := rfl
  have h2 : okW ([], [], 0, PUnit.unit) := okW0
  have h3 : wk0 = ([], [], 0, PUnit.unit) := rfl
  subst hR0 hR1 hg_F_i_treeWalk_visit hg_B_i_treeWalk_visit_w hg_Q_i_treeWalk_visit
  simp only [Lg.std, Alg.std, List.drop_zero, List.take_length, F_i_treeWalk_visit, B_i_treeWalk_visit_w, Q_i_treeWalk_visit, F_i_walkTree, F_i_walkTree_1, Option.getD_none] at *
  generalize hG : GoodW (d_0, d_1, PUnit.unit) 64 = G at *
  repeat' (first | intro _ | apply And.intro)
  all_goals grind
def con_i_walkTree : Con := ⟨true, g2 (pD (.pair (.sl (.sl (.int .u8))) (.pair (.sl (.pair (.int .i64) (.pair (.sl (.int .u8)) .unit))) .unit))) (pD (.int .i64)) fun d root => .one ⟨[Q_i_walkTree d root], [⟨(.pair (.pair (.sl (.sl (.int .u8))) (.pair (.sl (.pair (.int .i64) (.pair (.sl (.int .u8)) .unit))) .unit)) (.pair (.sl (.int .i64)) (.pair (.sl (.pair (.sl (.int .u8)) (.pair (.int .i64) .unit))) (.pair (.int .i64) .unit)))), (.np (.pr .sh (.pr (.ow .sh) (.pr (.ow (.pr (.ow .sh) (.pr .sh .sh))) (.pr .sh .sh))))), F_i_walkTree d root⟩, ⟨(.int .i64), .sh, F_i_walkTree_1 d root⟩], []⟩, [], false, 0⟩
theorem ok_i_walkTree : ConOk pg 109 con_i_walkTree := ConOk.g2 (Enters.of (by kernel_rfl)) ct_i_walkTree

def F_i_treeOf (d : (List (List (Int))) × (List ((Int) × (List (Int)) × Unit)) × Unit) (root : Int) : ((List (List (Int))) × (List ((Int) × (List (Int)) × Unit)) × Unit) × (List (Int)) × (List ((List (Int)) × (Int) × Unit)) × (Int) × Unit := (if diskFault d ≠ 0 then ([], [], PUnit.unit) else d, (treeAll d root).2)
def F_i_treeOf_1 (d : (List (List (Int))) × (List ((Int) × (List (Int)) × Unit)) × Unit) (root : Int) : Int := (treeAll d root).1
def Q_i_treeOf (d : (List (List (Int))) × (List ((Int) × (List (Int)) × Unit)) × Unit) (root : Int) : Prop := True
def O_i_treeOf : Opt := ⟨fun i => false, fun i => [], fun i => .done, fun i => none, fun i => false, fun i => [], fun i => false, fun i => none, fun i => none⟩
def τ_i_treeOf : Env := Env.of [(2, (.int .i64)), (4, .bool), (5, (.int .u8)), (30, (.pair (.sl (.sl (.int .u8))) (.pair (.sl (.pair (.int .i64) (.pair (.sl (.int .u8)) .unit))) .unit))), (94, (.pair (.pair (.sl (.sl (.int .u8))) (.pair (.sl (.pair (.int .i64) (.pair (.sl (.int .u8)) .unit))) .unit)) (.pair (.sl (.int .i64)) (.pair (.sl (.pair (.sl (.int .u8)) (.pair (.int .i64) .unit))) (.pair (.int .i64) .unit)))))] [(83, (.pair (.pair (.sl (.sl (.int .u8))) (.pair (.sl (.pair (.int .i64) (.pair (.sl (.int .u8)) .unit))) .unit)) (.pair (.sl (.int .i64)) (.pair (.sl (.pair (.sl (.int .u8)) (.pair (.int .i64) .unit))) (.pair (.int .i64) .unit)))))] []

theorem ct_i_treeOf (d : (List (List (Int))) × (List ((Int) × (List (Int)) × Unit)) × Unit) (root : Int) : Ct pg 50 [.dat (.pair (.sl (.sl (.int .u8))) (.pair (.sl (.pair (.int .i64) (.pair (.sl (.int .u8)) .unit))) .unit)) d, .dat (.int .i64) root] ⟨[Q_i_treeOf d root], [⟨(.pair (.pair (.sl (.sl (.int .u8))) (.pair (.sl (.pair (.int .i64) (.pair (.sl (.int .u8)) .unit))) .unit)) (.pair (.sl (.int .i64)) (.pair (.sl (.pair (.sl (.int .u8)) (.pair (.int .i64) .unit))) (.pair (.int .i64) .unit)))), (.np (.pr .sh (.pr (.ow .sh) (.pr (.ow (.pr (.ow .sh) (.pr .sh .sh))) (.pr .sh .sh))))), F_i_treeOf d root⟩, ⟨(.int .i64), .sh, F_i_treeOf_1 d root⟩], []⟩ := by
  refine ct_claim (O := O_i_treeOf) (τ := τ_i_treeOf) (EnvOk.of (by kernel_rfl) (by kernel_rfl)) (GOk.of (.cons ok_i_DiskFault (.cons ok_i_walkTree .nil) : AllOk pg [(43, con_i_DiskFault), (109, con_i_walkTree)])) mixed (Enters.of (by kernel_rfl)) (fn := Go.Proofs.Try.f50) (by kernel_rfl) rfl (by kernel_rfl) ?_
  intro hp hw
  have hq : Q_i_treeOf d root := hp _ (List.mem_singleton.2 rfl)
  clear hp
  change claim Lg.std Alg.std τ_i_treeOf (Gam.of [(43, ⟨true, g1 (pD (.pair (.sl (.sl (.int .u8))) (.pair (.sl (.pair (.int .i64) (.pair (.sl (.int .u8)) .unit))) .unit))) fun d => .one ⟨[Q_i_DiskFault d], [⟨(.int .i64), .sh, F_i_DiskFault d⟩], []⟩, [], false, 0⟩), (109, ⟨true, g2 (pD (.pair (.sl (.sl (.int .u8))) (.pair (.sl (.pair (.int .i64) (.pair (.sl (.int .u8)) .unit))) .unit))) (pD (.int .i64)) fun d root => .one ⟨[Q_i_walkTree d root], [⟨(.pair (.pair (.sl (.sl (.int .u8))) (.pair (.sl (.pair (.int .i64) (.pair (.sl (.int .u8)) .unit))) .unit)) (.pair (.sl (.int .i64)) (.pair (.sl (.pair (.sl (.int .u8)) (.pair (.int .i64) .unit))) (.pair (.int .i64) .unit)))), (.np (.pr .sh (.pr (.ow .sh) (.pr (.ow (.pr (.ow .sh) (.pr .sh .sh))) (.pr .sh .sh))))), F_i_walkTree d root⟩, ⟨(.int .i64), .sh, F_i_walkTree_1 d root⟩], []⟩, [], false, 0⟩)]) O_i_treeOf Go.Proofs.Try.f50 [.dat (.pair (.sl (.sl (.int .u8))) (.pair (.sl (.pair (.int .i64) (.pair (.sl (.int .u8)) .unit))) .unit)) d, .dat (.int .i64) root] ⟨[Q_i_treeOf d root], [⟨(.pair (.pair (.sl (.sl (.int .u8))) (.pair (.sl (.pair (.int .i64) (.pair (.sl (.int .u8)) .unit))) .unit)) (.pair (.sl (.int .i64)) (.pair (.sl (.pair (.sl (.int .u8)) (.pair (.int .i64) .unit))) (.pair (.int .i64) .unit)))), (.np (.pr .sh (.pr (.ow .sh) (.pr (.ow (.pr (.ow .sh) (.pr .sh .sh))) (.pr .sh .sh))))), F_i_treeOf d root⟩, ⟨(.int .i64), .sh, F_i_treeOf_1 d root⟩], []⟩
  generalize hg_F_i_DiskFault : F_i_DiskFault = g_F_i_DiskFault
  generalize hg_Q_i_DiskFault : Q_i_DiskFault = g_Q_i_DiskFault
  generalize hg_F_i_walkTree : F_i_walkTree = g_F_i_walkTree
  generalize hg_F_i_walkTree_1 : F_i_walkTree_1 = g_F_i_walkTree_1
  generalize hg_Q_i_walkTree : Q_i_walkTree = g_Q_i_walkTree
  generalize hR0 : F_i_treeOf d root = R0
  generalize hR1 : F_i_treeOf_1 d root = R1
  generalize Q_i_treeOf d root = Q0
  generalize hL : Lg.std = L
  generalize hA : Alg.std = A
  cbv
  subst hL hA
  try dsimp only [Ty.den]
  obtain ⟨d_0, d_1, ⟨⟩⟩ := d
  have hg := fun h => (diskFault_good (d_0, d_1, PUnit.unit) h).w
  have h0 : treeAll (d_0, d_1, PUnit.unit) root = if diskFault (d_0, d_1, PUnit.unit) ≠ 0 then (diskFault (d_0, d_1, PUnit.unit), wk0) else treeP (d_0, d_1, PUnit.unit) root := rfl
  have h3 : wk0 = ([], [], 0, PUnit.unit) := rfl
  subst hR0 hR1 hg_F_i_DiskFault hg_Q_i_DiskFault hg_F_i_walkTree hg_F_i_walkTree_1 hg_Q_i_walkTree
  simp only [Lg.std, Alg.std, List.drop_zero, List.take_length, F_i_DiskFault, F_i_walkTree, F_i_walkTree_1, Q_i_DiskFault, Q_i_walkTree, F_i_treeOf, F_i_treeOf_1] at *
  generalize hG : GoodW (d_0, d_1, PUnit.unit) 64 = G at *
  repeat' (first | intro _ | apply And.intro)
  all_goals grind
def con_i_treeOf : Con := ⟨true, g2 (pD (.pair (.sl (.sl (.int .u8))) (.pair (.sl (.pair (.int .i64) (.pair (.sl (.int .u8)) .unit))) .unit))) (pD (.int .i64)) fun d root => .one ⟨[Q_i_treeOf d root], [⟨(.pair (.pair (.sl (.sl (.int .u8))) (.pair (.sl (.pair (.int .i64) (.pair (.sl (.int .u8)) .unit))) .unit)) (.pair (.sl (.int .i64)) (.pair (.sl (.pair (.sl (.int .u8)) (.pair (.int .i64) .unit))) (.pair (.int .i64) .unit)))), (.np (.pr .sh (.pr (.ow .sh) (.pr (.ow (.pr (.ow .sh) (.pr .sh .sh))) (.pr .sh .sh))))), F_i_treeOf d root⟩, ⟨(.int .i64), .sh, F_i_treeOf_1 d root⟩], []⟩, [], false, 0⟩
theorem ok_i_treeOf : ConOk pg 50 con_i_treeOf := ConOk.g2 (Enters.of (by kernel_rfl)) ct_i_treeOf

def F_s_l17Tree (d : (List (List (Int))) × (List ((Int) × (List (Int)) × Unit)) × Unit) (root : Int) : (List (Int)) × (List ((List (Int)) × (Int) × Unit)) × (Int) × Unit := if (treeS d root).1 ≠ 0 then wk0 else (treeS d root).2
def F_s_l17Tree_1 (d : (List (List (Int))) × (List ((Int) × (List (Int)) × Unit)) × Unit) (root : Int) : Int := (treeS d root).1
def Q_s_l17Tree (d : (List (List (Int))) × (List ((Int) × (List (Int)) × Unit)) × Unit) (root : Int) : Prop := GoodW d 64
def O_s_l17Tree : Opt := ⟨fun i => false, fun i => [], fun i => .done, fun i => none, fun i => false, fun i => [], fun i => false, fun i => none, fun i => none⟩
def τ_s_l17Tree : Env := Env.of [(2, (.int .i64)), (4, .bool), (5, (.int .u8)), (34, (.sl (.int .u8))), (77, (.pair (.sl (.int .i64)) (.pair (.sl (.pair (.sl (.int .u8)) (.pair (.int .i64) .unit))) (.pair (.int .i64) .unit))))] [(80, (.pair (.sl (.sl (.int .u8))) (.pair (.sl (.pair (.int .i64) (.pair (.sl (.int .u8)) .unit))) .unit))), (138, (.pair (.sl (.int .i64)) (.pair (.sl (.pair (.sl (.int .u8)) (.pair (.int .i64) .unit))) (.pair (.int .i64) .unit))))] []

theorem ct_s_l17Tree (d : (List (List (Int))) × (List ((Int) × (List (Int)) × Unit)) × Unit) (root : Int) : Ct pg 47 [.dptr (.pair (.sl (.sl (.int .u8))) (.pair (.sl (.pair (.int .i64) (.pair (.sl (.int .u8)) .unit))) .unit)) d, .dat (.int .i64) root] ⟨[Q_s_l17Tree d root], [⟨(.pair (.sl (.int .i64)) (.pair (.sl (.pair (.sl (.int .u8)) (.pair (.int .i64) .unit))) (.pair (.int .i64) .unit))), (.pr (.ow .sh) (.pr (.ow (.pr (.ow .sh) (.pr .sh .sh))) (.pr .sh .sh))), F_s_l17Tree d root⟩, ⟨(.int .i64), .sh, F_s_l17Tree_1 d root⟩], []⟩ := by
  refine ct_claim (O := O_s_l17Tree) (τ := τ_s_l17Tree) (EnvOk.of (by kernel_rfl) (by kernel_rfl)) (GOk.of (.cons ok_s_l17Node .nil : AllOk pg [(107, con_s_l17Node)])) mixed (Enters.of (by kernel_rfl)) (fn := Go.Proofs.Try.f47) (by kernel_rfl) rfl (by kernel_rfl) ?_
  intro hp hw
  have hq : Q_s_l17Tree d root := hp _ (List.mem_singleton.2 rfl)
  clear hp
  change claim Lg.std Alg.std τ_s_l17Tree (Gam.of [(107, ⟨true, g6 (pP (.pair (.sl (.sl (.int .u8))) (.pair (.sl (.pair (.int .i64) (.pair (.sl (.int .u8)) .unit))) .unit))) (pD (.int .i64)) (pD (.sl (.int .u8))) (pD (.sl (.int .u8))) (pD (.int .i64)) (pW (.pair (.sl (.int .i64)) (.pair (.sl (.pair (.sl (.int .u8)) (.pair (.int .i64) .unit))) (.pair (.int .i64) .unit))) (.pr (.ow .sh) (.pr (.ow (.pr (.ow .sh) (.pr .sh .sh))) (.pr .sh .sh)))) fun d id low high depth w => .one ⟨[Q_s_l17Node d id low high depth w], [⟨(.int .i64), .sh, F_s_l17Node d id low high depth w⟩], [.junk, .junk, .junk, .junk, .junk, .mp (.pair (.sl (.int .i64)) (.pair (.sl (.pair (.sl (.int .u8)) (.pair (.int .i64) .unit))) (.pair (.int .i64) .unit))) (.pr (.ow .sh) (.pr (.ow (.pr (.ow .sh) (.pr .sh .sh))) (.pr .sh .sh))) (B_s_l17Node_w d id low high depth w)]⟩, [(.pr (.ow .sh) (.pr (.ow (.pr (.ow .sh) (.pr .sh .sh))) (.pr .sh .sh)))], false, 5⟩)]) O_s_l17Tree Go.Proofs.Try.f47 [.dptr (.pair (.sl (.sl (.int .u8))) (.pair (.sl (.pair (.int .i64) (.pair (.sl (.int .u8)) .unit))) .unit)) d, .dat (.int .i64) root] ⟨[Q_s_l17Tree d root], [⟨(.pair (.sl (.int .i64)) (.pair (.sl (.pair (.sl (.int .u8)) (.pair (.int .i64) .unit))) (.pair (.int .i64) .unit))), (.pr (.ow .sh) (.pr (.ow (.pr (.ow .sh) (.pr .sh .sh))) (.pr .sh .sh))), F_s_l17Tree d root⟩, ⟨(.int .i64), .sh, F_s_l17Tree_1 d root⟩], []⟩
  generalize hg_F_s_l17Node : F_s_l17Node = g_F_s_l17Node
  generalize hg_B_s_l17Node_w : B_s_l17Node_w = g_B_s_l17Node_w
  generalize hg_Q_s_l17Node : Q_s_l17Node = g_Q_s_l17Node
  generalize hR0 : F_s_l17Tree d root = R0
  generalize hR1 : F_s_l17Tree_1 d root = R1
  generalize Q_s_l17Tree d root = Q0
  generalize hL : Lg.std = L
  generalize hA : Alg.std = A
  cbv
  subst hL hA
  try dsimp only [Ty.den]
  obtain ⟨d_0, d_1, ⟨⟩⟩ := d
  simp only [Q_s_l17Tree] at hq
  have h0 := treeS_0 (d_0, d_1, PUnit.unit)
  have hn := treeS_n (d_0, d_1, PUnit.unit) root
  have h1 : (6 - (1 : Int)).toNat = 5 := rfl
  have h2 : okW ([], [], 0, PUnit.unit) := okW0
  have h3 : wk0 = ([], [], 0, PUnit.unit) := rfl
  subst hR0 hR1 hg_F_s_l17Node hg_B_s_l17Node_w hg_Q_s_l17Node
  simp only [Lg.std, Alg.std, List.drop_zero, List.take_length, F_s_l17Node, B_s_l17Node_w, Q_s_l17Node, F_s_l17Tree, F_s_l17Tree_1] at *
  generalize hG : GoodW (d_0, d_1, PUnit.unit) 64 = G at *
  repeat' (first | intro _ | apply And.intro)
  all_goals grind
def con_s_l17Tree : Con := ⟨true, g2 (pP (.pair (.sl (.sl (.int .u8))) (.pair (.sl (.pair (.int .i64) (.pair (.sl (.int .u8)) .unit))) .unit))) (pD (.int .i64)) fun d root => .one ⟨[Q_s_l17Tree d root], [⟨(.pair (.sl (.int .i64)) (.pair (.sl (.pair (.sl (.int .u8)) (.pair (.int .i64) .unit))) (.pair (.int .i64) .unit))), (.pr (.ow .sh) (.pr (.ow (.pr (.ow .sh) (.pr .sh .sh))) (.pr .sh .sh))), F_s_l17Tree d root⟩, ⟨(.int .i64), .sh, F_s_l17Tree_1 d root⟩], []⟩, [], false, 0⟩
theorem ok_s_l17Tree : ConOk pg 47 con_s_l17Tree := ConOk.g2 (Enters.of (by kernel_rfl)) ct_s_l17Tree

def F_i_TreeFault (d : (List (List (Int))) × (List ((Int) × (List (Int)) × Unit)) × Unit) (root : Int) : Int := (treeAll d root).1
def Q_i_TreeFault (d : (List (List (Int))) × (List ((Int) × (List (Int)) × Unit)) × Unit) (root : Int) : Prop := True
def O_i_TreeFault : Opt := ⟨fun i => false, fun i => [], fun i => .done, fun i => none, fun i => false, fun i => [], fun i => false, fun i => none, fun i => none⟩
def τ_i_TreeFault : Env := Env.of [(2, (.int .i64)), (4, .bool), (30, (.pair (.sl (.sl (.int .u8))) (.pair (.sl (.pair (.int .i64) (.pair (.sl (.int .u8)) .unit))) .unit)))] [(83, (.pair (.pair (.sl (.sl (.int .u8))) (.pair (.sl (.pair (.int .i64) (.pair (.sl (.int .u8)) .unit))) .unit)) (.pair (.sl (.int .i64)) (.pair (.sl (.pair (.sl (.int .u8)) (.pair (.int .i64) .unit))) (.pair (.int .i64) .unit)))))] []

theorem ct_i_TreeFault (d : (List (List (Int))) × (List ((Int) × (List (Int)) × Unit)) × Unit) (root : Int) : Ct pg 12 [.dat (.pair (.sl (.sl (.int .u8))) (.pair (.sl (.pair (.int .i64) (.pair (.sl (.int .u8)) .unit))) .unit)) d, .dat (.int .i64) root] ⟨[Q_i_TreeFault d root], [⟨(.int .i64), .sh, F_i_TreeFault d root⟩], []⟩ := by
  refine ct_claim (O := O_i_TreeFault) (τ := τ_i_TreeFault) (EnvOk.of (by kernel_rfl) (by kernel_rfl)) (GOk.of (.cons ok_i_treeOf .nil : AllOk pg [(50, con_i_treeOf)])) mixed (Enters.of (by kernel_rfl)) (fn := Go.Proofs.Try.f12) (by kernel_rfl) rfl (by kernel_rfl) ?_
  intro hp hw
  have hq : Q_i_TreeFault d root := hp _ (List.mem_singleton.2 rfl)
  clear hp
  change claim Lg.std Alg.std τ_i_TreeFault (Gam.of [(50, ⟨true, g2 (pD (.pair (.sl (.sl (.int .u8))) (.pair (.sl (.pair (.int .i64) (.pair (.sl (.int .u8)) .unit))) .unit))) (pD (.int .i64)) fun d root => .one ⟨[Q_i_treeOf d root], [⟨(.pair (.pair (.sl (.sl (.int .u8))) (.pair (.sl (.pair (.int .i64) (.pair (.sl (.int .u8)) .unit))) .unit)) (.pair (.sl (.int .i64)) (.pair (.sl (.pair (.sl (.int .u8)) (.pair (.int .i64) .unit))) (.pair (.int .i64) .unit)))), (.np (.pr .sh (.pr (.ow .sh) (.pr (.ow (.pr (.ow .sh) (.pr .sh .sh))) (.pr .sh .sh))))), F_i_treeOf d root⟩, ⟨(.int .i64), .sh, F_i_treeOf_1 d root⟩], []⟩, [], false, 0⟩)]) O_i_TreeFault Go.Proofs.Try.f12 [.dat (.pair (.sl (.sl (.int .u8))) (.pair (.sl (.pair (.int .i64) (.pair (.sl (.int .u8)) .unit))) .unit)) d, .dat (.int .i64) root] ⟨[Q_i_TreeFault d root], [⟨(.int .i64), .sh, F_i_TreeFault d root⟩], []⟩
  generalize hg_F_i_treeOf : F_i_treeOf = g_F_i_treeOf
  generalize hg_F_i_treeOf_1 : F_i_treeOf_1 = g_F_i_treeOf_1
  generalize hg_Q_i_treeOf : Q_i_treeOf = g_Q_i_treeOf
  generalize hR0 : F_i_TreeFault d root = R0
  generalize Q_i_TreeFault d root = Q0
  generalize hL : Lg.std = L
  generalize hA : Alg.std = A
  cbv
  subst hL hA
  try dsimp only [Ty.den]
  obtain ⟨d_0, d_1, ⟨⟩⟩ := d
  subst hR0 hg_F_i_treeOf hg_F_i_treeOf_1 hg_Q_i_treeOf
  simp only [Q_i_TreeFault] at hq
  simp only [Lg.std, Alg.std, List.drop_zero, List.take_length, F_i_treeOf, F_i_treeOf_1, Q_i_treeOf, F_i_TreeFault]
  all_goals grind
def con_i_TreeFault : Con := ⟨true, g2 (pD (.pair (.sl (.sl (.int .u8))) (.pair (.sl (.pair (.int .i64) (.pair (.sl (.int .u8)) .unit))) .unit))) (pD (.int .i64)) fun d root => .one ⟨[Q_i_TreeFault d root], [⟨(.int .i64), .sh, F_i_TreeFault d root⟩], []⟩, [], false, 0⟩
theorem ok_i_TreeFault : ConOk pg 12 con_i_TreeFault := ConOk.g2 (Enters.of (by kernel_rfl)) ct_i_TreeFault

def F_s_TreeFault (d : (List (List (Int))) × (List ((Int) × (List (Int)) × Unit)) × Unit) (root : Int) : Int := (treeAll d root).1
def Q_s_TreeFault (d : (List (List (Int))) × (List ((Int) × (List (Int)) × Unit)) × Unit) (root : Int) : Prop := True
def O_s_TreeFault : Opt := ⟨fun i => false, fun i => [], fun i => .done, fun i => none, fun i => false, fun i => [], fun i => false, fun i => none, fun i => none⟩
def τ_s_TreeFault : Env := Env.of [(2, (.int .i64)), (4, .bool), (30, (.pair (.sl (.sl (.int .u8))) (.pair (.sl (.pair (.int .i64) (.pair (.sl (.int .u8)) .unit))) .unit))), (77, (.pair (.sl (.int .i64)) (.pair (.sl (.pair (.sl (.int .u8)) (.pair (.int .i64) .unit))) (.pair (.int .i64) .unit))))] [(80, (.pair (.sl (.sl (.int .u8))) (.pair (.sl (.pair (.int .i64) (.pair (.sl (.int .u8)) .unit))) .unit)))] []

theorem ct_s_TreeFault (d : (List (List (Int))) × (List ((Int) × (List (Int)) × Unit)) × Unit) (root : Int) : Ct pg 10 [.dat (.pair (.sl (.sl (.int .u8))) (.pair (.sl (.pair (.int .i64) (.pair (.sl (.int .u8)) .unit))) .unit)) d, .dat (.int .i64) root] ⟨[Q_s_TreeFault d root], [⟨(.int .i64), .sh, F_s_TreeFault d root⟩], []⟩ := by
  refine ct_claim (O := O_s_TreeFault) (τ := τ_s_TreeFault) (EnvOk.of (by kernel_rfl) (by kernel_rfl)) (GOk.of (.cons ok_s_DiskFault (.cons ok_s_l17Tree .nil) : AllOk pg [(46, con_s_DiskFault), (47, con_s_l17Tree)])) mixed (Enters.of (by kernel_rfl)) (fn := Go.Proofs.Try.f10) (by kernel_rfl) rfl (by kernel_rfl) ?_
  intro hp hw
  have hq : Q_s_TreeFault d root := hp _ (List.mem_singleton.2 rfl)
  clear hp
  change claim Lg.std Alg.std τ_s_TreeFault (Gam.of [(46, ⟨true, g1 (pD (.pair (.sl (.sl (.int .u8))) (.pair (.sl (.pair (.int .i64) (.pair (.sl (.int .u8)) .unit))) .unit))) fun d => .one ⟨[Q_s_DiskFault d], [⟨(.int .i64), .sh, F_s_DiskFault d⟩], []⟩, [], false, 0⟩), (47, ⟨true, g2 (pP (.pair (.sl (.sl (.int .u8))) (.pair (.sl (.pair (.int .i64) (.pair (.sl (.int .u8)) .unit))) .unit))) (pD (.int .i64)) fun d root => .one ⟨[Q_s_l17Tree d root], [⟨(.pair (.sl (.int .i64)) (.pair (.sl (.pair (.sl (.int .u8)) (.pair (.int .i64) .unit))) (.pair (.int .i64) .unit))), (.pr (.ow .sh) (.pr (.ow (.pr (.ow .sh) (.pr .sh .sh))) (.pr .sh .sh))), F_s_l17Tree d root⟩, ⟨(.int .i64), .sh, F_s_l17Tree_1 d root⟩], []⟩, [], false, 0⟩)]) O_s_TreeFault Go.Proofs.Try.f10 [.dat (.pair (.sl (.sl (.int .u8))) (.pair (.sl (.pair (.int .i64) (.pair (.sl (.int .u8)) .unit))) .unit)) d, .dat (.int .i64) root] ⟨[Q_s_TreeFault d root], [⟨(.int .i64), .sh, F_s_TreeFault d root⟩], []⟩
  generalize hg_F_s_DiskFault : F_s_DiskFault = g_F_s_DiskFault
  generalize hg_Q_s_DiskFault : Q_s_DiskFault = g_Q_s_DiskFault
  generalize hg_F_s_l17Tree : F_s_l17Tree = g_F_s_l17Tree
  generalize hg_F_s_l17Tree_1 : F_s_l17Tree_1 = g_F_s_l17Tree_1
  generalize hg_Q_s_l17Tree : Q_s_l17Tree = g_Q_s_l17Tree
  generalize hR0 : F_s_TreeFault d root = R0
  generalize Q_s_TreeFault d root = Q0
  generalize hL : Lg.std = L
  generalize hA : Alg.std = A
  cbv
  subst hL hA
  try dsimp only [Ty.den]
  obtain ⟨d_0, d_1, ⟨⟩⟩ := d
  have hg := fun h => (diskFault_good (d_0, d_1, PUnit.unit) h).w
  have h0 : treeAll (d_0, d_1, PUnit.unit) root = if diskFault (d_0, d_1, PUnit.unit) ≠ 0 then (diskFault (d_0, d_1, PUnit.unit), wk0) else treeP (d_0, d_1, PUnit.unit) root := rfl
  have h1 := (tree_rel (d_0, d_1, PUnit.unit) root).1
  subst hR0 hg_F_s_DiskFault hg_Q_s_DiskFault hg_F_s_l17Tree hg_F_s_l17Tree_1 hg_Q_s_l17Tree
  simp only [Lg.std, Alg.std, List.drop_zero, List.take_length, F_s_DiskFault, F_s_l17Tree, F_s_l17Tree_1, Q_s_DiskFault, Q_s_l17Tree, F_s_TreeFault] at *
  generalize hG : GoodW (d_0, d_1, PUnit.unit) 64 = G at *
  repeat' (first | intro _ | apply And.intro)
  all_goals grind
def con_s_TreeFault : Con := ⟨true, g2 (pD (.pair (.sl (.sl (.int .u8))) (.pair (.sl (.pair (.int .i64) (.pair (.sl (.int .u8)) .unit))) .unit))) (pD (.int .i64)) fun d root => .one ⟨[Q_s_TreeFault d root], [⟨(.int .i64), .sh, F_s_TreeFault d root⟩], []⟩, [], false, 0⟩
theorem ok_s_TreeFault : ConOk pg 10 con_s_TreeFault := ConOk.g2 (Enters.of (by kernel_rfl)) ct_s_TreeFault

def F_w_FnExactTreeFault (d : (List (List (Int))) × (List ((Int) × (List (Int)) × Unit)) × Unit) (root : Int) : Bool := true
def Q_w_FnExactTreeFault (d : (List (List (Int))) × (List ((Int) × (List (Int)) × Unit)) × Unit) (root : Int) : Prop := True
def O_w_FnExactTreeFault : Opt := ⟨fun i => false, fun i => [], fun i => (match decide (i = 10) with | true => (.alt 0 (.alt 1 (.alt 2 (.alt 3 (.take 4 .done) .no) .no) .no) (.alt 1 (.alt 0 (.alt 2 (.alt 3 (.take 4 .done) .no) .no) (.alt 2 (.take 0 (.alt 3 (.take 4 .done) .no)) .no)) .no)) | false => .done), fun i => (match decide (i = 10) with | true => some [false, false, false, false, false, false, false, false, false, false, false, false, false, false, false, false, false, false, false, false, false, false, false, false, false, false, false, false, false, false, true] | false => none), fun i => false, fun i => [], fun i => false, fun i => none, fun i => none⟩
def τ_w_FnExactTreeFault : Env := Env.of [(2, (.int .i64)), (3, (.int .i64)), (4, .bool), (25, (.pair (.sl (.sl (.int .u8))) (.pair (.sl (.pair (.int .i64) (.pair (.sl (.int .u8)) .unit))) .unit))), (30, (.pair (.sl (.sl (.int .u8))) (.pair (.sl (.pair (.int .i64) (.pair (.sl (.int .u8)) .unit))) .unit)))] [] []

theorem ct_w_FnExactTreeFault (d : (List (List (Int))) × (List ((Int) × (List (Int)) × Unit)) × Unit) (root : Int) : Ct pg 3 [.dat (.pair (.sl (.sl (.int .u8))) (.pair (.sl (.pair (.int .i64) (.pair (.sl (.int .u8)) .unit))) .unit)) d, .dat (.int .i64) root] ⟨[Q_w_FnExactTreeFault d root], [⟨.bool, .sh, F_w_FnExactTreeFault d root⟩], []⟩ := by
  refine ct_claim (O := O_w_FnExactTreeFault) (τ := τ_w_FnExactTreeFault) (EnvOk.of (by kernel_rfl) (by kernel_rfl)) (GOk.of (.cons ok_w_toDisk (.cons ok_w_eqDisk (.cons ok_w_szDisk (.cons ok_i_TreeFault (.cons ok_s_TreeFault .nil)))) : AllOk pg [(11, con_w_toDisk), (13, con_w_eqDisk), (9, con_w_szDisk), (12, con_i_TreeFault), (10, con_s_TreeFault)])) mixed (Enters.of (by kernel_rfl)) (fn := Go.Proofs.Try.f3) (by kernel_rfl) rfl (by kernel_rfl) ?_
  intro hp hw
  have hq : Q_w_FnExactTreeFault d root := hp _ (List.mem_singleton.2 rfl)
  clear hp
  change claim Lg.std Alg.std τ_w_FnExactTreeFault (Gam.of [(11, ⟨true, g1 (pD (.pair (.sl (.sl (.int .u8))) (.pair (.sl (.pair (.int .i64) (.pair (.sl (.int .u8)) .unit))) .unit))) fun a => .one ⟨[Q_w_toDisk a], [⟨(.pair (.sl (.sl (.int .u8))) (.pair (.sl (.pair (.int .i64) (.pair (.sl (.int .u8)) .unit))) .unit)), (.pr (.ow (.ow .sh)) (.pr (.ow (.pr .sh (.pr (.ow .sh) .sh))) .sh)), F_w_toDisk a⟩], []⟩, [], false, 0⟩), (13, ⟨true, g2 (pD (.pair (.sl (.sl (.int .u8))) (.pair (.sl (.pair (.int .i64) (.pair (.sl (.int .u8)) .unit))) .unit))) (pD (.pair (.sl (.sl (.int .u8))) (.pair (.sl (.pair (.int .i64) (.pair (.sl (.int .u8)) .unit))) .unit))) fun a b => .one ⟨[Q_w_eqDisk a b], [⟨.bool, .sh, F_w_eqDisk a b⟩], []⟩, [], false, 0⟩), (9, ⟨true, g2 (pD (.pair (.sl (.sl (.int .u8))) (.pair (.sl (.pair (.int .i64) (.pair (.sl (.int .u8)) .unit))) .unit))) (pD (.int .i64)) fun a left => .one ⟨[Q_w_szDisk a left], [⟨(.int .i64), .sh, F_w_szDisk a left⟩], []⟩, [], false, 0⟩), (12, ⟨true, g2 (pD (.pair (.sl (.sl (.int .u8))) (.pair (.sl (.pair (.int .i64) (.pair (.sl (.int .u8)) .unit))) .unit))) (pD (.int .i64)) fun d root => .one ⟨[Q_i_TreeFault d root], [⟨(.int .i64), .sh, F_i_TreeFault d root⟩], []⟩, [], false, 0⟩), (10, ⟨true, g2 (pD (.pair (.sl (.sl (.int .u8))) (.pair (.sl (.pair (.int .i64) (.pair (.sl (.int .u8)) .unit))) .unit))) (pD (.int .i64)) fun d root => .one ⟨[Q_s_TreeFault d root], [⟨(.int .i64), .sh, F_s_TreeFault d root⟩], []⟩, [], false, 0⟩)]) O_w_FnExactTreeFault Go.Proofs.Try.f3 [.dat (.pair (.sl (.sl (.int .u8))) (.pair (.sl (.pair (.int .i64) (.pair (.sl (.int .u8)) .unit))) .unit)) d, .dat (.int .i64) root] ⟨[Q_w_FnExactTreeFault d root], [⟨.bool, .sh, F_w_FnExactTreeFault d root⟩], []⟩
  generalize hg_F_w_toDisk : F_w_toDisk = g_F_w_toDisk
  generalize hg_Q_w_toDisk : Q_w_toDisk = g_Q_w_toDisk
  generalize hg_F_w_eqDisk : F_w_eqDisk = g_F_w_eqDisk
  generalize hg_Q_w_eqDisk : Q_w_eqDisk = g_Q_w_eqDisk
  generalize hg_F_w_szDisk : F_w_szDisk = g_F_w_szDisk
  generalize hg_Q_w_szDisk : Q_w_szDisk = g_Q_w_szDisk
  generalize hg_F_i_TreeFault : F_i_TreeFault = g_F_i_TreeFault
  generalize hg_Q_i_TreeFault : Q_i_TreeFault = g_Q_i_TreeFault
  generalize hg_F_s_TreeFault : F_s_TreeFault = g_F_s_TreeFault
  generalize hg_Q_s_TreeFault : Q_s_TreeFault = g_Q_s_TreeFault
  generalize hR0 : F_w_FnExactTreeFault d root = R0
  generalize Q_w_FnExactTreeFault d root = Q0
  generalize hL : Lg.std = L
  generalize hA : Alg.std = A
  cbv
  subst hL hA
  try dsimp only [Ty.den]
  obtain ⟨d_0, d_1, ⟨⟩⟩ := d
  subst hR0 hg_F_w_toDisk hg_Q_w_toDisk hg_F_w_eqDisk hg_Q_w_eqDisk hg_F_w_szDisk hg_Q_w_szDisk hg_F_i_TreeFault hg_Q_i_TreeFault hg_F_s_TreeFault hg_Q_s_TreeFault
  simp only [Lg.std, Alg.std, List.drop_zero, List.take_length, F_w_toDisk, F_w_eqDisk, F_w_szDisk, F_i_TreeFault, F_s_TreeFault, Q_w_toDisk, Q_w_eqDisk, Q_w_szDisk, Q_i_TreeFault, Q_s_TreeFault, F_w_FnExactTreeFault, szf] at *
  try simp only [ne_eq, not_true_eq_false, decide_true, decide_false, Bool.not_true, Bool.not_false, Bool.false_eq_true, Bool.true_eq_false, false_implies, forall_const, implies_true, true_and, and_true, reduceCtorEq, false_implies, true_implies]
  repeat' (first | intro _ | apply And.intro)
  all_goals grind

def con_w_FnExactTreeFault : Con := ⟨true, g2 (pD (.pair (.sl (.sl (.int .u8))) (.pair (.sl (.pair (.int .i64) (.pair (.sl (.int .u8)) .unit))) .unit))) (pD (.int .i64)) fun d root => .one ⟨[Q_w_FnExactTreeFault d root], [⟨.bool, .sh, F_w_FnExactTreeFault d root⟩], []⟩, [], false, 0⟩
theorem ok_w_FnExactTreeFault : ConOk pg 3 con_w_FnExactTreeFault := ConOk.g2 (Enters.of (by kernel_rfl)) ct_w_FnExactTreeFault
end Go.Vee
