/-
  Contracts of functions of the program: what each returns for all arguments that its precondition lets in.
-/
import Derived.Test.YtjlojjkfdidkiaaVK22
set_option linter.unusedSimpArgs false
set_option linter.unusedVariables false
set_option maxRecDepth 100000
set_option maxHeartbeats 4000000
set_option synthInstance.maxHeartbeats 4000000
set_option synthInstance.maxSize 20000000
namespace Go.Vee
open Go
def treeAll (d : DiskT) (root : Int) : Int × WkT := if diskFault d ≠ 0 then (diskFault d, wk0) else treeP d root
theorem okW0 : okW wk0 := ⟨by simp [wk0], by simp [wk0], by simp [wk0], by simp [wk0]⟩
theorem treeP_0 (d : DiskT) : treeP d 0 = (0, wk0) := rfl
theorem treeP_n (d : DiskT) (r : Int) (h : r ≠ 0) : treeP d r = visP d 5 r 1 [] [] wk0 := if_neg h
theorem treeS_0 (d : DiskT) : treeS d 0 = (0, wk0) := rfl
theorem treeS_n (d : DiskT) (r : Int) (h : r ≠ 0) : treeS d r = visS d 5 r 1 [] [] wk0 := if_neg h
def treeSA (d : DiskT) (root : Int) : WkT × Int := if diskFault d ≠ 0 then (wk0, diskFault d) else if (treeS d root).1 ≠ 0 then (wk0, (treeS d root).1) else ((treeS d root).2, 0)
theorem treeSA_code (d : DiskT) (root : Int) : (treeSA d root).2 = (treeAll d root).1 := by
  have h := tree_rel d root
  unfold treeSA treeAll
  split
  · rfl
  · split
    · exact h.1
    · rename_i h1
      have := h.1
      simp only [Decidable.not_not] at h1
      dsimp only
      omega
theorem treeSA_rows (d : DiskT) (root : Int) (h : (treeAll d root).1 = 0) : (treeSA d root).1 = sortW (treeAll d root).2 := by
  have hr := tree_rel d root
  unfold treeAll at h ⊢
  unfold treeSA
  split
  · rename_i h1; rw [if_pos h1] at h; exact absurd h h1
  · rename_i h1
    rw [if_neg h1] at h
    rw [if_neg (by rw [hr.1]; exact fun hh => hh h)]
    exact hr.2.1
theorem treeAll_ok (d : DiskT) (root : Int) : okW (treeAll d root).2 := by
  unfold treeAll
  split
  · exact okW0
  · rename_i h
    exact treeP_ok d (diskFault_good d (by simpa using h)).w root
theorem rows_cnt (d : DiskT) (root : Int) : (treeAll d root).2.2.1.length ≤ 248 ∧ ∀ r ∈ (treeAll d root).2.2.1, r.1.length ≤ 16 := by
  have h := treeAll_ok d root
  exact ⟨(okW_len _ h).2, h.2.2.2⟩
def rowsIn (d : DiskT) (root : Int) : Int × List RowT × Unit := if (treeAll d root).1 ≠ 0 then ((treeAll d root).1, [], ()) else (0, (treeAll d root).2.2.1, ())
def getRow (d : DiskT) (root : Int) (key : List Int) : Int × Int × Unit :=
  if (treeAll d root).1 ≠ 0 then ((treeAll d root).1, 0, ()) else if key.length < 1 ∨ key.length > 16 then (2, 0, ())
  else if findG (fun x : RowT => decide (x.1 = key)) (treeAll d root).2.2.1 0 < 0 then (4, 0, ()) else (0, ((treeAll d root).2.2.1.getD (findG (fun x : RowT => decide (x.1 = key)) (treeAll d root).2.2.1 0).toNat ([], 0, ())).2.1, ())
def behind (l : List RowT) (a : List Int) (n : Int) : List RowT := (l.filter fun r => decide (ordB r.1 a > 0)).take n.toNat
def scanRows (d : DiskT) (root : Int) (a : List Int) (n : Int) : Int × List RowT × Unit :=
  if (treeAll d root).1 ≠ 0 then ((treeAll d root).1, [], ()) else if a.length > 16 then (2, [], ()) else if ¬ (0 ≤ n ∧ n ≤ 20) then (3, [], ()) else (0, behind (treeAll d root).2.2.1 a n, ())

def F_i_walkTree (d : (List (List (Int))) × (List ((Int) × (List (Int)) × Unit)) × Unit) (root : Int) : ((List (List (Int))) × (List ((Int) × (List (Int)) × Unit)) × Unit) × (List (Int)) × (List ((List (Int)) × (Int) × Unit)) × (Int) × Unit := (d, (treeP d root).2)
def F_i_walkTree_1 (d : (List (List (Int))) × (List ((Int) × (List (Int)) × Unit)) × Unit) (root : Int) : Int := (treeP d root).1
def Q_i_walkTree (d : (List (List (Int))) × (List ((Int) × (List (Int)) × Unit)) × Unit) (root : Int) : Prop := GoodW d 64
def O_i_walkTree : Opt := ⟨fun i => false, fun i => [], fun i => .done, fun i => none, fun i => false, fun i => [], fun i => false, fun i => none, fun i => none⟩
def τ_i_walkTree : Env := Env.of [(2, (.int .i64)), (3, (.int .i64)), (4, .bool), (5, (.int .u8)), (30, (.pair (.sl (.sl (.int .u8))) (.pair (.sl (.pair (.int .i64) (.pair (.sl (.int .u8)) .unit))) .unit))), (34, (.sl (.int .u8))), (94, (.pair (.pair (.sl (.sl (.int .u8))) (.pair (.sl (.pair (.int .i64) (.pair (.sl (.int .u8)) .unit))) .unit)) (.pair (.sl (.int .i64)) (.pair (.sl (.pair (.sl (.int .u8)) (.pair (.int .i64) .unit))) (.pair (.int .i64) .unit)))))] [(83, (.pair (.pair (.sl (.sl (.int .u8))) (.pair (.sl (.pair (.int .i64) (.pair (.sl (.int .u8)) .unit))) .unit)) (.pair (.sl (.int .i64)) (.pair (.sl (.pair (.sl (.int .u8)) (.pair (.int .i64) .unit))) (.pair (.int .i64) .unit)))))] []

theorem ct_i_walkTree (d : (List (List (Int))) × (List ((Int) × (List (Int)) × Unit)) × Unit) (root : Int) : Ct pg 109 [.dat (.pair (.sl (.sl (.int .u8))) (.pair (.sl (.pair (.int .i64) (.pair (.sl (.int .u8)) .unit))) .unit)) d, .dat (.int .i64) root] ⟨[Q_i_walkTree d root], [⟨(.pair (.pair (.sl (.sl (.int .u8))) (.pair (.sl (.pair (.int .i64) (.pair (.sl (.int .u8)) .unit))) .unit)) (.pair (.sl (.int .i64)) (.pair (.sl (.pair (.sl (.int .u8)) (.pair (.int .i64) .unit))) (.pair (.int .i64) .unit)))), (.np (.pr .sh (.pr (.ow .sh) (.pr (.ow (.pr (.ow .sh) (.pr .sh .sh))) (.pr .sh .sh))))), F_i_walkTree d root⟩, ⟨(.int .i64), .sh, F_i_walkTree_1 d root⟩], []⟩ := by
  refine ct_claim (O := O_i_walkTree) (τ := τ_i_walkTree) (EnvOk.of (by kernel_rfl) (by kernel_rfl)) (GOk.of (.cons ok_i_treeWalk_visit .nil : AllOk pg [(130, con_i_treeWalk_visit)])) mixed (Enters.of (by kernel_rfl)) (fn := Go.Proofs.Try.f109) (by kernel_rfl) rfl (by kernel_rfl) ?_
  intro hp hw
  have hq : Q_i_walkTree d root := hp _ (List.mem_singleton.2 rfl)
  clear hp
  change claim Lg.std Alg.std τ_i_walkTree (Gam.of [(130, ⟨true, g5 (pW (.pair (.pair (.sl (.sl (.int .u8))) (.pair (.sl (.pair (.int .i64) (.pair (.sl (.int .u8)) .unit))) .unit)) (.pair (.sl (.int .i64)) (.pair (.sl (.pair (.sl (.int .u8)) (.pair (.int .i64) .unit))) (.pair (.int .i64) .unit)))) (.pr .sh (.pr (.ow .sh) (.pr (.ow (.pr (.ow .sh) (.pr .sh .sh))) (.pr .sh .sh))))) (pD (.int .i64)) (pD (.int .i64)) (pO (.int .u8)) (pO (.int .u8)) fun w id depth low high => .one ⟨[Q_i_treeWalk_visit w id depth low high], [⟨(.int .i64), .sh, F_i_treeWalk_visit w id depth low high⟩], [.mp (.pair (.pair (.sl (.sl (.int .u8))) (.pair (.sl (.pair (.int .i64) (.pair (.sl (.int .u8)) .unit))) .unit)) (.pair (.sl (.int .i64)) (.pair (.sl (.pair (.sl (.int .u8)) (.pair (.int .i64) .unit))) (.pair (.int .i64) .unit)))) (.pr .sh (.pr (.ow .sh) (.pr (.ow (.pr (.ow .sh) (.pr .sh .sh))) (.pr .sh .sh)))) (B_i_treeWalk_visit_w w id depth low high)]⟩, [(.pr .sh (.pr (.ow .sh) (.pr (.ow (.pr (.ow .sh) (.pr .sh .sh))) (.pr .sh .sh))))], true, 0⟩)]) O_i_walkTree Go.Proofs.Try.f109 [.dat (.pair (.sl (.sl (.int .u8))) (.pair (.sl (.pair (.int .i64) (.pair (.sl (.int .u8)) .unit))) .unit)) d, .dat (.int .i64) root] ⟨[Q_i_walkTree d root], [⟨(.pair (.pair (.sl (.sl (.int .u8))) (.pair (.sl (.pair (.int .i64) (.pair (.sl (.int .u8)) .unit))) .unit)) (.pair (.sl (.int .i64)) (.pair (.sl (.pair (.sl (.int .u8)) (.pair (.int .i64) .unit))) (.pair (.int .i64) .unit)))), (.np (.pr .sh (.pr (.ow .sh) (.pr (.ow (.pr (.ow .sh) (.pr .sh .sh))) (.pr .sh .sh))))), F_i_walkTree d root⟩, ⟨(.int .i64), .sh, F_i_walkTree_1 d root⟩], []⟩
  generalize hg_F_i_treeWalk_visit : F_i_treeWalk_visit = g_F_i_treeWalk_visit
  generalize hg_B_i_treeWalk_visit_w : B_i_treeWalk_visit_w = g_B_i_treeWalk_visit_w
  generalize hg_Q_i_treeWalk_visit : Q_i_treeWalk_visit = g_Q_i_treeWalk_visit
  generalize hR0 : F_i_walkTree d root = R0
  generalize hR1 : F_i_walkTree_1 d root = R1
  generalize Q_i_walkTree d root = Q0
  generalize hL : Lg.std = L
  generalize hA : Alg.std = A
  cbv
  subst hL hA
  try dsimp only [Ty.den]
  obtain ⟨d_0, d_1, ⟨⟩⟩ := d
  simp only [Q_i_walkTree] at hq
  have h0 := treeP_0 (d_0, d_1, PUnit.unit)
  have hn := treeP_n (d_0, d_1, PUnit.unit) root
  have h1 : (6 - (1 : Int)).toNat = 5 := rfl
  have h2 : okW ([], [], 0, PUnit.unit) := okW0
  have h3 : wk0 = ([], [], 0, PUnit.unit) := rfl
  subst hR0 hR1 hg_F_i_treeWalk_visit hg_B_i_treeWalk_visit_w hg_Q_i_treeWalk_visit
  simp only [Lg.std, Alg.std, List.drop_zero, List.take_length, F_i_treeWalk_visit, B_i_treeWalk_visit_w, Q_i_treeWalk_visit, F_i_walkTree, F_i_walkTree_1, Option.getD_none] at *
  generalize hG : GoodW (d_0, d_1, PUnit.unit) 64 = G at *
  repeat' (first | intro _ | apply And.intro)
  all_goals grind
def con_i_walkTree : Con := ⟨true, g2 (pD (.pair (.sl (.sl (.int .u8))) (.pair (.sl (.pair (.int .i64) (.pair (.sl (.int .u8)) .unit))) .unit))) (pD (.int .i64)) fun d root => .one ⟨[Q_i_walkTree d root], [⟨(.pair (.pair (.sl (.sl (.int .u8))) (.pair (.sl (.pair (.int .i64) (.pair (.sl (.int .u8)) .unit))) .unit)) (.pair (.sl (.int .i64)) (.pair (.sl (.pair (.sl (.int .u8)) (.pair (.int .i64) .unit))) (.pair (.int .i64) .unit)))), (.np (.pr .sh (.pr (.ow .sh) (.pr (.ow (.pr (.ow .sh) (.pr .sh .sh))) (.pr .sh .sh))))), F_i_walkTree d root⟩, ⟨(.int .i64), .sh, F_i_walkTree_1 d root⟩], []⟩, [], false, 0⟩
theorem ok_i_walkTree : ConOk pg 109 con_i_walkTree := ConOk.g2 (Enters.of (by kernel_rfl)) ct_i_walkTree

def F_i_treeOf (d : (List (List (Int))) × (List ((Int) × (List (Int)) × Unit)) × Unit) (root : Int) : ((List (List (Int))) × (List ((Int) × (List (Int)) × Unit)) × Unit) × (List (Int)) × (List ((List (Int)) × (Int) × Unit)) × (Int) × Unit := (if diskFault d ≠ 0 then ([], [], PUnit.unit) else d, (treeAll d root).2)
def F_i_treeOf_1 (d : (List (List (Int))) × (List ((Int) × (List (Int)) × Unit)) × Unit) (root : Int) : Int := (treeAll d root).1
def Q_i_treeOf (d : (List (List (Int))) × (List ((Int) × (List (Int)) × Unit)) × Unit) (root : Int) : Prop := True
def O_i_treeOf : Opt := ⟨fun i => false, fun i => [], fun i => .done, fun i => none, fun i => false, fun i => [], fun i => false, fun i => none, fun i => none⟩
def τ_i_treeOf : Env := Env.of [(2, (.int .i64)), (4, .bool), (5, (.int .u8)), (30, (.pair (.sl (.sl (.int .u8))) (.pair (.sl (.pair (.int .i64) (.pair (.sl (.int .u8)) .unit))) .unit))), (94, (.pair (.pair (.sl (.sl (.int .u8))) (.pair (.sl (.pair (.int .i64) (.pair (.sl (.int .u8)) .unit))) .unit)) (.pair (.sl (.int .i64)) (.pair (.sl (.pair (.sl (.int .u8)) (.pair (.int .i64) .unit))) (.pair (.int .i64) .unit)))))] [(83, (.pair (.pair (.sl (.sl (.int .u8))) (.pair (.sl (.pair (.int .i64) (.pair (.sl (.int .u8)) .unit))) .unit)) (.pair (.sl (.int .i64)) (.pair (.sl (.pair (.sl (.int .u8)) (.pair (.int .i64) .unit))) (.pair (.int .i64) .unit)))))] []

theorem ct_i_treeOf (d : (List (List (Int))) × (List ((Int) × (List (Int)) × Unit)) × Unit) (root : Int) : Ct pg 50 [.dat (.pair (.sl (.sl (.int .u8))) (.pair (.sl (.pair (.int .i64) (.pair (.sl (.int .u8)) .unit))) .unit)) d, .dat (.int .i64) root] ⟨[Q_i_treeOf d root], [⟨(.pair (.pair (.sl (.sl (.int .u8))) (.pair (.sl (.pair (.int .i64) (.pair (.sl (.int .u8)) .unit))) .unit)) (.pair (.sl (.int .i64)) (.pair (.sl (.pair (.sl (.int .u8)) (.pair (.int .i64) .unit))) (.pair (.int .i64) .unit)))), (.np (.pr .sh (.pr (.ow .sh) (.pr (.ow (.pr (.ow .sh) (.pr .sh .sh))) (.pr .sh .sh))))), F_i_treeOf d root⟩, ⟨(.int .i64), .sh, F_i_treeOf_1 d root⟩], []⟩ := by
  refine ct_claim (O := O_i_treeOf) (τ := τ_i_treeOf) (EnvOk.of (by kernel_rfl) (by kernel_rfl)) (GOk.of (.cons ok_i_DiskFault (.cons ok_i_walkTree .nil) : AllOk pg [(43, con_i_DiskFault), (109, con_i_walkTree)])) mixed (Enters.of (by kernel_rfl)) (fn := Go.Proofs.Try.f50) (by kernel_rfl) rfl (by kernel_rfl) ?_
  intro hp hw
  have hq : Q_i_treeOf d root := hp _ (List.mem_singleton.2 rfl)
  clear hp
  change claim Lg.std Alg.std τ_i_treeOf (Gam.of [(43, ⟨true, g1 (pD (.pair (.sl (.sl (.int .u8))) (.pair (.sl (.pair (.int .i64) (.pair (.sl (.int .u8)) .unit))) .unit))) fun d => .one ⟨[Q_i_DiskFault d], [⟨(.int .i64), .sh, F_i_DiskFault d⟩], []⟩, [], false, 0⟩), (109, ⟨true, g2 (pD (.pair (.sl (.sl (.int .u8))) (.pair (.sl (.pair (.int .i64) (.pair (.sl (.int .u8)) .unit))) .unit))) (pD (.int .i64)) fun d root => .one ⟨[Q_i_walkTree d root], [⟨(.pair (.pair (.sl (.sl (.int .u8))) (.pair (.sl (.pair (.int .i64) (.pair (.sl (.int .u8)) .unit))) .unit)) (.pair (.sl (.int .i64)) (.pair (.sl (.pair (.sl (.int .u8)) (.pair (.int .i64) .unit))) (.pair (.int .i64) .unit)))), (.np (.pr .sh (.pr (.ow .sh) (.pr (.ow (.pr (.ow .sh) (.pr .sh .sh))) (.pr .sh .sh))))), F_i_walkTree d root⟩, ⟨(.int .i64), .sh, F_i_walkTree_1 d root⟩], []⟩, [], false, 0⟩)]) O_i_treeOf Go.Proofs.Try.f50 [.dat (.pair (.sl (.sl (.int .u8))) (.pair (.sl (.pair (.int .i64) (.pair (.sl (.int .u8)) .unit))) .unit)) d, .dat (.int .i64) root] ⟨[Q_i_treeOf d root], [⟨(.pair (.pair (.sl (.sl (.int .u8))) (.pair (.sl (.pair (.int .i64) (.pair (.sl (.int .u8)) .unit))) .unit)) (.pair (.sl (.int .i64)) (.pair (.sl (.pair (.sl (.int .u8)) (.pair (.int .i64) .unit))) (.pair (.int .i64) .unit)))), (.np (.pr .sh (.pr (.ow .sh) (.pr (.ow (.pr (.ow .sh) (.pr .sh .sh))) (.pr .sh .sh))))), F_i_treeOf d root⟩, ⟨(.int .i64), .sh, F_i_treeOf_1 d root⟩], []⟩
  generalize hg_F_i_DiskFault : F_i_DiskFault = g_F_i_DiskFault
  generalize hg_Q_i_DiskFault : Q_i_DiskFault = g_Q_i_DiskFault
  generalize hg_F_i_walkTree : F_i_walkTree = g_F_i_walkTree
  generalize hg_F_i_walkTree_1 : F_i_walkTree_1 = g_F_i_walkTree_1
  generalize hg_Q_i_walkTree : Q_i_walkTree = g_Q_i_walkTree
  generalize hR0 : F_i_treeOf d root = R0
  generalize hR1 : F_i_treeOf_1 d root = R1
  generalize Q_i_treeOf d root = Q0
  generalize hL : Lg.std = L
  generalize hA : Alg.std = A
  cbv
  subst hL hA
  try dsimp only [Ty.den]
  obtain ⟨d_0, d_1, ⟨⟩⟩ := d
  have hg := fun h => (diskFault_good (d_0, d_1, PUnit.unit) h).w
  have h0 : treeAll (d_0, d_1, PUnit.unit) root = if diskFault (d_0, d_1, PUnit.unit) ≠ 0 then (diskFault (d_0, d_1, PUnit.unit), wk0) else treeP (d_0, d_1, PUnit.unit) root := rfl
  have h3 : wk0 = ([], [], 0, PUnit.unit) := rfl
  subst hR0 hR1 hg_F_i_DiskFault hg_Q_i_DiskFault hg_F_i_walkTree hg_F_i_walkTree_1 hg_Q_i_walkTree
  simp only [Lg.std, Alg.std, List.drop_zero, List.take_length, F_i_DiskFault, F_i_walkTree, F_i_walkTree_1, Q_i_DiskFault, Q_i_walkTree, F_i_treeOf, F_i_treeOf_1] at *
  generalize hG : GoodW (d_0, d_1, PUnit.unit) 64 = G at *
  repeat' (first | intro _ | apply And.intro)
  all_goals grind
def con_i_treeOf : Con := ⟨true, g2 (pD (.pair (.sl (.sl (.int .u8))) (.pair (.sl (.pair (.int .i64) (.pair (.sl (.int .u8)) .unit))) .unit))) (pD (.int .i64)) fun d root => .one ⟨[Q_i_treeOf d root], [⟨(.pair (.pair (.sl (.sl (.int .u8))) (.pair (.sl (.pair (.int .i64) (.pair (.sl (.int .u8)) .unit))) .unit)) (.pair (.sl (.int .i64)) (.pair (.sl (.pair (.sl (.int .u8)) (.pair (.int .i64) .unit))) (.pair (.int .i64) .unit)))), (.np (.pr .sh (.pr (.ow .sh) (.pr (.ow (.pr (.ow .sh) (.pr .sh .sh))) (.pr .sh .sh))))), F_i_treeOf d root⟩, ⟨(.int .i64), .sh, F_i_treeOf_1 d root⟩], []⟩, [], false, 0⟩
theorem ok_i_treeOf : ConOk pg 50 con_i_treeOf := ConOk.g2 (Enters.of (by kernel_rfl)) ct_i_treeOf

def F_s_l17Tree (d : (List (List (Int))) × (List ((Int) × (List (Int)) × Unit)) × Unit) (root : Int) : (List (Int)) × (List ((List (Int)) × (Int) × Unit)) × (Int) × Unit := if (treeS d root).1 ≠ 0 then wk0 else (treeS d root).2
def F_s_l17Tree_1 (d : (List (List (Int))) × (List ((Int) × (List (Int)) × Unit)) × Unit) (root : Int) : Int := (treeS d root).1
def Q_s_l17Tree (d : (List (List (Int))) × (List ((Int) × (List (Int)) × Unit)) × Unit) (root : Int) : Prop := GoodW d 64
def O_s_l17Tree : Opt := ⟨fun i => false, fun i => [], fun i => .done, fun i => none, fun i => false, fun i => [], fun i => false, fun i => none, fun i => none⟩
def τ_s_l17Tree : Env := Env.of [(2, (.int .i64)), (4, .bool), (5, (.int .u8)), (34, (.sl (.int .u8))), (77, (.pair (.sl (.int .i64)) (.pair (.sl (.pair (.sl (.int .u8)) (.pair (.int .i64) .unit))) (.pair (.int .i64) .unit))))] [(80, (.pair (.sl (.sl (.int .u8))) (.pair (.sl (.pair (.int .i64) (.pair (.sl (.int .u8)) .unit))) .unit))), (138, (.pair (.sl (.int .i64)) (.pair (.sl (.pair (.sl (.int .u8)) (.pair (.int .i64) .unit))) (.pair (.int .i64) .unit))))] []

theorem ct_s_l17Tree (d : (List (List (Int))) × (List ((Int) × (List (Int)) × Unit)) × Unit) (root : Int) : Ct pg 47 [.dptr (.pair (.sl (.sl (.int .u8))) (.pair (.sl (.pair (.int .i64) (.pair (.sl (.int .u8)) .unit))) .unit)) d, .dat (.int .i64) root] ⟨[Q_s_l17Tree d root], [⟨(.pair (.sl (.int .i64)) (.pair (.sl (.pair (.sl (.int .u8)) (.pair (.int .i64) .unit))) (.pair (.int .i64) .unit))), (.pr (.ow .sh) (.pr (.ow (.pr (.ow .sh) (.pr .sh .sh))) (.pr .sh .sh))), F_s_l17Tree d root⟩, ⟨(.int .i64), .sh, F_s_l17Tree_1 d root⟩], []⟩ := by
  refine ct_claim (O := O_s_l17Tree) (τ := τ_s_l17Tree) (EnvOk.of (by kernel_rfl) (by kernel_rfl)) (GOk.of (.cons ok_s_l17Node .nil : AllOk pg [(107, con_s_l17Node)])) mixed (Enters.of (by kernel_rfl)) (fn := Go.Proofs.Try.f47) (by kernel_rfl) rfl (by kernel_rfl) ?_
  intro hp hw
  have hq : Q_s_l17Tree d root := hp _ (List.mem_singleton.2 rfl)
  clear hp
  change claim Lg.std Alg.std τ_s_l17Tree (Gam.of [(107, ⟨true, g6 (pP (.pair (.sl (.sl (.int .u8))) (.pair (.sl (.pair (.int .i64) (.pair (.sl (.int .u8)) .unit))) .unit))) (pD (.int .i64)) (pD (.sl (.int .u8))) (pD (.sl (.int .u8))) (pD (.int .i64)) (pW (.pair (.sl (.int .i64)) (.pair (.sl (.pair (.sl (.int .u8)) (.pair (.int .i64) .unit))) (.pair (.int .i64) .unit))) (.pr (.ow .sh) (.pr (.ow (.pr (.ow .sh) (.pr .sh .sh))) (.pr .sh .sh)))) fun d id low high depth w => .one ⟨[Q_s_l17Node d id low high depth w], [⟨(.int .i64), .sh, F_s_l17Node d id low high depth w⟩], [.junk, .junk, .junk, .junk, .junk, .mp (.pair (.sl (.int .i64)) (.pair (.sl (.pair (.sl (.int .u8)) (.pair (.int .i64) .unit))) (.pair (.int .i64) .unit))) (.pr (.ow .sh) (.pr (.ow (.pr (.ow .sh) (.pr .sh .sh))) (.pr .sh .sh))) (B_s_l17Node_w d id low high depth w)]⟩, [(.pr (.ow .sh) (.pr (.ow (.pr (.ow .sh) (.pr .sh .sh))) (.pr .sh .sh)))], false, 5⟩)]) O_s_l17Tree Go.Proofs.Try.f47 [.dptr (.pair (.sl (.sl (.int .u8))) (.pair (.sl (.pair (.int .i64) (.pair (.sl (.int .u8)) .unit))) .unit)) d, .dat (.int .i64) root] ⟨[Q_s_l17Tree d root], [⟨(.pair (.sl (.int .i64)) (.pair (.sl (.pair (.sl (.int .u8)) (.pair (.int .i64) .unit))) (.pair (.int .i64) .unit))), (.pr (.ow .sh) (.pr (.ow (.pr (.ow .sh) (.pr .sh .sh))) (.pr .sh .sh))), F_s_l17Tree d root⟩, ⟨(.int .i64), .sh, F_s_l17Tree_1 d root⟩], []⟩
  generalize hg_F_s_l17Node : F_s_l17Node = g_F_s_l17Node
  generalize hg_B_s_l17Node_w : B_s_l17Node_w = g_B_s_l17Node_w
  generalize hg_Q_s_l17Node : Q_s_l17Node = g_Q_s_l17Node
  generalize hR0 : F_s_l17Tree d root = R0
  generalize hR1 : F_s_l17Tree_1 d root = R1
  generalize Q_s_l17Tree d root = Q0
  generalize hL : Lg.std = L
  generalize hA : Alg.std = A
  cbv
  subst hL hA
  try dsimp only [Ty.den]
  obtain ⟨d_0, d_1, ⟨⟩⟩ := d
  simp only [Q_s_l17Tree] at hq
  have h0 := treeS_0 (d_0, d_1, PUnit.unit)
  have hn := treeS_n (d_0, d_1, PUnit.unit) root
  have h1 : (6 - (1 : Int)).toNat = 5 := rfl
  have h2 : okW ([], [], 0, PUnit.unit) := okW0
  have h3 : wk0 = ([], [], 0, PUnit.unit) := rfl
  subst hR0 hR1 hg_F_s_l17Node hg_B_s_l17Node_w hg_Q_s_l17Node
  simp only [Lg.std, Alg.std, List.drop_zero, List.take_length, F_s_l17Node, B_s_l17Node_w, Q_s_l17Node, F_s_l17Tree, F_s_l17Tree_1] at *
  generalize hG : GoodW (d_0, d_1, PUnit.unit) 64 = G at *
  repeat' (first | intro _ | apply And.intro)
  all_goals grind
def con_s_l17Tree : Con := ⟨true, g2 (pP (.pair (.sl (.sl (.int .u8))) (.pair (.sl (.pair (.int .i64) (.pair (.sl (.int .u8)) .unit))) .unit))) (pD (.int .i64)) fun d root => .one ⟨[Q_s_l17Tree d root], [⟨(.pair (.sl (.int .i64)) (.pair (.sl (.pair (.sl (.int .u8)) (.pair (.int .i64) .unit))) (.pair (.int .i64) .unit))), (.pr (.ow .sh) (.pr (.ow (.pr (.ow .sh) (.pr .sh .sh))) (.pr .sh .sh))), F_s_l17Tree d root⟩, ⟨(.int .i64), .sh, F_s_l17Tree_1 d root⟩], []⟩, [], false, 0⟩
theorem ok_s_l17Tree : ConOk pg 47 con_s_l17Tree := ConOk.g2 (Enters.of (by kernel_rfl)) ct_s_l17Tree

def F_s_l17All (d : (List (List (Int))) × (List ((Int) × (List (Int)) × Unit)) × Unit) (root : Int) : (List (Int)) × (List ((List (Int)) × (Int) × Unit)) × (Int) × Unit := (treeSA d root).1
def F_s_l17All_1 (d : (List (List (Int))) × (List ((Int) × (List (Int)) × Unit)) × Unit) (root : Int) : Int := (treeSA d root).2
def Q_s_l17All (d : (List (List (Int))) × (List ((Int) × (List (Int)) × Unit)) × Unit) (root : Int) : Prop := True
def O_s_l17All : Opt := ⟨fun i => false, fun i => [], fun i => .done, fun i => none, fun i => false, fun i => [], fun i => false, fun i => none, fun i => none⟩
def τ_s_l17All : Env := Env.of [(2, (.int .i64)), (4, .bool), (5, (.int .u8)), (30, (.pair (.sl (.sl (.int .u8))) (.pair (.sl (.pair (.int .i64) (.pair (.sl (.int .u8)) .unit))) .unit))), (77, (.pair (.sl (.int .i64)) (.pair (.sl (.pair (.sl (.int .u8)) (.pair (.int .i64) .unit))) (.pair (.int .i64) .unit))))] [(80, (.pair (.sl (.sl (.int .u8))) (.pair (.sl (.pair (.int .i64) (.pair (.sl (.int .u8)) .unit))) .unit)))] []

theorem ct_s_l17All (d : (List (List (Int))) × (List ((Int) × (List (Int)) × Unit)) × Unit) (root : Int) : Ct pg 53 [.dptr (.pair (.sl (.sl (.int .u8))) (.pair (.sl (.pair (.int .i64) (.pair (.sl (.int .u8)) .unit))) .unit)) d, .dat (.int .i64) root] ⟨[Q_s_l17All d root], [⟨(.pair (.sl (.int .i64)) (.pair (.sl (.pair (.sl (.int .u8)) (.pair (.int .i64) .unit))) (.pair (.int .i64) .unit))), (.pr (.ow .sh) (.pr (.ow (.pr (.ow .sh) (.pr .sh .sh))) (.pr .sh .sh))), F_s_l17All d root⟩, ⟨(.int .i64), .sh, F_s_l17All_1 d root⟩], []⟩ := by
  refine ct_claim (O := O_s_l17All) (τ := τ_s_l17All) (EnvOk.of (by kernel_rfl) (by kernel_rfl)) (GOk.of (.cons ok_s_DiskFault (.cons ok_s_l17Tree .nil) : AllOk pg [(46, con_s_DiskFault), (47, con_s_l17Tree)])) mixed (Enters.of (by kernel_rfl)) (fn := Go.Proofs.Try.f53) (by kernel_rfl) rfl (by kernel_rfl) ?_
  intro hp hw
  have hq : Q_s_l17All d root := hp _ (List.mem_singleton.2 rfl)
  clear hp
  change claim Lg.std Alg.std τ_s_l17All (Gam.of [(46, ⟨true, g1 (pD (.pair (.sl (.sl (.int .u8))) (.pair (.sl (.pair (.int .i64) (.pair (.sl (.int .u8)) .unit))) .unit))) fun d => .one ⟨[Q_s_DiskFault d], [⟨(.int .i64), .sh, F_s_DiskFault d⟩], []⟩, [], false, 0⟩), (47, ⟨true, g2 (pP (.pair (.sl (.sl (.int .u8))) (.pair (.sl (.pair (.int .i64) (.pair (.sl (.int .u8)) .unit))) .unit))) (pD (.int .i64)) fun d root => .one ⟨[Q_s_l17Tree d root], [⟨(.pair (.sl (.int .i64)) (.pair (.sl (.pair (.sl (.int .u8)) (.pair (.int .i64) .unit))) (.pair (.int .i64) .unit))), (.pr (.ow .sh) (.pr (.ow (.pr (.ow .sh) (.pr .sh .sh))) (.pr .sh .sh))), F_s_l17Tree d root⟩, ⟨(.int .i64), .sh, F_s_l17Tree_1 d root⟩], []⟩, [], false, 0⟩)]) O_s_l17All Go.Proofs.Try.f53 [.dptr (.pair (.sl (.sl (.int .u8))) (.pair (.sl (.pair (.int .i64) (.pair (.sl (.int .u8)) .unit))) .unit)) d, .dat (.int .i64) root] ⟨[Q_s_l17All d root], [⟨(.pair (.sl (.int .i64)) (.pair (.sl (.pair (.sl (.int .u8)) (.pair (.int .i64) .unit))) (.pair (.int .i64) .unit))), (.pr (.ow .sh) (.pr (.ow (.pr (.ow .sh) (.pr .sh .sh))) (.pr .sh .sh))), F_s_l17All d root⟩, ⟨(.int .i64), .sh, F_s_l17All_1 d root⟩], []⟩
  generalize hg_F_s_DiskFault : F_s_DiskFault = g_F_s_DiskFault
  generalize hg_Q_s_DiskFault : Q_s_DiskFault = g_Q_s_DiskFault
  generalize hg_F_s_l17Tree : F_s_l17Tree = g_F_s_l17Tree
  generalize hg_F_s_l17Tree_1 : F_s_l17Tree_1 = g_F_s_l17Tree_1
  generalize hg_Q_s_l17Tree : Q_s_l17Tree = g_Q_s_l17Tree
  generalize hR0 : F_s_l17All d root = R0
  generalize hR1 : F_s_l17All_1 d root = R1
  generalize Q_s_l17All d root = Q0
  generalize hL : Lg.std = L
  generalize hA : Alg.std = A
  cbv
  subst hL hA
  try dsimp only [Ty.den]
  obtain ⟨d_0, d_1, ⟨⟩⟩ := d
  have hg := fun h => (diskFault_good (d_0, d_1, PUnit.unit) h).w
  have h0 : treeSA (d_0, d_1, PUnit.unit) root = if diskFault (d_0, d_1, PUnit.unit) ≠ 0 then (wk0, diskFault (d_0, d_1, PUnit.unit)) else if (treeS (d_0, d_1, PUnit.unit) root).1 ≠ 0 then (wk0, (treeS (d_0, d_1, PUnit.unit) root).1) else ((treeS (d_0, d_1, PUnit.unit) root).2, 0) := rfl
  have h3 : wk0 = ([], [], 0, PUnit.unit) := rfl
  subst hR0 hR1 hg_F_s_DiskFault hg_Q_s_DiskFault hg_F_s_l17Tree hg_F_s_l17Tree_1 hg_Q_s_l17Tree
  simp only [Lg.std, Alg.std, List.drop_zero, List.take_length, F_s_DiskFault, F_s_l17Tree, F_s_l17Tree_1, Q_s_DiskFault, Q_s_l17Tree, F_s_l17All, F_s_l17All_1] at *
  generalize hG : GoodW (d_0, d_1, PUnit.unit) 64 = G at *
  repeat' (first | intro _ | apply And.intro)
  all_goals grind
def con_s_l17All : Con := ⟨true, g2 (pP (.pair (.sl (.sl (.int .u8))) (.pair (.sl (.pair (.int .i64) (.pair (.sl (.int .u8)) .unit))) .unit))) (pD (.int .i64)) fun d root => .one ⟨[Q_s_l17All d root], [⟨(.pair (.sl (.int .i64)) (.pair (.sl (.pair (.sl (.int .u8)) (.pair (.int .i64) .unit))) (.pair (.int .i64) .unit))), (.pr (.ow .sh) (.pr (.ow (.pr (.ow .sh) (.pr .sh .sh))) (.pr .sh .sh))), F_s_l17All d root⟩, ⟨(.int .i64), .sh, F_s_l17All_1 d root⟩], []⟩, [], false, 0⟩
theorem ok_s_l17All : ConOk pg 53 con_s_l17All := ConOk.g2 (Enters.of (by kernel_rfl)) ct_s_l17All

def F_s_l17Key (key : List (Int)) : Bool := decide (1 ≤ key.length ∧ key.length ≤ 16)
def Q_s_l17Key (key : List (Int)) : Prop := True
def O_s_l17Key : Opt := ⟨fun i => false, fun i => [], fun i => .done, fun i => none, fun i => false, fun i => [], fun i => false, fun i => none, fun i => none⟩
def τ_s_l17Key : Env := Env.of [(2, (.int .i64)), (3, (.int .i64)), (4, .bool), (34, (.sl (.int .u8)))] [] []

theorem ct_s_l17Key (key : List (Int)) : Ct pg 54 [.dat (.sl (.int .u8)) key] ⟨[Q_s_l17Key key], [⟨.bool, .sh, F_s_l17Key key⟩], []⟩ := by
  refine ct_claim (O := O_s_l17Key) (τ := τ_s_l17Key) (EnvOk.of (by kernel_rfl) (by kernel_rfl)) (GOk.of (.nil : AllOk pg [])) mixed (Enters.of (by kernel_rfl)) (fn := Go.Proofs.Try.f54) (by kernel_rfl) rfl (by kernel_rfl) ?_
  intro hp hw
  have hq : Q_s_l17Key key := hp _ (List.mem_singleton.2 rfl)
  clear hp
  change claim Lg.std Alg.std τ_s_l17Key (Gam.of []) O_s_l17Key Go.Proofs.Try.f54 [.dat (.sl (.int .u8)) key] ⟨[Q_s_l17Key key], [⟨.bool, .sh, F_s_l17Key key⟩], []⟩
  generalize hR0 : F_s_l17Key key = R0
  generalize Q_s_l17Key key = Q0
  generalize hL : Lg.std = L
  generalize hA : Alg.std = A
  cbv
  subst hL hA
  try dsimp only [Ty.den]
  subst hR0
  simp only [Q_s_l17Key] at hq
  simp only [Lg.std, Alg.std, List.drop_zero, List.take_length, F_s_l17Key]
  all_goals grind
def con_s_l17Key : Con := ⟨true, g1 (pD (.sl (.int .u8))) fun key => .one ⟨[Q_s_l17Key key], [⟨.bool, .sh, F_s_l17Key key⟩], []⟩, [], false, 0⟩
theorem ok_s_l17Key : ConOk pg 54 con_s_l17Key := ConOk.g1 (Enters.of (by kernel_rfl)) ct_s_l17Key

def F_i_rowWith_1 (r : (List (Int)) × (Int) × Unit) (key : List (Int)) : Bool := decide (r.1 = key)
def Q_i_rowWith_1 (r : (List (Int)) × (Int) × Unit) (key : List (Int)) : Prop := True
def O_i_rowWith_1 : Opt := ⟨fun i => false, fun i => [], fun i => .done, fun i => none, fun i => false, fun i => [], fun i => false, fun i => none, fun i => none⟩
def τ_i_rowWith_1 : Env := Env.of [(3, (.int .i64)), (4, .bool), (34, (.sl (.int .u8))), (90, (.pair (.sl (.int .u8)) (.pair (.int .i64) .unit)))] [] []

theorem ct_i_rowWith_1 (r : (List (Int)) × (Int) × Unit) (key : List (Int)) : Ct pg 113 [.dat (.pair (.sl (.int .u8)) (.pair (.int .i64) .unit)) r, .dptr (.sl (.int .u8)) key] ⟨[Q_i_rowWith_1 r key], [⟨.bool, .sh, F_i_rowWith_1 r key⟩], []⟩ := by
  refine ct_claim (O := O_i_rowWith_1) (τ := τ_i_rowWith_1) (EnvOk.of (by kernel_rfl) (by kernel_rfl)) (GOk.of (.cons ok_b_Equal .nil : AllOk pg [(81, con_b_Equal)])) mixed (Enters.of (by kernel_rfl)) (fn := Go.Proofs.Try.f113) (by kernel_rfl) rfl (by kernel_rfl) ?_
  intro hp hw
  have hq : Q_i_rowWith_1 r key := hp _ (List.mem_singleton.2 rfl)
  clear hp
  change claim Lg.std Alg.std τ_i_rowWith_1 (Gam.of [(81, ⟨true, g2 (pD (.sl (.int .u8))) (pD (.sl (.int .u8))) fun a b => .one ⟨[Q_b_Equal a b], [⟨.bool, .sh, F_b_Equal a b⟩], []⟩, [], false, 0⟩)]) O_i_rowWith_1 Go.Proofs.Try.f113 [.dat (.pair (.sl (.int .u8)) (.pair (.int .i64) .unit)) r, .dptr (.sl (.int .u8)) key] ⟨[Q_i_rowWith_1 r key], [⟨.bool, .sh, F_i_rowWith_1 r key⟩], []⟩
  generalize hg_F_b_Equal : F_b_Equal = g_F_b_Equal
  generalize hg_Q_b_Equal : Q_b_Equal = g_Q_b_Equal
  generalize hR0 : F_i_rowWith_1 r key = R0
  generalize Q_i_rowWith_1 r key = Q0
  generalize hL : Lg.std = L
  generalize hA : Alg.std = A
  cbv
  subst hL hA
  try dsimp only [Ty.den]
  subst hR0 hg_F_b_Equal hg_Q_b_Equal
  simp only [Q_i_rowWith_1] at hq
  simp only [Lg.std, Alg.std, List.drop_zero, List.take_length, F_b_Equal, Q_b_Equal, F_i_rowWith_1]
  all_goals grind
def con_i_rowWith_1 : Con := ⟨true, g2 (pD (.pair (.sl (.int .u8)) (.pair (.int .i64) .unit))) (pP (.sl (.int .u8))) fun r key => .one ⟨[Q_i_rowWith_1 r key], [⟨.bool, .sh, F_i_rowWith_1 r key⟩], []⟩, [], false, 0⟩
theorem ok_i_rowWith_1 : ConOk pg 113 con_i_rowWith_1 := ConOk.g2 (Enters.of (by kernel_rfl)) ct_i_rowWith_1

def F_sl_IndexFunc_Row__i_rowWith_1 (s : List ((List (Int)) × (Int) × Unit)) (key : List (Int)) : Int := findG (fun x : RowT => decide (x.1 = key)) s 0
def Q_sl_IndexFunc_Row__i_rowWith_1 (s : List ((List (Int)) × (Int) × Unit)) (key : List (Int)) : Prop := True
def O_sl_IndexFunc_Row__i_rowWith_1 : Opt := ⟨fun i => false, fun i => (match decide (i = 2) with | true => [true, true, false, false, false, false, false, true, true, false, false, false, false, false, false, false, false, false, false] | false => []), fun i => .done, fun i => none, fun i => false, fun i => [], fun i => false, fun i => none, fun i => none⟩
def τ_sl_IndexFunc_Row__i_rowWith_1 : Env := Env.of [(3, (.int .i64)), (4, .bool), (42, (.sl (.pair (.sl (.int .u8)) (.pair (.int .i64) .unit)))), (90, (.pair (.sl (.int .u8)) (.pair (.int .i64) .unit)))] [] []

theorem ct_sl_IndexFunc_Row__i_rowWith_1 (s : List ((List (Int)) × (Int) × Unit)) (key : List (Int)) : Ct pg 112 [.dat (.sl (.pair (.sl (.int .u8)) (.pair (.int .i64) .unit))) s, .clo 113 [.dptr (.sl (.int .u8)) key]] ⟨[Q_sl_IndexFunc_Row__i_rowWith_1 s key], [⟨(.int .i64), .sh, F_sl_IndexFunc_Row__i_rowWith_1 s key⟩], []⟩ := by
  refine ct_claim (O := O_sl_IndexFunc_Row__i_rowWith_1) (τ := τ_sl_IndexFunc_Row__i_rowWith_1) (EnvOk.of (by kernel_rfl) (by kernel_rfl)) (GOk.of (.cons ok_i_rowWith_1 .nil : AllOk pg [(113, con_i_rowWith_1)])) mixed (Enters.of (by kernel_rfl)) (fn := Go.Proofs.Try.f112) (by kernel_rfl) rfl (by kernel_rfl) ?_
  intro hp hw
  have hq : Q_sl_IndexFunc_Row__i_rowWith_1 s key := hp _ (List.mem_singleton.2 rfl)
  clear hp
  change claim Lg.std Alg.std τ_sl_IndexFunc_Row__i_rowWith_1 (Gam.of [(113, ⟨true, g2 (pD (.pair (.sl (.int .u8)) (.pair (.int .i64) .unit))) (pP (.sl (.int .u8))) fun r key => .one ⟨[Q_i_rowWith_1 r key], [⟨.bool, .sh, F_i_rowWith_1 r key⟩], []⟩, [], false, 0⟩)]) O_sl_IndexFunc_Row__i_rowWith_1 Go.Proofs.Try.f112 [.dat (.sl (.pair (.sl (.int .u8)) (.pair (.int .i64) .unit))) s, .clo 113 [.dptr (.sl (.int .u8)) key]] ⟨[Q_sl_IndexFunc_Row__i_rowWith_1 s key], [⟨(.int .i64), .sh, F_sl_IndexFunc_Row__i_rowWith_1 s key⟩], []⟩
  generalize hg_F_i_rowWith_1 : F_i_rowWith_1 = g_F_i_rowWith_1
  generalize hg_Q_i_rowWith_1 : Q_i_rowWith_1 = g_Q_i_rowWith_1
  generalize hR0 : F_sl_IndexFunc_Row__i_rowWith_1 s key = R0
  generalize Q_sl_IndexFunc_Row__i_rowWith_1 s key = Q0
  generalize hL : Lg.std = L
  generalize hA : Alg.std = A
  cbv
  subst hL hA
  try dsimp only [Ty.den]
  refine lp_v (V := (Int) × (Int)) (fun ((i, M) : (Int) × (Int)) => ⟨[.dat (.sl (.pair (.sl (.int .u8)) (.pair (.int .i64) .unit))) s, .clo 113 [.dptr (.sl (.int .u8)) key], .junk, .junk, .junk, .junk, .junk, .dat (.int .i64) M, .dat (.int .i64) i, .junk, .junk, .junk, .junk, .junk, .junk, .junk, .junk, .junk, .junk], []⟩) (fun ((i, M) : (Int) × (Int)) => M = s.length ∧ 0 ≤ i ∧ i ≤ s.length ∧ findG (fun x : RowT => decide (x.1 = key)) s 0 = findG (fun x : RowT => decide (x.1 = key)) (s.drop i.toNat) i) (fun ((i, M) : (Int) × (Int)) => s.length - i.toNat) (0, _) rfl ?_ ?_
  · simp [Alg.std]
  rintro ⟨i, M⟩ hf I hI
  replace hf : M = s.length ∧ 0 ≤ i ∧ i ≤ s.length ∧ findG (fun x : RowT => decide (x.1 = key)) s 0 = findG (fun x : RowT => decide (x.1 = key)) (s.drop i.toNat) i := hf
  generalize hL : Lg.std = L
  generalize hA : Alg.std = A
  cbv
  subst hL hA
  try dsimp only [Ty.den]
  subst hI
  simp only [Lg.std, Alg.std, List.drop_zero, List.take_length]
  obtain ⟨h1, h2, h3, h4⟩ := hf
  have hl := hw.1.1
  have hdc := fun (h : i.toNat < s.length) => drop_cons s (([], 0, PUnit.unit) : (List (Int)) × (Int) × Unit) i.toNat h
  have he := fun (h : s.length ≤ i.toNat) => drop_nil s i.toNat h
  repeat' (first | intro _ | apply And.intro)
  all_goals (try refine ⟨(_, _), rfl, ?_, ?_⟩)
  all_goals subst hR0 hg_F_i_rowWith_1 hg_Q_i_rowWith_1
  all_goals (try simp only [F_i_rowWith_1, Q_i_rowWith_1, F_sl_IndexFunc_Row__i_rowWith_1] at *)
  all_goals grind [findG_cons, findG_nil]
def con_sl_IndexFunc_Row__i_rowWith_1 : Con := ⟨true, g2 (pD (.sl (.pair (.sl (.int .u8)) (.pair (.int .i64) .unit)))) (pC1 113 (pP (.sl (.int .u8)))) fun s key => .one ⟨[Q_sl_IndexFunc_Row__i_rowWith_1 s key], [⟨(.int .i64), .sh, F_sl_IndexFunc_Row__i_rowWith_1 s key⟩], []⟩, [], false, 0⟩
theorem ok_sl_IndexFunc_Row__i_rowWith_1 : ConOk pg 112 con_sl_IndexFunc_Row__i_rowWith_1 := ConOk.g2 (Enters.of (by kernel_rfl)) ct_sl_IndexFunc_Row__i_rowWith_1

def F_i_rowWith (rows : List ((List (Int)) × (Int) × Unit)) (key : List (Int)) : Int := findG (fun x : RowT => decide (x.1 = key)) rows 0
def Q_i_rowWith (rows : List ((List (Int)) × (Int) × Unit)) (key : List (Int)) : Prop := True
def O_i_rowWith : Opt := ⟨fun i => false, fun i => [], fun i => .done, fun i => none, fun i => false, fun i => [], fun i => false, fun i => none, fun i => none⟩
def τ_i_rowWith : Env := Env.of [(3, (.int .i64)), (4, .bool), (34, (.sl (.int .u8))), (42, (.sl (.pair (.sl (.int .u8)) (.pair (.int .i64) .unit))))] [(141, (.sl (.int .u8)))] []

theorem ct_i_rowWith (rows : List ((List (Int)) × (Int) × Unit)) (key : List (Int)) : Ct pg 58 [.dat (.sl (.pair (.sl (.int .u8)) (.pair (.int .i64) .unit))) rows, .dat (.sl (.int .u8)) key] ⟨[Q_i_rowWith rows key], [⟨(.int .i64), .sh, F_i_rowWith rows key⟩], []⟩ := by
  refine ct_claim (O := O_i_rowWith) (τ := τ_i_rowWith) (EnvOk.of (by kernel_rfl) (by kernel_rfl)) (GOk.of (.cons ok_i_rowWith_1 (.cons ok_sl_IndexFunc_Row__i_rowWith_1 .nil) : AllOk pg [(113, con_i_rowWith_1), (112, con_sl_IndexFunc_Row__i_rowWith_1)])) mixed (Enters.of (by kernel_rfl)) (fn := Go.Proofs.Try.f58) (by kernel_rfl) rfl (by kernel_rfl) ?_
  intro hp hw
  have hq : Q_i_rowWith rows key := hp _ (List.mem_singleton.2 rfl)
  clear hp
  change claim Lg.std Alg.std τ_i_rowWith (Gam.of [(113, ⟨true, g2 (pD (.pair (.sl (.int .u8)) (.pair (.int .i64) .unit))) (pP (.sl (.int .u8))) fun r key => .one ⟨[Q_i_rowWith_1 r key], [⟨.bool, .sh, F_i_rowWith_1 r key⟩], []⟩, [], false, 0⟩), (112, ⟨true, g2 (pD (.sl (.pair (.sl (.int .u8)) (.pair (.int .i64) .unit)))) (pC1 113 (pP (.sl (.int .u8)))) fun s key => .one ⟨[Q_sl_IndexFunc_Row__i_rowWith_1 s key], [⟨(.int .i64), .sh, F_sl_IndexFunc_Row__i_rowWith_1 s key⟩], []⟩, [], false, 0⟩)]) O_i_rowWith Go.Proofs.Try.f58 [.dat (.sl (.pair (.sl (.int .u8)) (.pair (.int .i64) .unit))) rows, .dat (.sl (.int .u8)) key] ⟨[Q_i_rowWith rows key], [⟨(.int .i64), .sh, F_i_rowWith rows key⟩], []⟩
  generalize hg_F_i_rowWith_1 : F_i_rowWith_1 = g_F_i_rowWith_1
  generalize hg_Q_i_rowWith_1 : Q_i_rowWith_1 = g_Q_i_rowWith_1
  generalize hg_F_sl_IndexFunc_Row__i_rowWith_1 : F_sl_IndexFunc_Row__i_rowWith_1 = g_F_sl_IndexFunc_Row__i_rowWith_1
  generalize hg_Q_sl_IndexFunc_Row__i_rowWith_1 : Q_sl_IndexFunc_Row__i_rowWith_1 = g_Q_sl_IndexFunc_Row__i_rowWith_1
  generalize hR0 : F_i_rowWith rows key = R0
  generalize Q_i_rowWith rows key = Q0
  generalize hL : Lg.std = L
  generalize hA : Alg.std = A
  cbv
  subst hL hA
  try dsimp only [Ty.den]
  subst hR0 hg_F_i_rowWith_1 hg_Q_i_rowWith_1 hg_F_sl_IndexFunc_Row__i_rowWith_1 hg_Q_sl_IndexFunc_Row__i_rowWith_1
  simp only [Q_i_rowWith] at hq
  simp only [Lg.std, Alg.std, List.drop_zero, List.take_length, F_i_rowWith_1, F_sl_IndexFunc_Row__i_rowWith_1, Q_i_rowWith_1, Q_sl_IndexFunc_Row__i_rowWith_1, F_i_rowWith]
  all_goals grind
def con_i_rowWith : Con := ⟨true, g2 (pD (.sl (.pair (.sl (.int .u8)) (.pair (.int .i64) .unit)))) (pD (.sl (.int .u8))) fun rows key => .one ⟨[Q_i_rowWith rows key], [⟨(.int .i64), .sh, F_i_rowWith rows key⟩], []⟩, [], false, 0⟩
theorem ok_i_rowWith : ConOk pg 58 con_i_rowWith := ConOk.g2 (Enters.of (by kernel_rfl)) ct_i_rowWith

def F_s_l17Find (rows : List ((List (Int)) × (Int) × Unit)) (key : List (Int)) : Int := findG (fun x : RowT => decide (x.1 = key)) rows 0
def Q_s_l17Find (rows : List ((List (Int)) × (Int) × Unit)) (key : List (Int)) : Prop := True
def O_s_l17Find : Opt := ⟨fun i => (match decide (i = 4) with | true => true | false => false), fun i => (match decide (i = 2) with | true => [true, true, false, false, false, true, false, false, false, false, false, false, false, false, false, false, false, false, false, false, false, false] | false => []), fun i => .done, fun i => none, fun i => false, fun i => [], fun i => false, fun i => none, fun i => none⟩
def τ_s_l17Find : Env := Env.of [(3, (.int .i64)), (4, .bool), (9, .str), (34, (.sl (.int .u8))), (42, (.sl (.pair (.sl (.int .u8)) (.pair (.int .i64) .unit)))), (90, (.pair (.sl (.int .u8)) (.pair (.int .i64) .unit)))] [] []

theorem ct_s_l17Find (rows : List ((List (Int)) × (Int) × Unit)) (key : List (Int)) : Ct pg 55 [.dat (.sl (.pair (.sl (.int .u8)) (.pair (.int .i64) .unit))) rows, .dat (.sl (.int .u8)) key] ⟨[Q_s_l17Find rows key], [⟨(.int .i64), .sh, F_s_l17Find rows key⟩], []⟩ := by
  refine ct_claim (O := O_s_l17Find) (τ := τ_s_l17Find) (EnvOk.of (by kernel_rfl) (by kernel_rfl)) (GOk.of (.nil : AllOk pg [])) mixed (Enters.of (by kernel_rfl)) (fn := Go.Proofs.Try.f55) (by kernel_rfl) rfl (by kernel_rfl) ?_
  intro hp hw
  have hq : Q_s_l17Find rows key := hp _ (List.mem_singleton.2 rfl)
  clear hp
  change claim Lg.std Alg.std τ_s_l17Find (Gam.of []) O_s_l17Find Go.Proofs.Try.f55 [.dat (.sl (.pair (.sl (.int .u8)) (.pair (.int .i64) .unit))) rows, .dat (.sl (.int .u8)) key] ⟨[Q_s_l17Find rows key], [⟨(.int .i64), .sh, F_s_l17Find rows key⟩], []⟩
  generalize hR0 : F_s_l17Find rows key = R0
  generalize Q_s_l17Find rows key = Q0
  generalize hL : Lg.std = L
  generalize hA : Alg.std = A
  cbv
  subst hL hA
  try dsimp only [Ty.den]
  refine lp_v (V := (Int)) (fun (i : Int) => ⟨[.dat (.sl (.pair (.sl (.int .u8)) (.pair (.int .i64) .unit))) rows, .dat (.sl (.int .u8)) key, .junk, .junk, .junk, .dat (.int .i64) i, .junk, .junk, .junk, .junk, .junk, .junk, .junk, .junk, .junk, .junk, .junk, .junk, .junk, .junk, .junk, .junk], []⟩) (fun (i : Int) => 0 ≤ i ∧ i ≤ rows.length ∧ findG (fun x : RowT => decide (x.1 = key)) rows 0 = findG (fun x : RowT => decide (x.1 = key)) (rows.drop i.toNat) i) (fun (i : Int) => rows.length - i.toNat) (0) rfl ?_ ?_
  · simp [Alg.std]
  rintro i hf I hI
  replace hf : 0 ≤ i ∧ i ≤ rows.length ∧ findG (fun x : RowT => decide (x.1 = key)) rows 0 = findG (fun x : RowT => decide (x.1 = key)) (rows.drop i.toNat) i := hf
  generalize hL : Lg.std = L
  generalize hA : Alg.std = A
  cbv
  subst hL hA
  try dsimp only [Ty.den]
  subst hI
  simp only [Lg.std, Alg.std, List.drop_zero, List.take_length]
  obtain ⟨h1, h2, h3⟩ := hf
  have hl := hw.1.1
  have hdc := fun (h : i.toNat < rows.length) => drop_cons rows ([], 0, PUnit.unit) i.toNat h
  have he := fun (h : rows.length ≤ i.toNat) => drop_nil rows i.toNat h
  repeat' (first | intro _ | apply And.intro)
  all_goals (try refine ⟨_, rfl, ?_, ?_⟩)
  all_goals subst hR0
  all_goals (try simp only [F_s_l17Find] at *)
  all_goals grind [findG_cons, findG_nil]
def con_s_l17Find : Con := ⟨true, g2 (pD (.sl (.pair (.sl (.int .u8)) (.pair (.int .i64) .unit)))) (pD (.sl (.int .u8))) fun rows key => .one ⟨[Q_s_l17Find rows key], [⟨(.int .i64), .sh, F_s_l17Find rows key⟩], []⟩, [], false, 0⟩
theorem ok_s_l17Find : ConOk pg 55 con_s_l17Find := ConOk.g2 (Enters.of (by kernel_rfl)) ct_s_l17Find

def F_i_GetRow (d : (List (List (Int))) × (List ((Int) × (List (Int)) × Unit)) × Unit) (root : Int) (key : List (Int)) : (Int) × (Int) × Unit := getRow d root key
def Q_i_GetRow (d : (List (List (Int))) × (List ((Int) × (List (Int)) × Unit)) × Unit) (root : Int) (key : List (Int)) : Prop := True
def O_i_GetRow : Opt := ⟨fun i => false, fun i => [], fun i => .done, fun i => none, fun i => false, fun i => [], fun i => false, fun i => none, fun i => none⟩
def τ_i_GetRow : Env := Env.of [(2, (.int .i64)), (3, (.int .i64)), (4, .bool), (30, (.pair (.sl (.sl (.int .u8))) (.pair (.sl (.pair (.int .i64) (.pair (.sl (.int .u8)) .unit))) .unit))), (34, (.sl (.int .u8))), (36, (.pair (.int .i64) (.pair (.int .i64) .unit))), (42, (.sl (.pair (.sl (.int .u8)) (.pair (.int .i64) .unit)))), (75, (.sl (.int .i64))), (90, (.pair (.sl (.int .u8)) (.pair (.int .i64) .unit))), (94, (.pair (.pair (.sl (.sl (.int .u8))) (.pair (.sl (.pair (.int .i64) (.pair (.sl (.int .u8)) .unit))) .unit)) (.pair (.sl (.int .i64)) (.pair (.sl (.pair (.sl (.int .u8)) (.pair (.int .i64) .unit))) (.pair (.int .i64) .unit)))))] [(83, (.pair (.pair (.sl (.sl (.int .u8))) (.pair (.sl (.pair (.int .i64) (.pair (.sl (.int .u8)) .unit))) .unit)) (.pair (.sl (.int .i64)) (.pair (.sl (.pair (.sl (.int .u8)) (.pair (.int .i64) .unit))) (.pair (.int .i64) .unit)))))] []

theorem ct_i_GetRow (d : (List (List (Int))) × (List ((Int) × (List (Int)) × Unit)) × Unit) (root : Int) (key : List (Int)) : Ct pg 16 [.dat (.pair (.sl (.sl (.int .u8))) (.pair (.sl (.pair (.int .i64) (.pair (.sl (.int .u8)) .unit))) .unit)) d, .dat (.int .i64) root, .dat (.sl (.int .u8)) key] ⟨[Q_i_GetRow d root key], [⟨(.pair (.int .i64) (.pair (.int .i64) .unit)), .sh, F_i_GetRow d root key⟩], []⟩ := by
  refine ct_claim (O := O_i_GetRow) (τ := τ_i_GetRow) (EnvOk.of (by kernel_rfl) (by kernel_rfl)) (GOk.of (.cons ok_i_rowKeyFault (.cons ok_i_firstCode (.cons ok_i_treeOf (.cons ok_i_rowWith .nil))) : AllOk pg [(57, con_i_rowKeyFault), (56, con_i_firstCode), (50, con_i_treeOf), (58, con_i_rowWith)])) mixed (Enters.of (by kernel_rfl)) (fn := Go.Proofs.Try.f16) (by kernel_rfl) rfl (by kernel_rfl) ?_
  intro hp hw
  have hq : Q_i_GetRow d root key := hp _ (List.mem_singleton.2 rfl)
  clear hp
  change claim Lg.std Alg.std τ_i_GetRow (Gam.of [(57, ⟨true, g1 (pD (.sl (.int .u8))) fun key => .one ⟨[Q_i_rowKeyFault key], [⟨(.int .i64), .sh, F_i_rowKeyFault key⟩], []⟩, [], false, 0⟩), (56, ⟨true, g1 (pD (.sl (.int .i64))) fun l => .one ⟨[Q_i_firstCode l], [⟨(.int .i64), .sh, F_i_firstCode l⟩], []⟩, [], false, 0⟩), (50, ⟨true, g2 (pD (.pair (.sl (.sl (.int .u8))) (.pair (.sl (.pair (.int .i64) (.pair (.sl (.int .u8)) .unit))) .unit))) (pD (.int .i64)) fun d root => .one ⟨[Q_i_treeOf d root], [⟨(.pair (.pair (.sl (.sl (.int .u8))) (.pair (.sl (.pair (.int .i64) (.pair (.sl (.int .u8)) .unit))) .unit)) (.pair (.sl (.int .i64)) (.pair (.sl (.pair (.sl (.int .u8)) (.pair (.int .i64) .unit))) (.pair (.int .i64) .unit)))), (.np (.pr .sh (.pr (.ow .sh) (.pr (.ow (.pr (.ow .sh) (.pr .sh .sh))) (.pr .sh .sh))))), F_i_treeOf d root⟩, ⟨(.int .i64), .sh, F_i_treeOf_1 d root⟩], []⟩, [], false, 0⟩), (58, ⟨true, g2 (pD (.sl (.pair (.sl (.int .u8)) (.pair (.int .i64) .unit)))) (pD (.sl (.int .u8))) fun rows key => .one ⟨[Q_i_rowWith rows key], [⟨(.int .i64), .sh, F_i_rowWith rows key⟩], []⟩, [], false, 0⟩)]) O_i_GetRow Go.Proofs.Try.f16 [.dat (.pair (.sl (.sl (.int .u8))) (.pair (.sl (.pair (.int .i64) (.pair (.sl (.int .u8)) .unit))) .unit)) d, .dat (.int .i64) root, .dat (.sl (.int .u8)) key] ⟨[Q_i_GetRow d root key], [⟨(.pair (.int .i64) (.pair (.int .i64) .unit)), .sh, F_i_GetRow d root key⟩], []⟩
  generalize hg_F_i_rowKeyFault : F_i_rowKeyFault = g_F_i_rowKeyFault
  generalize hg_Q_i_rowKeyFault : Q_i_rowKeyFault = g_Q_i_rowKeyFault
  generalize hg_F_i_firstCode : F_i_firstCode = g_F_i_firstCode
  generalize hg_Q_i_firstCode : Q_i_firstCode = g_Q_i_firstCode
  generalize hg_F_i_treeOf : F_i_treeOf = g_F_i_treeOf
  generalize hg_F_i_treeOf_1 : F_i_treeOf_1 = g_F_i_treeOf_1
  generalize hg_Q_i_treeOf : Q_i_treeOf = g_Q_i_treeOf
  generalize hg_F_i_rowWith : F_i_rowWith = g_F_i_rowWith
  generalize hg_Q_i_rowWith : Q_i_rowWith = g_Q_i_rowWith
  generalize hR0 : F_i_GetRow d root key = R0
  generalize Q_i_GetRow d root key = Q0
  generalize hL : Lg.std = L
  generalize hA : Alg.std = A
  cbv
  subst hL hA
  try dsimp only [Ty.den]
  obtain ⟨d_0, d_1, ⟨⟩⟩ := d
  subst hR0 hg_F_i_rowKeyFault hg_Q_i_rowKeyFault hg_F_i_firstCode hg_Q_i_firstCode hg_F_i_treeOf hg_F_i_treeOf_1 hg_Q_i_treeOf hg_F_i_rowWith hg_Q_i_rowWith
  simp only [Lg.std, Alg.std, List.drop_zero, List.take_length, F_i_rowKeyFault, F_i_firstCode, F_i_treeOf, F_i_rowWith, F_i_treeOf_1, Q_i_rowKeyFault, Q_i_firstCode, Q_i_treeOf, Q_i_rowWith, F_i_GetRow, getRow, rowsIn, scanRows] at *
  have h0 := treeSA_code (d_0, d_1, PUnit.unit) root
  have h1 := treeSA_rows (d_0, d_1, PUnit.unit) root
  have h2 := rows_cnt (d_0, d_1, PUnit.unit) root
  have h3 := findG_range (fun x : RowT => decide (x.1 = key)) (treeAll (d_0, d_1, PUnit.unit) root).2.2.1 0 (by omega)
  have h4 : ∀ w : WkT, (sortW w).2.1 = w.2.1 := fun _ => rfl
  generalize treeSA (d_0, d_1, PUnit.unit) root = tS at *
  generalize treeAll (d_0, d_1, PUnit.unit) root = tA at *
  obtain ⟨⟨s1, s2, s3, ⟨⟩⟩, s4⟩ := tS
  obtain ⟨t1, t2, t3, t4, ⟨⟩⟩ := tA
  have h5 : sortW (t2, t3, t4, PUnit.unit) = (sortI t2, t3, t4, PUnit.unit) := rfl
  simp only [h5, Prod.mk.injEq] at *
  try simp only [true_and, and_true, false_implies, implies_true, imp_self]
  repeat' (first | intro _ | apply And.intro)
  all_goals grind [firstNZ]
def con_i_GetRow : Con := ⟨true, g3 (pD (.pair (.sl (.sl (.int .u8))) (.pair (.sl (.pair (.int .i64) (.pair (.sl (.int .u8)) .unit))) .unit))) (pD (.int .i64)) (pD (.sl (.int .u8))) fun d root key => .one ⟨[Q_i_GetRow d root key], [⟨(.pair (.int .i64) (.pair (.int .i64) .unit)), .sh, F_i_GetRow d root key⟩], []⟩, [], false, 0⟩
theorem ok_i_GetRow : ConOk pg 16 con_i_GetRow := ConOk.g3 (Enters.of (by kernel_rfl)) ct_i_GetRow

def F_s_GetRow (d : (List (List (Int))) × (List ((Int) × (List (Int)) × Unit)) × Unit) (root : Int) (key : List (Int)) : (Int) × (Int) × Unit := getRow d root key
def Q_s_GetRow (d : (List (List (Int))) × (List ((Int) × (List (Int)) × Unit)) × Unit) (root : Int) (key : List (Int)) : Prop := True
def O_s_GetRow : Opt := ⟨fun i => false, fun i => [], fun i => .done, fun i => none, fun i => false, fun i => [], fun i => false, fun i => none, fun i => none⟩
def τ_s_GetRow : Env := Env.of [(2, (.int .i64)), (3, (.int .i64)), (4, .bool), (30, (.pair (.sl (.sl (.int .u8))) (.pair (.sl (.pair (.int .i64) (.pair (.sl (.int .u8)) .unit))) .unit))), (34, (.sl (.int .u8))), (36, (.pair (.int .i64) (.pair (.int .i64) .unit))), (42, (.sl (.pair (.sl (.int .u8)) (.pair (.int .i64) .unit)))), (77, (.pair (.sl (.int .i64)) (.pair (.sl (.pair (.sl (.int .u8)) (.pair (.int .i64) .unit))) (.pair (.int .i64) .unit)))), (90, (.pair (.sl (.int .u8)) (.pair (.int .i64) .unit)))] [(80, (.pair (.sl (.sl (.int .u8))) (.pair (.sl (.pair (.int .i64) (.pair (.sl (.int .u8)) .unit))) .unit)))] []

theorem ct_s_GetRow (d : (List (List (Int))) × (List ((Int) × (List (Int)) × Unit)) × Unit) (root : Int) (key : List (Int)) : Ct pg 14 [.dat (.pair (.sl (.sl (.int .u8))) (.pair (.sl (.pair (.int .i64) (.pair (.sl (.int .u8)) .unit))) .unit)) d, .dat (.int .i64) root, .dat (.sl (.int .u8)) key] ⟨[Q_s_GetRow d root key], [⟨(.pair (.int .i64) (.pair (.int .i64) .unit)), .sh, F_s_GetRow d root key⟩], []⟩ := by
  refine ct_claim (O := O_s_GetRow) (τ := τ_s_GetRow) (EnvOk.of (by kernel_rfl) (by kernel_rfl)) (GOk.of (.cons ok_s_l17All (.cons ok_s_l17Key (.cons ok_s_l17Find .nil)) : AllOk pg [(53, con_s_l17All), (54, con_s_l17Key), (55, con_s_l17Find)])) mixed (Enters.of (by kernel_rfl)) (fn := Go.Proofs.Try.f14) (by kernel_rfl) rfl (by kernel_rfl) ?_
  intro hp hw
  have hq : Q_s_GetRow d root key := hp _ (List.mem_singleton.2 rfl)
  clear hp
  change claim Lg.std Alg.std τ_s_GetRow (Gam.of [(53, ⟨true, g2 (pP (.pair (.sl (.sl (.int .u8))) (.pair (.sl (.pair (.int .i64) (.pair (.sl (.int .u8)) .unit))) .unit))) (pD (.int .i64)) fun d root => .one ⟨[Q_s_l17All d root], [⟨(.pair (.sl (.int .i64)) (.pair (.sl (.pair (.sl (.int .u8)) (.pair (.int .i64) .unit))) (.pair (.int .i64) .unit))), (.pr (.ow .sh) (.pr (.ow (.pr (.ow .sh) (.pr .sh .sh))) (.pr .sh .sh))), F_s_l17All d root⟩, ⟨(.int .i64), .sh, F_s_l17All_1 d root⟩], []⟩, [], false, 0⟩), (54, ⟨true, g1 (pD (.sl (.int .u8))) fun key => .one ⟨[Q_s_l17Key key], [⟨.bool, .sh, F_s_l17Key key⟩], []⟩, [], false, 0⟩), (55, ⟨true, g2 (pD (.sl (.pair (.sl (.int .u8)) (.pair (.int .i64) .unit)))) (pD (.sl (.int .u8))) fun rows key => .one ⟨[Q_s_l17Find rows key], [⟨(.int .i64), .sh, F_s_l17Find rows key⟩], []⟩, [], false, 0⟩)]) O_s_GetRow Go.Proofs.Try.f14 [.dat (.pair (.sl (.sl (.int .u8))) (.pair (.sl (.pair (.int .i64) (.pair (.sl (.int .u8)) .unit))) .unit)) d, .dat (.int .i64) root, .dat (.sl (.int .u8)) key] ⟨[Q_s_GetRow d root key], [⟨(.pair (.int .i64) (.pair (.int .i64) .unit)), .sh, F_s_GetRow d root key⟩], []⟩
  generalize hg_F_s_l17All : F_s_l17All = g_F_s_l17All
  generalize hg_F_s_l17All_1 : F_s_l17All_1 = g_F_s_l17All_1
  generalize hg_Q_s_l17All : Q_s_l17All = g_Q_s_l17All
  generalize hg_F_s_l17Key : F_s_l17Key = g_F_s_l17Key
  generalize hg_Q_s_l17Key : Q_s_l17Key = g_Q_s_l17Key
  generalize hg_F_s_l17Find : F_s_l17Find = g_F_s_l17Find
  generalize hg_Q_s_l17Find : Q_s_l17Find = g_Q_s_l17Find
  generalize hR0 : F_s_GetRow d root key = R0
  generalize Q_s_GetRow d root key = Q0
  generalize hL : Lg.std = L
  generalize hA : Alg.std = A
  cbv
  subst hL hA
  try dsimp only [Ty.den]
  obtain ⟨d_0, d_1, ⟨⟩⟩ := d
  subst hR0 hg_F_s_l17All hg_F_s_l17All_1 hg_Q_s_l17All hg_F_s_l17Key hg_Q_s_l17Key hg_F_s_l17Find hg_Q_s_l17Find
  simp only [Lg.std, Alg.std, List.drop_zero, List.take_length, F_s_l17All, F_s_l17Key, F_s_l17Find, F_s_l17All_1, Q_s_l17All, Q_s_l17Key, Q_s_l17Find, F_s_GetRow, getRow, rowsIn, scanRows] at *
  have h0 := treeSA_code (d_0, d_1, PUnit.unit) root
  have h1 := treeSA_rows (d_0, d_1, PUnit.unit) root
  have h2 := rows_cnt (d_0, d_1, PUnit.unit) root
  have h3 := findG_range (fun x : RowT => decide (x.1 = key)) (treeAll (d_0, d_1, PUnit.unit) root).2.2.1 0 (by omega)
  have h4 : ∀ w : WkT, (sortW w).2.1 = w.2.1 := fun _ => rfl
  generalize treeSA (d_0, d_1, PUnit.unit) root = tS at *
  generalize treeAll (d_0, d_1, PUnit.unit) root = tA at *
  obtain ⟨⟨s1, s2, s3, ⟨⟩⟩, s4⟩ := tS
  obtain ⟨t1, t2, t3, t4, ⟨⟩⟩ := tA
  have h5 : sortW (t2, t3, t4, PUnit.unit) = (sortI t2, t3, t4, PUnit.unit) := rfl
  simp only [h5, Prod.mk.injEq] at *
  try simp only [true_and, and_true, false_implies, implies_true, imp_self]
  repeat' (first | intro _ | apply And.intro)
  all_goals grind
def con_s_GetRow : Con := ⟨true, g3 (pD (.pair (.sl (.sl (.int .u8))) (.pair (.sl (.pair (.int .i64) (.pair (.sl (.int .u8)) .unit))) .unit))) (pD (.int .i64)) (pD (.sl (.int .u8))) fun d root key => .one ⟨[Q_s_GetRow d root key], [⟨(.pair (.int .i64) (.pair (.int .i64) .unit)), .sh, F_s_GetRow d root key⟩], []⟩, [], false, 0⟩
theorem ok_s_GetRow : ConOk pg 14 con_s_GetRow := ConOk.g3 (Enters.of (by kernel_rfl)) ct_s_GetRow

def F_w_eqIntResult (a : (Int) × (Int) × Unit) (b : (Int) × (Int) × Unit) : Bool := decide (a = b)
def Q_w_eqIntResult (a : (Int) × (Int) × Unit) (b : (Int) × (Int) × Unit) : Prop := True
def O_w_eqIntResult : Opt := ⟨fun i => false, fun i => [], fun i => .done, fun i => none, fun i => false, fun i => [], fun i => false, fun i => none, fun i => none⟩
def τ_w_eqIntResult : Env := Env.of [(2, (.int .i64)), (4, .bool), (36, (.pair (.int .i64) (.pair (.int .i64) .unit)))] [] []

theorem ct_w_eqIntResult (a : (Int) × (Int) × Unit) (b : (Int) × (Int) × Unit) : Ct pg 17 [.dat (.pair (.int .i64) (.pair (.int .i64) .unit)) a, .dat (.pair (.int .i64) (.pair (.int .i64) .unit)) b] ⟨[Q_w_eqIntResult a b], [⟨.bool, .sh, F_w_eqIntResult a b⟩], []⟩ := by
  refine ct_claim (O := O_w_eqIntResult) (τ := τ_w_eqIntResult) (EnvOk.of (by kernel_rfl) (by kernel_rfl)) (GOk.of (.nil : AllOk pg [])) mixed (Enters.of (by kernel_rfl)) (fn := Go.Proofs.Try.f17) (by kernel_rfl) rfl (by kernel_rfl) ?_
  intro hp hw
  have hq : Q_w_eqIntResult a b := hp _ (List.mem_singleton.2 rfl)
  clear hp
  change claim Lg.std Alg.std τ_w_eqIntResult (Gam.of []) O_w_eqIntResult Go.Proofs.Try.f17 [.dat (.pair (.int .i64) (.pair (.int .i64) .unit)) a, .dat (.pair (.int .i64) (.pair (.int .i64) .unit)) b] ⟨[Q_w_eqIntResult a b], [⟨.bool, .sh, F_w_eqIntResult a b⟩], []⟩
  generalize hR0 : F_w_eqIntResult a b = R0
  generalize Q_w_eqIntResult a b = Q0
  generalize hL : Lg.std = L
  generalize hA : Alg.std = A
  cbv
  subst hL hA
  try dsimp only [Ty.den]
  obtain ⟨f0, f1, ⟨⟩⟩ := a
  obtain ⟨g0, g1, ⟨⟩⟩ := b
  subst hR0
  simp only [Q_w_eqIntResult] at hq
  simp only [Lg.std, Alg.std, List.drop_zero, List.take_length, F_w_eqIntResult]
  all_goals grind
def con_w_eqIntResult : Con := ⟨true, g2 (pD (.pair (.int .i64) (.pair (.int .i64) .unit))) (pD (.pair (.int .i64) (.pair (.int .i64) .unit))) fun a b => .one ⟨[Q_w_eqIntResult a b], [⟨.bool, .sh, F_w_eqIntResult a b⟩], []⟩, [], false, 0⟩
theorem ok_w_eqIntResult : ConOk pg 17 con_w_eqIntResult := ConOk.g2 (Enters.of (by kernel_rfl)) ct_w_eqIntResult

def F_w_FnExactGetRow (d : (List (List (Int))) × (List ((Int) × (List (Int)) × Unit)) × Unit) (root : Int) (key : List (Int)) : Bool := true
def Q_w_FnExactGetRow (d : (List (List (Int))) × (List ((Int) × (List (Int)) × Unit)) × Unit) (root : Int) (key : List (Int)) : Prop := True
def O_w_FnExactGetRow : Opt := ⟨fun i => false, fun i => [], fun i => (match decide (i = 13) with | true => (.alt 0 (.alt 1 (.alt 2 (.alt 3 (.take 4 .done) .no) .no) .no) (.alt 1 (.alt 0 (.alt 2 (.alt 3 (.take 4 .done) .no) .no) (.alt 2 (.take 0 (.alt 3 (.take 4 .done) .no)) .no)) .no)) | false => .done), fun i => (match decide (i = 13) with | true => some [false, false, true, false, false, false, false, false, false, false, true, false, false, false, false, false, false, false, false, false, false, false, false, false, false, false, false, false, false, false, false, false, false, false, false, false, false, false, false, false, false, false, true, false, false, false, false, false] | false => none), fun i => false, fun i => [], fun i => false, fun i => none, fun i => none⟩
def τ_w_FnExactGetRow : Env := Env.of [(2, (.int .i64)), (3, (.int .i64)), (4, .bool), (25, (.pair (.sl (.sl (.int .u8))) (.pair (.sl (.pair (.int .i64) (.pair (.sl (.int .u8)) .unit))) .unit))), (30, (.pair (.sl (.sl (.int .u8))) (.pair (.sl (.pair (.int .i64) (.pair (.sl (.int .u8)) .unit))) .unit))), (34, (.sl (.int .u8))), (36, (.pair (.int .i64) (.pair (.int .i64) .unit)))] [] []

theorem ct_w_FnExactGetRow (d : (List (List (Int))) × (List ((Int) × (List (Int)) × Unit)) × Unit) (root : Int) (key : List (Int)) : Ct pg 4 [.dat (.pair (.sl (.sl (.int .u8))) (.pair (.sl (.pair (.int .i64) (.pair (.sl (.int .u8)) .unit))) .unit)) d, .dat (.int .i64) root, .dat (.sl (.int .u8)) key] ⟨[Q_w_FnExactGetRow d root key], [⟨.bool, .sh, F_w_FnExactGetRow d root key⟩], []⟩ := by
  refine ct_claim (O := O_w_FnExactGetRow) (τ := τ_w_FnExactGetRow) (EnvOk.of (by kernel_rfl) (by kernel_rfl)) (GOk.of (.cons ok_w_toByteS (.cons ok_w_eqByteS (.cons ok_w_toDisk (.cons ok_w_eqDisk (.cons ok_w_szDisk (.cons ok_i_GetRow (.cons ok_s_GetRow (.cons ok_w_eqIntResult .nil))))))) : AllOk pg [(15, con_w_toByteS), (18, con_w_eqByteS), (11, con_w_toDisk), (13, con_w_eqDisk), (9, con_w_szDisk), (16, con_i_GetRow), (14, con_s_GetRow), (17, con_w_eqIntResult)])) mixed (Enters.of (by kernel_rfl)) (fn := Go.Proofs.Try.f4) (by kernel_rfl) rfl (by kernel_rfl) ?_
  intro hp hw
  have hq : Q_w_FnExactGetRow d root key := hp _ (List.mem_singleton.2 rfl)
  clear hp
  change claim Lg.std Alg.std τ_w_FnExactGetRow (Gam.of [(15, ⟨true, g1 (pD (.sl (.int .u8))) fun a => .one ⟨[Q_w_toByteS a], [⟨(.sl (.int .u8)), (.ow .sh), F_w_toByteS a⟩], []⟩, [], false, 0⟩), (18, ⟨true, g2 (pD (.sl (.int .u8))) (pD (.sl (.int .u8))) fun a b => .one ⟨[Q_w_eqByteS a b], [⟨.bool, .sh, F_w_eqByteS a b⟩], []⟩, [], false, 0⟩), (11, ⟨true, g1 (pD (.pair (.sl (.sl (.int .u8))) (.pair (.sl (.pair (.int .i64) (.pair (.sl (.int .u8)) .unit))) .unit))) fun a => .one ⟨[Q_w_toDisk a], [⟨(.pair (.sl (.sl (.int .u8))) (.pair (.sl (.pair (.int .i64) (.pair (.sl (.int .u8)) .unit))) .unit)), (.pr (.ow (.ow .sh)) (.pr (.ow (.pr .sh (.pr (.ow .sh) .sh))) .sh)), F_w_toDisk a⟩], []⟩, [], false, 0⟩), (13, ⟨true, g2 (pD (.pair (.sl (.sl (.int .u8))) (.pair (.sl (.pair (.int .i64) (.pair (.sl (.int .u8)) .unit))) .unit))) (pD (.pair (.sl (.sl (.int .u8))) (.pair (.sl (.pair (.int .i64) (.pair (.sl (.int .u8)) .unit))) .unit))) fun a b => .one ⟨[Q_w_eqDisk a b], [⟨.bool, .sh, F_w_eqDisk a b⟩], []⟩, [], false, 0⟩), (9, ⟨true, g2 (pD (.pair (.sl (.sl (.int .u8))) (.pair (.sl (.pair (.int .i64) (.pair (.sl (.int .u8)) .unit))) .unit))) (pD (.int .i64)) fun a left => .one ⟨[Q_w_szDisk a left], [⟨(.int .i64), .sh, F_w_szDisk a left⟩], []⟩, [], false, 0⟩), (16, ⟨true, g3 (pD (.pair (.sl (.sl (.int .u8))) (.pair (.sl (.pair (.int .i64) (.pair (.sl (.int .u8)) .unit))) .unit))) (pD (.int .i64)) (pD (.sl (.int .u8))) fun d root key => .one ⟨[Q_i_GetRow d root key], [⟨(.pair (.int .i64) (.pair (.int .i64) .unit)), .sh, F_i_GetRow d root key⟩], []⟩, [], false, 0⟩), (14, ⟨true, g3 (pD (.pair (.sl (.sl (.int .u8))) (.pair (.sl (.pair (.int .i64) (.pair (.sl (.int .u8)) .unit))) .unit))) (pD (.int .i64)) (pD (.sl (.int .u8))) fun d root key => .one ⟨[Q_s_GetRow d root key], [⟨(.pair (.int .i64) (.pair (.int .i64) .unit)), .sh, F_s_GetRow d root key⟩], []⟩, [], false, 0⟩), (17, ⟨true, g2 (pD (.pair (.int .i64) (.pair (.int .i64) .unit))) (pD (.pair (.int .i64) (.pair (.int .i64) .unit))) fun a b => .one ⟨[Q_w_eqIntResult a b], [⟨.bool, .sh, F_w_eqIntResult a b⟩], []⟩, [], false, 0⟩)]) O_w_FnExactGetRow Go.Proofs.Try.f4 [.dat (.pair (.sl (.sl (.int .u8))) (.pair (.sl (.pair (.int .i64) (.pair (.sl (.int .u8)) .unit))) .unit)) d, .dat (.int .i64) root, .dat (.sl (.int .u8)) key] ⟨[Q_w_FnExactGetRow d root key], [⟨.bool, .sh, F_w_FnExactGetRow d root key⟩], []⟩
  generalize hg_F_w_toByteS : F_w_toByteS = g_F_w_toByteS
  generalize hg_Q_w_toByteS : Q_w_toByteS = g_Q_w_toByteS
  generalize hg_F_w_eqByteS : F_w_eqByteS = g_F_w_eqByteS
  generalize hg_Q_w_eqByteS : Q_w_eqByteS = g_Q_w_eqByteS
  generalize hg_F_w_toDisk : F_w_toDisk = g_F_w_toDisk
  generalize hg_Q_w_toDisk : Q_w_toDisk = g_Q_w_toDisk
  generalize hg_F_w_eqDisk : F_w_eqDisk = g_F_w_eqDisk
  generalize hg_Q_w_eqDisk : Q_w_eqDisk = g_Q_w_eqDisk
  generalize hg_F_w_szDisk : F_w_szDisk = g_F_w_szDisk
  generalize hg_Q_w_szDisk : Q_w_szDisk = g_Q_w_szDisk
  generalize hg_F_i_GetRow : F_i_GetRow = g_F_i_GetRow
  generalize hg_Q_i_GetRow : Q_i_GetRow = g_Q_i_GetRow
  generalize hg_F_s_GetRow : F_s_GetRow = g_F_s_GetRow
  generalize hg_Q_s_GetRow : Q_s_GetRow = g_Q_s_GetRow
  generalize hg_F_w_eqIntResult : F_w_eqIntResult = g_F_w_eqIntResult
  generalize hg_Q_w_eqIntResult : Q_w_eqIntResult = g_Q_w_eqIntResult
  generalize hR0 : F_w_FnExactGetRow d root key = R0
  generalize Q_w_FnExactGetRow d root key = Q0
  generalize hL : Lg.std = L
  generalize hA : Alg.std = A
  cbv
  subst hL hA
  try dsimp only [Ty.den]
  obtain ⟨d_0, d_1, ⟨⟩⟩ := d
  subst hR0 hg_F_w_toByteS hg_Q_w_toByteS hg_F_w_eqByteS hg_Q_w_eqByteS hg_F_w_toDisk hg_Q_w_toDisk hg_F_w_eqDisk hg_Q_w_eqDisk hg_F_w_szDisk hg_Q_w_szDisk hg_F_i_GetRow hg_Q_i_GetRow hg_F_s_GetRow hg_Q_s_GetRow hg_F_w_eqIntResult hg_Q_w_eqIntResult
  simp only [Lg.std, Alg.std, List.drop_zero, List.take_length, F_w_toByteS, F_w_eqByteS, F_w_toDisk, F_w_eqDisk, F_w_szDisk, F_i_GetRow, F_s_GetRow, F_w_eqIntResult, Q_w_toByteS, Q_w_eqByteS, Q_w_toDisk, Q_w_eqDisk, Q_w_szDisk, Q_i_GetRow, Q_s_GetRow, Q_w_eqIntResult, F_w_FnExactGetRow, szf] at *
  try simp only [ne_eq, not_true_eq_false, decide_true, decide_false, Bool.not_true, Bool.not_false, Bool.false_eq_true, Bool.true_eq_false, false_implies, forall_const, implies_true, true_and, and_true, reduceCtorEq, false_implies, true_implies]
  have ht := tot_int .u8 key
  generalize tot (.pair (.sl (.sl (.int .u8))) (.pair (.sl (.pair (.int .i64) (.pair (.sl (.int .u8)) .unit))) .unit)) (d_0, d_1, PUnit.unit) = T at *
  repeat (first | intro _ | apply And.intro)
  repeat' (first | intro _ | apply And.intro)
  all_goals grind

def con_w_FnExactGetRow : Con := ⟨true, g3 (pD (.pair (.sl (.sl (.int .u8))) (.pair (.sl (.pair (.int .i64) (.pair (.sl (.int .u8)) .unit))) .unit))) (pD (.int .i64)) (pD (.sl (.int .u8))) fun d root key => .one ⟨[Q_w_FnExactGetRow d root key], [⟨.bool, .sh, F_w_FnExactGetRow d root key⟩], []⟩, [], false, 0⟩
theorem ok_w_FnExactGetRow : ConOk pg 4 con_w_FnExactGetRow := ConOk.g3 (Enters.of (by kernel_rfl)) ct_w_FnExactGetRow
end Go.Vee
