/-
  Contracts of functions of the program: what each returns for all arguments that its precondition lets in.
-/
import Derived.Test.YtjlojjkfdidkiaaVK22
set_option linter.unusedSimpArgs false
set_option linter.unusedVariables false
set_option maxRecDepth 100000
set_option maxHeartbeats 4000000
set_option synthInstance.maxHeartbeats 4000000
set_option synthInstance.maxSize 20000000
namespace Go.Vee
open Go
def treeAll (d : DiskT) (root : Int) : Int × WkT := if diskFault d ≠ 0 then (diskFault d, wk0) else treeP d root
theorem okW0 : okW wk0 := ⟨by simp [wk0], by simp [wk0], by simp [wk0], by simp [wk0]⟩
theorem treeP_0 (d : DiskT) : treeP d 0 = (0, wk0) := rfl
theorem treeP_n (d : DiskT) (r : Int) (h : r ≠ 0) : treeP d r = visP d 5 r 1 [] [] wk0 := if_neg h
theorem treeS_0 (d : DiskT) : treeS d 0 = (0, wk0) := rfl
theorem treeS_n (d : DiskT) (r : Int) (h : r ≠ 0) : treeS d r = visS d 5 r 1 [] [] wk0 := if_neg h
def treeSA (d : DiskT) (root : Int) : WkT × Int := if diskFault d ≠ 0 then (wk0, diskFault d) else if (treeS d root).1 ≠ 0 then (wk0, (treeS d root).1) else ((treeS d root).2, 0)
theorem treeSA_code (d : DiskT) (root : Int) : (treeSA d root).2 = (treeAll d root).1 := by
  have h := tree_rel d root
  unfold treeSA treeAll
  split
  · rfl
  · split
    · exact h.1
    · rename_i h1
      have := h.1
      simp only [Decidable.not_not] at h1
      dsimp only
      omega
theorem treeSA_rows (d : DiskT) (root : Int) (h : (treeAll d root).1 = 0) : (treeSA d root).1 = sortW (treeAll d root).2 := by
  have hr := tree_rel d root
  unfold treeAll at h ⊢
  unfold treeSA
  split
  · rename_i h1; rw [if_pos h1] at h; exact absurd h h1
  · rename_i h1
    rw [if_neg h1] at h
    rw [if_neg (by rw [hr.1]; exact fun hh => hh h)]
    exact hr.2.1
theorem treeAll_ok (d : DiskT) (root : Int) : okW (treeAll d root).2 := by
  unfold treeAll
  split
  · exact okW0
  · rename_i h
    exact treeP_ok d (diskFault_good d (by simpa using h)).w root
theorem rows_cnt (d : DiskT) (root : Int) : (treeAll d root).2.2.1.length ≤ 248 ∧ ∀ r ∈ (treeAll d root).2.2.1, r.1.length ≤ 16 := by
  have h := treeAll_ok d root
  exact ⟨(okW_len _ h).2, h.2.2.2⟩
def rowsIn (d : DiskT) (root : Int) : Int × List RowT × Unit := if (treeAll d root).1 ≠ 0 then ((treeAll d root).1, [], ()) else (0, (treeAll d root).2.2.1, ())
def getRow (d : DiskT) (root : Int) (key : List Int) : Int × Int × Unit :=
  if (treeAll d root).1 ≠ 0 then ((treeAll d root).1, 0, ()) else if key.length < 1 ∨ key.length > 16 then (2, 0, ())
  else if findG (fun x : RowT => decide (x.1 = key)) (treeAll d root).2.2.1 0 < 0 then (4, 0, ()) else (0, ((treeAll d root).2.2.1.getD (findG (fun x : RowT => decide (x.1 = key)) (treeAll d root).2.2.1 0).toNat ([], 0, ())).2.1, ())
def behind (l : List RowT) (a : List Int) (n : Int) : List RowT := (l.filter fun r => decide (ordB r.1 a > 0)).take n.toNat
def scanRows (d : DiskT) (root : Int) (a : List Int) (n : Int) : Int × List RowT × Unit :=
  if (treeAll d root).1 ≠ 0 then ((treeAll d root).1, [], ()) else if a.length > 16 then (2, [], ()) else if ¬ (0 ≤ n ∧ n ≤ 20) then (3, [], ()) else (0, behind (treeAll d root).2.2.1 a n, ())
theorem cpR_at (l : List RowT) (i : Nat) (h : i < l.length) : l.take (i + 1) = l.take i ++ [l.getD i ([], 0, ())] := by
  rw [List.take_add_one, List.getElem?_eq_getElem h, List.getD_eq_getElem?_getD, List.getElem?_eq_getElem h]; rfl
theorem cnt_rows : ∀ (l : List RowT), (∀ r ∈ l, r.1.length ≤ 16) → cnt false (.sl (.pair (.sl (.int .u8)) (.pair (.int .i64) .unit))) l ≤ 17 * l.length
  | [], _ => by simp [cnt, cntL]
  | r :: l, h => by
    have h0 : r.1.length ≤ 16 := h r (by simp)
    have ih := cnt_rows l (fun x hx => h x (by simp [hx]))
    have e : cnt false (.sl (.pair (.sl (.int .u8)) (.pair (.int .i64) .unit))) (r :: l) = cnt true (.pair (.sl (.int .u8)) (.pair (.int .i64) .unit)) r + cnt false (.sl (.pair (.sl (.int .u8)) (.pair (.int .i64) .unit))) l := rfl
    rw [e, cnt_p, cnt_p, cnt_i1, cnt_u, cnt_l, cnt_int, List.length_cons]
    omega

def F_i_walkTree (d : (List (List (Int))) × (List ((Int) × (List (Int)) × Unit)) × Unit) (root : Int) : ((List (List (Int))) × (List ((Int) × (List (Int)) × Unit)) × Unit) × (List (Int)) × (List ((List (Int)) × (Int) × Unit)) × (Int) × Unit := (d, (treeP d root).2)
def F_i_walkTree_1 (d : (List (List (Int))) × (List ((Int) × (List (Int)) × Unit)) × Unit) (root : Int) : Int := (treeP d root).1
def Q_i_walkTree (d : (List (List (Int))) × (List ((Int) × (List (Int)) × Unit)) × Unit) (root : Int) : Prop := GoodW d 64
def O_i_walkTree : Opt := ⟨fun i => false, fun i => [], fun i => .done, fun i => none, fun i => false, fun i => [], fun i => false, fun i => none, fun i => none⟩
def τ_i_walkTree : Env := Env.of [(2, (.int .i64)), (3, (.int .i64)), (4, .bool), (5, (.int .u8)), (30, (.pair (.sl (.sl (.int .u8))) (.pair (.sl (.pair (.int .i64) (.pair (.sl (.int .u8)) .unit))) .unit))), (34, (.sl (.int .u8))), (94, (.pair (.pair (.sl (.sl (.int .u8))) (.pair (.sl (.pair (.int .i64) (.pair (.sl (.int .u8)) .unit))) .unit)) (.pair (.sl (.int .i64)) (.pair (.sl (.pair (.sl (.int .u8)) (.pair (.int .i64) .unit))) (.pair (.int .i64) .unit)))))] [(83, (.pair (.pair (.sl (.sl (.int .u8))) (.pair (.sl (.pair (.int .i64) (.pair (.sl (.int .u8)) .unit))) .unit)) (.pair (.sl (.int .i64)) (.pair (.sl (.pair (.sl (.int .u8)) (.pair (.int .i64) .unit))) (.pair (.int .i64) .unit)))))] []

theorem ct_i_walkTree (d : (List (List (Int))) × (List ((Int) × (List (Int)) × Unit)) × Unit) (root : Int) : Ct pg 109 [.dat (.pair (.sl (.sl (.int .u8))) (.pair (.sl (.pair (.int .i64) (.pair (.sl (.int .u8)) .unit))) .unit)) d, .dat (.int .i64) root] ⟨[Q_i_walkTree d root], [⟨(.pair (.pair (.sl (.sl (.int .u8))) (.pair (.sl (.pair (.int .i64) (.pair (.sl (.int .u8)) .unit))) .unit)) (.pair (.sl (.int .i64)) (.pair (.sl (.pair (.sl (.int .u8)) (.pair (.int .i64) .unit))) (.pair (.int .i64) .unit)))), (.np (.pr .sh (.pr (.ow .sh) (.pr (.ow (.pr (.ow .sh) (.pr .sh .sh))) (.pr .sh .sh))))), F_i_walkTree d root⟩, ⟨(.int .i64), .sh, F_i_walkTree_1 d root⟩], []⟩ := by
  refine ct_claim (O := O_i_walkTree) (τ := τ_i_walkTree) (EnvOk.of (by kernel_rfl) (by kernel_rfl)) (GOk.of (.cons ok_i_treeWalk_visit .nil : AllOk pg [(130, con_i_treeWalk_visit)])) mixed (Enters.of (by kernel_rfl)) (fn := Go.Proofs.Try.f109) (by kernel_rfl) rfl (by kernel_rfl) ?_
  intro hp hw
  have hq : Q_i_walkTree d root := hp _ (List.mem_singleton.2 rfl)
  clear hp
  change claim Lg.std Alg.std τ_i_walkTree (Gam.of [(130, con_i_treeWalk_visit)]) O_i_walkTree Go.Proofs.Try.f109 [.dat (.pair (.sl (.sl (.int .u8))) (.pair (.sl (.pair (.int .i64) (.pair (.sl (.int .u8)) .unit))) .unit)) d, .dat (.int .i64) root] ⟨[Q_i_walkTree d root], [⟨(.pair (.pair (.sl (.sl (.int .u8))) (.pair (.sl (.pair (.int .i64) (.pair (.sl (.int .u8)) .unit))) .unit)) (.pair (.sl (.int .i64)) (.pair (.sl (.pair (.sl (.int .u8)) (.pair (.int .i64) .unit))) (.pair (.int .i64) .unit)))), (.np (.pr .sh (.pr (.ow .sh) (.pr (.ow (.pr (.ow .sh) (.pr .sh .sh))) (.pr .sh .sh))))), F_i_walkTree d root⟩, ⟨(.int .i64), .sh, F_i_walkTree_1 d root⟩], []⟩
  delta con_i_treeWalk_visit
  generalize hg_F_i_treeWalk_visit : F_i_treeWalk_visit = g_F_i_treeWalk_visit
  generalize hg_B_i_treeWalk_visit_w : B_i_treeWalk_visit_w = g_B_i_treeWalk_visit_w
  generalize hg_Q_i_treeWalk_visit : Q_i_treeWalk_visit = g_Q_i_treeWalk_visit
  generalize hR0 : F_i_walkTree d root = R0
  generalize hR1 : F_i_walkTree_1 d root = R1
  generalize Q_i_walkTree d root = Q0
  generalize hL : Lg.std = L
  generalize hA : Alg.std = A
  cbv
  subst hL hA
  try dsimp only [Ty.den]
  obtain ⟨d_0, d_1, ⟨⟩⟩ := d
  simp only [Q_i_walkTree] at hq
  have h0 := treeP_0 (d_0, d_1, PUnit.unit)
  have hn := treeP_n (d_0, d_1, PUnit.unit) root
  have h1 : (6 - (1 : Int)).toNat = 5 := rfl
  have h2 : okW ([], [], 0, PUnit.unit) := okW0
  have h3 : wk0 = ([], [], 0, PUnit.unit) := rfl
  subst hR0 hR1 hg_F_i_treeWalk_visit hg_B_i_treeWalk_visit_w hg_Q_i_treeWalk_visit
  simp only [Lg.std, Alg.std, List.drop_zero, List.take_length, F_i_treeWalk_visit, B_i_treeWalk_visit_w, Q_i_treeWalk_visit, F_i_walkTree, F_i_walkTree_1, Option.getD_none] at *
  generalize hG : GoodW (d_0, d_1, PUnit.unit) 64 = G at *
  repeat' (first | intro _ | apply And.intro)
  all_goals grind
def con_i_walkTree : Con := ⟨true, g2 (pD (.pair (.sl (.sl (.int .u8))) (.pair (.sl (.pair (.int .i64) (.pair (.sl (.int .u8)) .unit))) .unit))) (pD (.int .i64)) fun d root => .one ⟨[Q_i_walkTree d root], [⟨(.pair (.pair (.sl (.sl (.int .u8))) (.pair (.sl (.pair (.int .i64) (.pair (.sl (.int .u8)) .unit))) .unit)) (.pair (.sl (.int .i64)) (.pair (.sl (.pair (.sl (.int .u8)) (.pair (.int .i64) .unit))) (.pair (.int .i64) .unit)))), (.np (.pr .sh (.pr (.ow .sh) (.pr (.ow (.pr (.ow .sh) (.pr .sh .sh))) (.pr .sh .sh))))), F_i_walkTree d root⟩, ⟨(.int .i64), .sh, F_i_walkTree_1 d root⟩], []⟩, [], false, 0⟩
theorem ok_i_walkTree : ConOk pg 109 con_i_walkTree := ConOk.g2 (Enters.of (by kernel_rfl)) ct_i_walkTree

def F_i_treeOf (d : (List (List (Int))) × (List ((Int) × (List (Int)) × Unit)) × Unit) (root : Int) : ((List (List (Int))) × (List ((Int) × (List (Int)) × Unit)) × Unit) × (List (Int)) × (List ((List (Int)) × (Int) × Unit)) × (Int) × Unit := (if diskFault d ≠ 0 then ([], [], PUnit.unit) else d, (treeAll d root).2)
def F_i_treeOf_1 (d : (List (List (Int))) × (List ((Int) × (List (Int)) × Unit)) × Unit) (root : Int) : Int := (treeAll d root).1
def Q_i_treeOf (d : (List (List (Int))) × (List ((Int) × (List (Int)) × Unit)) × Unit) (root : Int) : Prop := True
def O_i_treeOf : Opt := ⟨fun i => false, fun i => [], fun i => .done, fun i => none, fun i => false, fun i => [], fun i => false, fun i => none, fun i => none⟩
def τ_i_treeOf : Env := Env.of [(2, (.int .i64)), (4, .bool), (5, (.int .u8)), (30, (.pair (.sl (.sl (.int .u8))) (.pair (.sl (.pair (.int .i64) (.pair (.sl (.int .u8)) .unit))) .unit))), (94, (.pair (.pair (.sl (.sl (.int .u8))) (.pair (.sl (.pair (.int .i64) (.pair (.sl (.int .u8)) .unit))) .unit)) (.pair (.sl (.int .i64)) (.pair (.sl (.pair (.sl (.int .u8)) (.pair (.int .i64) .unit))) (.pair (.int .i64) .unit)))))] [(83, (.pair (.pair (.sl (.sl (.int .u8))) (.pair (.sl (.pair (.int .i64) (.pair (.sl (.int .u8)) .unit))) .unit)) (.pair (.sl (.int .i64)) (.pair (.sl (.pair (.sl (.int .u8)) (.pair (.int .i64) .unit))) (.pair (.int .i64) .unit)))))] []

theorem ct_i_treeOf (d : (List (List (Int))) × (List ((Int) × (List (Int)) × Unit)) × Unit) (root : Int) : Ct pg 50 [.dat (.pair (.sl (.sl (.int .u8))) (.pair (.sl (.pair (.int .i64) (.pair (.sl (.int .u8)) .unit))) .unit)) d, .dat (.int .i64) root] ⟨[Q_i_treeOf d root], [⟨(.pair (.pair (.sl (.sl (.int .u8))) (.pair (.sl (.pair (.int .i64) (.pair (.sl (.int .u8)) .unit))) .unit)) (.pair (.sl (.int .i64)) (.pair (.sl (.pair (.sl (.int .u8)) (.pair (.int .i64) .unit))) (.pair (.int .i64) .unit)))), (.np (.pr .sh (.pr (.ow .sh) (.pr (.ow (.pr (.ow .sh) (.pr .sh .sh))) (.pr .sh .sh))))), F_i_treeOf d root⟩, ⟨(.int .i64), .sh, F_i_treeOf_1 d root⟩], []⟩ := by
  refine ct_claim (O := O_i_treeOf) (τ := τ_i_treeOf) (EnvOk.of (by kernel_rfl) (by kernel_rfl)) (GOk.of (.cons ok_i_DiskFault (.cons ok_i_walkTree .nil) : AllOk pg [(43, con_i_DiskFault), (109, con_i_walkTree)])) mixed (Enters.of (by kernel_rfl)) (fn := Go.Proofs.Try.f50) (by kernel_rfl) rfl (by kernel_rfl) ?_
  intro hp hw
  have hq : Q_i_treeOf d root := hp _ (List.mem_singleton.2 rfl)
  clear hp
  change claim Lg.std Alg.std τ_i_treeOf (Gam.of [(43, con_i_DiskFault), (109, con_i_walkTree)]) O_i_treeOf Go.Proofs.Try.f50 [.dat (.pair (.sl (.sl (.int .u8))) (.pair (.sl (.pair (.int .i64) (.pair (.sl (.int .u8)) .unit))) .unit)) d, .dat (.int .i64) root] ⟨[Q_i_treeOf d root], [⟨(.pair (.pair (.sl (.sl (.int .u8))) (.pair (.sl (.pair (.int .i64) (.pair (.sl (.int .u8)) .unit))) .unit)) (.pair (.sl (.int .i64)) (.pair (.sl (.pair (.sl (.int .u8)) (.pair (.int .i64) .unit))) (.pair (.int .i64) .unit)))), (.np (.pr .sh (.pr (.ow .sh) (.pr (.ow (.pr (.ow .sh) (.pr .sh .sh))) (.pr .sh .sh))))), F_i_treeOf d root⟩, ⟨(.int .i64), .sh, F_i_treeOf_1 d root⟩], []⟩
  delta con_i_DiskFault con_i_walkTree
  generalize hg_F_i_DiskFault : F_i_DiskFault = g_F_i_DiskFault
  generalize hg_Q_i_DiskFault : Q_i_DiskFault = g_Q_i_DiskFault
  generalize hg_F_i_walkTree : F_i_walkTree = g_F_i_walkTree
  generalize hg_F_i_walkTree_1 : F_i_walkTree_1 = g_F_i_walkTree_1
  generalize hg_Q_i_walkTree : Q_i_walkTree = g_Q_i_walkTree
  generalize hR0 : F_i_treeOf d root = R0
  generalize hR1 : F_i_treeOf_1 d root = R1
  generalize Q_i_treeOf d root = Q0
  generalize hL : Lg.std = L
  generalize hA : Alg.std = A
  cbv
  subst hL hA
  try dsimp only [Ty.den]
  obtain ⟨d_0, d_1, ⟨⟩⟩ := d
  have hg := fun h => (diskFault_good (d_0, d_1, PUnit.unit) h).w
  have h0 : treeAll (d_0, d_1, PUnit.unit) root = if diskFault (d_0, d_1, PUnit.unit) ≠ 0 then (diskFault (d_0, d_1, PUnit.unit), wk0) else treeP (d_0, d_1, PUnit.unit) root := rfl
  have h3 : wk0 = ([], [], 0, PUnit.unit) := rfl
  subst hR0 hR1 hg_F_i_DiskFault hg_Q_i_DiskFault hg_F_i_walkTree hg_F_i_walkTree_1 hg_Q_i_walkTree
  simp only [Lg.std, Alg.std, List.drop_zero, List.take_length, F_i_DiskFault, F_i_walkTree, F_i_walkTree_1, Q_i_DiskFault, Q_i_walkTree, F_i_treeOf, F_i_treeOf_1] at *
  generalize hG : GoodW (d_0, d_1, PUnit.unit) 64 = G at *
  repeat' (first | intro _ | apply And.intro)
  all_goals grind
def con_i_treeOf : Con := ⟨true, g2 (pD (.pair (.sl (.sl (.int .u8))) (.pair (.sl (.pair (.int .i64) (.pair (.sl (.int .u8)) .unit))) .unit))) (pD (.int .i64)) fun d root => .one ⟨[Q_i_treeOf d root], [⟨(.pair (.pair (.sl (.sl (.int .u8))) (.pair (.sl (.pair (.int .i64) (.pair (.sl (.int .u8)) .unit))) .unit)) (.pair (.sl (.int .i64)) (.pair (.sl (.pair (.sl (.int .u8)) (.pair (.int .i64) .unit))) (.pair (.int .i64) .unit)))), (.np (.pr .sh (.pr (.ow .sh) (.pr (.ow (.pr (.ow .sh) (.pr .sh .sh))) (.pr .sh .sh))))), F_i_treeOf d root⟩, ⟨(.int .i64), .sh, F_i_treeOf_1 d root⟩], []⟩, [], false, 0⟩
theorem ok_i_treeOf : ConOk pg 50 con_i_treeOf := ConOk.g2 (Enters.of (by kernel_rfl)) ct_i_treeOf

def F_s_l17Tree (d : (List (List (Int))) × (List ((Int) × (List (Int)) × Unit)) × Unit) (root : Int) : (List (Int)) × (List ((List (Int)) × (Int) × Unit)) × (Int) × Unit := if (treeS d root).1 ≠ 0 then wk0 else (treeS d root).2
def F_s_l17Tree_1 (d : (List (List (Int))) × (List ((Int) × (List (Int)) × Unit)) × Unit) (root : Int) : Int := (treeS d root).1
def Q_s_l17Tree (d : (List (List (Int))) × (List ((Int) × (List (Int)) × Unit)) × Unit) (root : Int) : Prop := GoodW d 64
def O_s_l17Tree : Opt := ⟨fun i => false, fun i => [], fun i => .done, fun i => none, fun i => false, fun i => [], fun i => false, fun i => none, fun i => none⟩
def τ_s_l17Tree : Env := Env.of [(2, (.int .i64)), (4, .bool), (5, (.int .u8)), (34, (.sl (.int .u8))), (77, (.pair (.sl (.int .i64)) (.pair (.sl (.pair (.sl (.int .u8)) (.pair (.int .i64) .unit))) (.pair (.int .i64) .unit))))] [(80, (.pair (.sl (.sl (.int .u8))) (.pair (.sl (.pair (.int .i64) (.pair (.sl (.int .u8)) .unit))) .unit))), (138, (.pair (.sl (.int .i64)) (.pair (.sl (.pair (.sl (.int .u8)) (.pair (.int .i64) .unit))) (.pair (.int .i64) .unit))))] []

theorem ct_s_l17Tree (d : (List (List (Int))) × (List ((Int) × (List (Int)) × Unit)) × Unit) (root : Int) : Ct pg 47 [.dptr (.pair (.sl (.sl (.int .u8))) (.pair (.sl (.pair (.int .i64) (.pair (.sl (.int .u8)) .unit))) .unit)) d, .dat (.int .i64) root] ⟨[Q_s_l17Tree d root], [⟨(.pair (.sl (.int .i64)) (.pair (.sl (.pair (.sl (.int .u8)) (.pair (.int .i64) .unit))) (.pair (.int .i64) .unit))), (.pr (.ow .sh) (.pr (.ow (.pr (.ow .sh) (.pr .sh .sh))) (.pr .sh .sh))), F_s_l17Tree d root⟩, ⟨(.int .i64), .sh, F_s_l17Tree_1 d root⟩], []⟩ := by
  refine ct_claim (O := O_s_l17Tree) (τ := τ_s_l17Tree) (EnvOk.of (by kernel_rfl) (by kernel_rfl)) (GOk.of (.cons ok_s_l17Node .nil : AllOk pg [(107, con_s_l17Node)])) mixed (Enters.of (by kernel_rfl)) (fn := Go.Proofs.Try.f47) (by kernel_rfl) rfl (by kernel_rfl) ?_
  intro hp hw
  have hq : Q_s_l17Tree d root := hp _ (List.mem_singleton.2 rfl)
  clear hp
  change claim Lg.std Alg.std τ_s_l17Tree (Gam.of [(107, con_s_l17Node)]) O_s_l17Tree Go.Proofs.Try.f47 [.dptr (.pair (.sl (.sl (.int .u8))) (.pair (.sl (.pair (.int .i64) (.pair (.sl (.int .u8)) .unit))) .unit)) d, .dat (.int .i64) root] ⟨[Q_s_l17Tree d root], [⟨(.pair (.sl (.int .i64)) (.pair (.sl (.pair (.sl (.int .u8)) (.pair (.int .i64) .unit))) (.pair (.int .i64) .unit))), (.pr (.ow .sh) (.pr (.ow (.pr (.ow .sh) (.pr .sh .sh))) (.pr .sh .sh))), F_s_l17Tree d root⟩, ⟨(.int .i64), .sh, F_s_l17Tree_1 d root⟩], []⟩
  delta con_s_l17Node
  generalize hg_F_s_l17Node : F_s_l17Node = g_F_s_l17Node
  generalize hg_B_s_l17Node_w : B_s_l17Node_w = g_B_s_l17Node_w
  generalize hg_Q_s_l17Node : Q_s_l17Node = g_Q_s_l17Node
  generalize hR0 : F_s_l17Tree d root = R0
  generalize hR1 : F_s_l17Tree_1 d root = R1
  generalize Q_s_l17Tree d root = Q0
  generalize hL : Lg.std = L
  generalize hA : Alg.std = A
  cbv
  subst hL hA
  try dsimp only [Ty.den]
  obtain ⟨d_0, d_1, ⟨⟩⟩ := d
  simp only [Q_s_l17Tree] at hq
  have h0 := treeS_0 (d_0, d_1, PUnit.unit)
  have hn := treeS_n (d_0, d_1, PUnit.unit) root
  have h1 : (6 - (1 : Int)).toNat = 5 := rfl
  have h2 : okW ([], [], 0, PUnit.unit) := okW0
  have h3 : wk0 = ([], [], 0, PUnit.unit) := rfl
  subst hR0 hR1 hg_F_s_l17Node hg_B_s_l17Node_w hg_Q_s_l17Node
  simp only [Lg.std, Alg.std, List.drop_zero, List.take_length, F_s_l17Node, B_s_l17Node_w, Q_s_l17Node, F_s_l17Tree, F_s_l17Tree_1] at *
  generalize hG : GoodW (d_0, d_1, PUnit.unit) 64 = G at *
  repeat' (first | intro _ | apply And.intro)
  all_goals grind
def con_s_l17Tree : Con := ⟨true, g2 (pP (.pair (.sl (.sl (.int .u8))) (.pair (.sl (.pair (.int .i64) (.pair (.sl (.int .u8)) .unit))) .unit))) (pD (.int .i64)) fun d root => .one ⟨[Q_s_l17Tree d root], [⟨(.pair (.sl (.int .i64)) (.pair (.sl (.pair (.sl (.int .u8)) (.pair (.int .i64) .unit))) (.pair (.int .i64) .unit))), (.pr (.ow .sh) (.pr (.ow (.pr (.ow .sh) (.pr .sh .sh))) (.pr .sh .sh))), F_s_l17Tree d root⟩, ⟨(.int .i64), .sh, F_s_l17Tree_1 d root⟩], []⟩, [], false, 0⟩
theorem ok_s_l17Tree : ConOk pg 47 con_s_l17Tree := ConOk.g2 (Enters.of (by kernel_rfl)) ct_s_l17Tree

def F_s_l17All (d : (List (List (Int))) × (List ((Int) × (List (Int)) × Unit)) × Unit) (root : Int) : (List (Int)) × (List ((List (Int)) × (Int) × Unit)) × (Int) × Unit := (treeSA d root).1
def F_s_l17All_1 (d : (List (List (Int))) × (List ((Int) × (List (Int)) × Unit)) × Unit) (root : Int) : Int := (treeSA d root).2
def Q_s_l17All (d : (List (List (Int))) × (List ((Int) × (List (Int)) × Unit)) × Unit) (root : Int) : Prop := True
def O_s_l17All : Opt := ⟨fun i => false, fun i => [], fun i => .done, fun i => none, fun i => false, fun i => [], fun i => false, fun i => none, fun i => none⟩
def τ_s_l17All : Env := Env.of [(2, (.int .i64)), (4, .bool), (5, (.int .u8)), (30, (.pair (.sl (.sl (.int .u8))) (.pair (.sl (.pair (.int .i64) (.pair (.sl (.int .u8)) .unit))) .unit))), (77, (.pair (.sl (.int .i64)) (.pair (.sl (.pair (.sl (.int .u8)) (.pair (.int .i64) .unit))) (.pair (.int .i64) .unit))))] [(80, (.pair (.sl (.sl (.int .u8))) (.pair (.sl (.pair (.int .i64) (.pair (.sl (.int .u8)) .unit))) .unit)))] []

theorem ct_s_l17All (d : (List (List (Int))) × (List ((Int) × (List (Int)) × Unit)) × Unit) (root : Int) : Ct pg 53 [.dptr (.pair (.sl (.sl (.int .u8))) (.pair (.sl (.pair (.int .i64) (.pair (.sl (.int .u8)) .unit))) .unit)) d, .dat (.int .i64) root] ⟨[Q_s_l17All d root], [⟨(.pair (.sl (.int .i64)) (.pair (.sl (.pair (.sl (.int .u8)) (.pair (.int .i64) .unit))) (.pair (.int .i64) .unit))), (.pr (.ow .sh) (.pr (.ow (.pr (.ow .sh) (.pr .sh .sh))) (.pr .sh .sh))), F_s_l17All d root⟩, ⟨(.int .i64), .sh, F_s_l17All_1 d root⟩], []⟩ := by
  refine ct_claim (O := O_s_l17All) (τ := τ_s_l17All) (EnvOk.of (by kernel_rfl) (by kernel_rfl)) (GOk.of (.cons ok_s_DiskFault (.cons ok_s_l17Tree .nil) : AllOk pg [(46, con_s_DiskFault), (47, con_s_l17Tree)])) mixed (Enters.of (by kernel_rfl)) (fn := Go.Proofs.Try.f53) (by kernel_rfl) rfl (by kernel_rfl) ?_
  intro hp hw
  have hq : Q_s_l17All d root := hp _ (List.mem_singleton.2 rfl)
  clear hp
  change claim Lg.std Alg.std τ_s_l17All (Gam.of [(46, con_s_DiskFault), (47, con_s_l17Tree)]) O_s_l17All Go.Proofs.Try.f53 [.dptr (.pair (.sl (.sl (.int .u8))) (.pair (.sl (.pair (.int .i64) (.pair (.sl (.int .u8)) .unit))) .unit)) d, .dat (.int .i64) root] ⟨[Q_s_l17All d root], [⟨(.pair (.sl (.int .i64)) (.pair (.sl (.pair (.sl (.int .u8)) (.pair (.int .i64) .unit))) (.pair (.int .i64) .unit))), (.pr (.ow .sh) (.pr (.ow (.pr (.ow .sh) (.pr .sh .sh))) (.pr .sh .sh))), F_s_l17All d root⟩, ⟨(.int .i64), .sh, F_s_l17All_1 d root⟩], []⟩
  delta con_s_DiskFault con_s_l17Tree
  generalize hg_F_s_DiskFault : F_s_DiskFault = g_F_s_DiskFault
  generalize hg_Q_s_DiskFault : Q_s_DiskFault = g_Q_s_DiskFault
  generalize hg_F_s_l17Tree : F_s_l17Tree = g_F_s_l17Tree
  generalize hg_F_s_l17Tree_1 : F_s_l17Tree_1 = g_F_s_l17Tree_1
  generalize hg_Q_s_l17Tree : Q_s_l17Tree = g_Q_s_l17Tree
  generalize hR0 : F_s_l17All d root = R0
  generalize hR1 : F_s_l17All_1 d root = R1
  generalize Q_s_l17All d root = Q0
  generalize hL : Lg.std = L
  generalize hA : Alg.std = A
  cbv
  subst hL hA
  try dsimp only [Ty.den]
  obtain ⟨d_0, d_1, ⟨⟩⟩ := d
  have hg := fun h => (diskFault_good (d_0, d_1, PUnit.unit) h).w
  have h0 : treeSA (d_0, d_1, PUnit.unit) root = if diskFault (d_0, d_1, PUnit.unit) ≠ 0 then (wk0, diskFault (d_0, d_1, PUnit.unit)) else if (treeS (d_0, d_1, PUnit.unit) root).1 ≠ 0 then (wk0, (treeS (d_0, d_1, PUnit.unit) root).1) else ((treeS (d_0, d_1, PUnit.unit) root).2, 0) := rfl
  have h3 : wk0 = ([], [], 0, PUnit.unit) := rfl
  subst hR0 hR1 hg_F_s_DiskFault hg_Q_s_DiskFault hg_F_s_l17Tree hg_F_s_l17Tree_1 hg_Q_s_l17Tree
  simp only [Lg.std, Alg.std, List.drop_zero, List.take_length, F_s_DiskFault, F_s_l17Tree, F_s_l17Tree_1, Q_s_DiskFault, Q_s_l17Tree, F_s_l17All, F_s_l17All_1] at *
  generalize hG : GoodW (d_0, d_1, PUnit.unit) 64 = G at *
  repeat' (first | intro _ | apply And.intro)
  all_goals grind
def con_s_l17All : Con := ⟨true, g2 (pP (.pair (.sl (.sl (.int .u8))) (.pair (.sl (.pair (.int .i64) (.pair (.sl (.int .u8)) .unit))) .unit))) (pD (.int .i64)) fun d root => .one ⟨[Q_s_l17All d root], [⟨(.pair (.sl (.int .i64)) (.pair (.sl (.pair (.sl (.int .u8)) (.pair (.int .i64) .unit))) (.pair (.int .i64) .unit))), (.pr (.ow .sh) (.pr (.ow (.pr (.ow .sh) (.pr .sh .sh))) (.pr .sh .sh))), F_s_l17All d root⟩, ⟨(.int .i64), .sh, F_s_l17All_1 d root⟩], []⟩, [], false, 0⟩
theorem ok_s_l17All : ConOk pg 53 con_s_l17All := ConOk.g2 (Enters.of (by kernel_rfl)) ct_s_l17All

def F_w_markRowS (a : List ((List (Int)) × (Int) × Unit)) (k : Int) : Int := k + cnt false (.sl (.pair (.sl (.int .u8)) (.pair (.int .i64) .unit))) a
def B_w_markRowS_a (a : List ((List (Int)) × (Int) × Unit)) (k : Int) : List ((List (Int)) × (Int) × Unit) := mk false (.sl (.pair (.sl (.int .u8)) (.pair (.int .i64) .unit))) a k
def Q_w_markRowS (a : List ((List (Int)) × (Int) × Unit)) (k : Int) : Prop := 0 ≤ k ∧ k + cnt false (.sl (.pair (.sl (.int .u8)) (.pair (.int .i64) .unit))) a ≤ 4611686018427387904
def O_w_markRowS : Opt := ⟨fun i => false, fun i => (match decide (i = 2) with | true => [true, true, false, false, false, true, false, false, false, false, false, false, false, false, false, false, false, false, false, false, false, false, false, false, false, false, false] | false => []), fun i => .done, fun i => none, fun i => false, fun i => [], fun i => false, fun i => none, fun i => none⟩
def τ_w_markRowS : Env := Env.of [(2, (.int .i64)), (3, (.int .i64)), (4, .bool), (34, (.sl (.int .u8))), (42, (.sl (.pair (.sl (.int .u8)) (.pair (.int .i64) .unit)))), (90, (.pair (.sl (.int .u8)) (.pair (.int .i64) .unit)))] [] []

theorem ct_w_markRowS (a : List ((List (Int)) × (Int) × Unit)) (k : Int) : Ct pg 63 [.mv (.sl (.pair (.sl (.int .u8)) (.pair (.int .i64) .unit))) (.ow (.pr (.ow .sh) (.pr .sh .sh))) a, .dat (.int .i64) k] ⟨[Q_w_markRowS a k], [⟨(.int .i64), .sh, F_w_markRowS a k⟩], [.mv (.sl (.pair (.sl (.int .u8)) (.pair (.int .i64) .unit))) (.ow (.pr (.ow .sh) (.pr .sh .sh))) (B_w_markRowS_a a k)]⟩ := by
  refine ct_claim (O := O_w_markRowS) (τ := τ_w_markRowS) (EnvOk.of (by kernel_rfl) (by kernel_rfl)) (GOk.of (.cons ok_w_markByteS .nil : AllOk pg [(27, con_w_markByteS)])) mixed (Enters.of (by kernel_rfl)) (fn := Go.Proofs.Try.f63) (by kernel_rfl) rfl (by kernel_rfl) ?_
  intro hp hw
  have hq : Q_w_markRowS a k := hp _ (List.mem_singleton.2 rfl)
  clear hp
  change claim Lg.std Alg.std τ_w_markRowS (Gam.of [(27, con_w_markByteS)]) O_w_markRowS Go.Proofs.Try.f63 [.mv (.sl (.pair (.sl (.int .u8)) (.pair (.int .i64) .unit))) (.ow (.pr (.ow .sh) (.pr .sh .sh))) a, .dat (.int .i64) k] ⟨[Q_w_markRowS a k], [⟨(.int .i64), .sh, F_w_markRowS a k⟩], [.mv (.sl (.pair (.sl (.int .u8)) (.pair (.int .i64) .unit))) (.ow (.pr (.ow .sh) (.pr .sh .sh))) (B_w_markRowS_a a k)]⟩
  delta con_w_markByteS
  generalize hg_F_w_markByteS : F_w_markByteS = g_F_w_markByteS
  generalize hg_B_w_markByteS_a : B_w_markByteS_a = g_B_w_markByteS_a
  generalize hg_Q_w_markByteS : Q_w_markByteS = g_Q_w_markByteS
  generalize hR0 : F_w_markRowS a k = R0
  generalize hB_a : B_w_markRowS_a a k = B_a
  generalize Q_w_markRowS a k = Q0
  generalize hL : Lg.std = L
  generalize hA : Alg.std = A
  cbv
  subst hL hA
  try dsimp only [Ty.den]
  simp only [Q_w_markRowS] at hq
  refine lp_v (V := (Int) × (Int) × (Nat) × (List ((List (Int)) × (Int) × Unit))) (fun ((i, j, N, xs) : (Int) × (Int) × (Nat) × (List ((List (Int)) × (Int) × Unit))) => ⟨[.ref (.pair (.sl (.int .u8)) (.pair (.int .i64) .unit)) 0 0 [] 0 N, .dat (.int .i64) j, Jk, Jk, Jk, .dat (.int .i64) i, Jk, Jk, Jk, Jk, Jk, Jk, Jk, Jk, Jk, Jk, Jk, Jk, Jk, Jk, Jk, Jk, Jk, Jk, Jk, Jk, Jk], [some (.row 0 (.pair (.sl (.int .u8)) (.pair (.int .i64) .unit)) (.pr (.ow .sh) (.pr .sh .sh)) xs), some (.gh [.ref (.pair (.sl (.int .u8)) (.pair (.int .i64) .unit)) 0 0 [] 0 N])]⟩) (fun ((i, j, N, xs) : (Int) × (Int) × (Nat) × (List ((List (Int)) × (Int) × Unit))) => N = a.length ∧ 0 ≤ i ∧ i ≤ a.length ∧ j = k + cnt false (.sl (.pair (.sl (.int .u8)) (.pair (.int .i64) .unit))) (a.take i.toNat : List ((List (Int)) × (Int) × Unit)) ∧ xs = (mk false (.sl (.pair (.sl (.int .u8)) (.pair (.int .i64) .unit))) a k : List ((List (Int)) × (Int) × Unit)).take i.toNat ++ a.drop i.toNat) (fun ((i, j, N, xs) : (Int) × (Int) × (Nat) × (List ((List (Int)) × (Int) × Unit))) => a.length - i.toNat) (0, k, _, _) rfl ?_ ?_
  · simp [Alg.std, cnt, cntL]
  rintro ⟨i, j, N, xs⟩ hf I hI
  replace hf : N = a.length ∧ 0 ≤ i ∧ i ≤ a.length ∧ j = k + cnt false (.sl (.pair (.sl (.int .u8)) (.pair (.int .i64) .unit))) (a.take i.toNat : List ((List (Int)) × (Int) × Unit)) ∧ xs = (mk false (.sl (.pair (.sl (.int .u8)) (.pair (.int .i64) .unit))) a k : List ((List (Int)) × (Int) × Unit)).take i.toNat ++ a.drop i.toNat := hf
  generalize hL : Lg.std = L
  generalize hA : Alg.std = A
  cbv
  subst hL hA
  try dsimp only [Ty.den]
  subst hI
  simp only [Lg.std, Alg.std, List.drop_zero, List.take_length]
  obtain ⟨h1, h2, h3, h4, h5⟩ := hf
  have hl := hw.1.1
  have hk := fun (h : i.toNat < a.length) => mk_stepT (.pair (.sl (.int .u8)) (.pair (.int .i64) .unit)) a (([], 0, PUnit.unit) : (List (Int)) × (Int) × Unit) k i.toNat h
  have hm := fun (h : i.toNat < a.length) => mk_mid (.pair (.sl (.int .u8)) (.pair (.int .i64) .unit)) a (([], 0, PUnit.unit) : (List (Int)) × (Int) × Unit) k i.toNat h
  have hml := fun (h : i.toNat ≤ a.length) => mk_midlen (.pair (.sl (.int .u8)) (.pair (.int .i64) .unit)) a k i.toNat h
  have hct := fun (h : i.toNat < a.length) => cnt_take (.pair (.sl (.int .u8)) (.pair (.int .i64) .unit)) a (([], 0, PUnit.unit) : (List (Int)) × (Int) × Unit) i.toNat h
  have hcl := cnt_le (.pair (.sl (.int .u8)) (.pair (.int .i64) .unit)) a (i.toNat + 1)
  have hcl0 := cnt_le (.pair (.sl (.int .u8)) (.pair (.int .i64) .unit)) a i.toNat
  have hta := fun (h : a.length ≤ i.toNat) => List.take_of_length_le h
  have htm := fun (h : a.length ≤ i.toNat) => List.take_of_length_le (l := (mk false (.sl (.pair (.sl (.int .u8)) (.pair (.int .i64) .unit))) a k : List ((List (Int)) × (Int) × Unit))) (Nat.le_trans (Nat.le_of_eq (mk_len false (.pair (.sl (.int .u8)) (.pair (.int .i64) .unit)) a k)) h)
  have hdc := fun (h : i.toNat < a.length) => drop_cons a (([], 0, PUnit.unit) : (List (Int)) × (Int) × Unit) i.toNat h
  have he := fun (h : a.length ≤ i.toNat) => drop_nil a i.toNat h
  repeat' (first | intro _ | apply And.intro)
  all_goals (try refine ⟨(_, _, _, _), rfl, ?_, ?_⟩)
  all_goals subst hR0 hB_a hg_F_w_markByteS hg_B_w_markByteS_a hg_Q_w_markByteS
  all_goals (try simp only [F_w_markByteS, B_w_markByteS_a, Q_w_markByteS, F_w_markRowS, B_w_markRowS_a] at *)
  all_goals (try simp only [szf, tot_p, tot_u, tot_i, tot_b, tot_s, cnt_p, cnt_u, cnt_i0, cnt_b0, cnt_s0, cnt_i1, cnt_b1, cnt_s1, cnt_l, mk_p, mk_u, mk_i0, mk_b0, mk_s0, mk_i1, mk_s1, mk_l, hd_p, hd_u, hd_i0, hd_b0, hd_s0, hd_i1, hd_b1, hd_s1, hd_l] at *)
  all_goals grind [getD_set_self, List.set_set, i64_wrap]
def con_w_markRowS : Con := ⟨true, g2 (pV (.sl (.pair (.sl (.int .u8)) (.pair (.int .i64) .unit))) (.ow (.pr (.ow .sh) (.pr .sh .sh)))) (pD (.int .i64)) fun a k => .one ⟨[Q_w_markRowS a k], [⟨(.int .i64), .sh, F_w_markRowS a k⟩], [.mv (.sl (.pair (.sl (.int .u8)) (.pair (.int .i64) .unit))) (.ow (.pr (.ow .sh) (.pr .sh .sh))) (B_w_markRowS_a a k)]⟩, [(.ow (.pr (.ow .sh) (.pr .sh .sh)))], false, 0⟩
theorem ok_w_markRowS : ConOk pg 63 con_w_markRowS := ConOk.g2 (Enters.of (by kernel_rfl)) ct_w_markRowS

def F_w_heldRowS (a : List ((List (Int)) × (Int) × Unit)) (k : Int) : Int := hd false (.sl (.pair (.sl (.int .u8)) (.pair (.int .i64) .unit))) a k
def Q_w_heldRowS (a : List ((List (Int)) × (Int) × Unit)) (k : Int) : Prop := 0 ≤ k ∧ k + cnt false (.sl (.pair (.sl (.int .u8)) (.pair (.int .i64) .unit))) a ≤ 4611686018427387904
def O_w_heldRowS : Opt := ⟨fun i => false, fun i => (match decide (i = 2) with | true => [true, true, false, false, false, true, false, false, false, false, false, false, false, false, false, false, false, false, false, false, false, false, false, false, false, false, false, false, false, false, false] | false => []), fun i => .done, fun i => none, fun i => false, fun i => [], fun i => false, fun i => none, fun i => none⟩
def τ_w_heldRowS : Env := Env.of [(2, (.int .i64)), (3, (.int .i64)), (4, .bool), (34, (.sl (.int .u8))), (42, (.sl (.pair (.sl (.int .u8)) (.pair (.int .i64) .unit)))), (90, (.pair (.sl (.int .u8)) (.pair (.int .i64) .unit)))] [] []

theorem ct_w_heldRowS (a : List ((List (Int)) × (Int) × Unit)) (k : Int) : Ct pg 64 [.dat (.sl (.pair (.sl (.int .u8)) (.pair (.int .i64) .unit))) a, .dat (.int .i64) k] ⟨[Q_w_heldRowS a k], [⟨(.int .i64), .sh, F_w_heldRowS a k⟩], []⟩ := by
  refine ct_claim (O := O_w_heldRowS) (τ := τ_w_heldRowS) (EnvOk.of (by kernel_rfl) (by kernel_rfl)) (GOk.of (.cons ok_w_heldByteS .nil : AllOk pg [(115, con_w_heldByteS)])) mixed (Enters.of (by kernel_rfl)) (fn := Go.Proofs.Try.f64) (by kernel_rfl) rfl (by kernel_rfl) ?_
  intro hp hw
  have hq : Q_w_heldRowS a k := hp _ (List.mem_singleton.2 rfl)
  clear hp
  change claim Lg.std Alg.std τ_w_heldRowS (Gam.of [(115, con_w_heldByteS)]) O_w_heldRowS Go.Proofs.Try.f64 [.dat (.sl (.pair (.sl (.int .u8)) (.pair (.int .i64) .unit))) a, .dat (.int .i64) k] ⟨[Q_w_heldRowS a k], [⟨(.int .i64), .sh, F_w_heldRowS a k⟩], []⟩
  delta con_w_heldByteS
  generalize hg_F_w_heldByteS : F_w_heldByteS = g_F_w_heldByteS
  generalize hg_Q_w_heldByteS : Q_w_heldByteS = g_Q_w_heldByteS
  generalize hR0 : F_w_heldRowS a k = R0
  generalize Q_w_heldRowS a k = Q0
  generalize hL : Lg.std = L
  generalize hA : Alg.std = A
  cbv
  subst hL hA
  try dsimp only [Ty.den]
  simp only [Q_w_heldRowS] at hq
  refine lp_v (V := (Int) × (Int)) (fun ((i, j) : (Int) × (Int)) => ⟨[.dat (.sl (.pair (.sl (.int .u8)) (.pair (.int .i64) .unit))) a, .dat (.int .i64) j, Jk, Jk, Jk, .dat (.int .i64) i, Jk, Jk, Jk, Jk, Jk, Jk, Jk, Jk, Jk, Jk, Jk, Jk, Jk, Jk, Jk, Jk, Jk, Jk, Jk, Jk, Jk, Jk, Jk, Jk, Jk], []⟩) (fun ((i, j) : (Int) × (Int)) => 0 ≤ i ∧ i ≤ a.length ∧ 0 ≤ j ∧ j + cnt false (.sl (.pair (.sl (.int .u8)) (.pair (.int .i64) .unit))) (a.drop i.toNat : List ((List (Int)) × (Int) × Unit)) ≤ 4611686018427387904 ∧ hd false (.sl (.pair (.sl (.int .u8)) (.pair (.int .i64) .unit))) a k = hd false (.sl (.pair (.sl (.int .u8)) (.pair (.int .i64) .unit))) (a.drop i.toNat : List ((List (Int)) × (Int) × Unit)) j) (fun ((i, j) : (Int) × (Int)) => a.length - i.toNat) (0, k) rfl ?_ ?_
  · simp; omega
  rintro ⟨i, j⟩ hf I hI
  replace hf : 0 ≤ i ∧ i ≤ a.length ∧ 0 ≤ j ∧ j + cnt false (.sl (.pair (.sl (.int .u8)) (.pair (.int .i64) .unit))) (a.drop i.toNat : List ((List (Int)) × (Int) × Unit)) ≤ 4611686018427387904 ∧ hd false (.sl (.pair (.sl (.int .u8)) (.pair (.int .i64) .unit))) a k = hd false (.sl (.pair (.sl (.int .u8)) (.pair (.int .i64) .unit))) (a.drop i.toNat : List ((List (Int)) × (Int) × Unit)) j := hf
  generalize hL : Lg.std = L
  generalize hA : Alg.std = A
  cbv
  subst hL hA
  try dsimp only [Ty.den]
  subst hI
  simp only [Lg.std, Alg.std, List.drop_zero, List.take_length]
  obtain ⟨h1, h2, h3, h4, h5⟩ := hf
  have hl := hw.1.1
  have hs := fun (h : i.toNat < a.length) => hd_drop (.pair (.sl (.int .u8)) (.pair (.int .i64) .unit)) a (([], 0, PUnit.unit) : (List (Int)) × (Int) × Unit) i.toNat j h
  have hcs := fun (h : i.toNat < a.length) => cnt_split (.pair (.sl (.int .u8)) (.pair (.int .i64) .unit)) a (([], 0, PUnit.unit) : (List (Int)) × (Int) × Unit) i.toNat h
  have ho := hd_or true (.pair (.sl (.int .u8)) (.pair (.int .i64) .unit)) (a.getD i.toNat (([], 0, PUnit.unit) : (List (Int)) × (Int) × Unit)) j (by omega)
  have hn := hd_nil (.pair (.sl (.int .u8)) (.pair (.int .i64) .unit)) j
  have hof := hd_or false (.sl (.int .u8)) (a.getD i.toNat (([], 0, PUnit.unit) : (List (Int)) × (Int) × Unit)).1 j (by omega)
  have hdc := fun (h : i.toNat < a.length) => drop_cons a (([], 0, PUnit.unit) : (List (Int)) × (Int) × Unit) i.toNat h
  have he := fun (h : a.length ≤ i.toNat) => drop_nil a i.toNat h
  repeat' (first | intro _ | apply And.intro)
  all_goals (try refine ⟨(_, _), rfl, ?_, ?_⟩)
  all_goals subst hR0 hg_F_w_heldByteS hg_Q_w_heldByteS
  all_goals (try simp only [F_w_heldByteS, Q_w_heldByteS, F_w_heldRowS] at *)
  all_goals (try simp only [szf, tot_p, tot_u, tot_i, tot_b, tot_s, cnt_p, cnt_u, cnt_i0, cnt_b0, cnt_s0, cnt_i1, cnt_b1, cnt_s1, cnt_l, mk_p, mk_u, mk_i0, mk_b0, mk_s0, mk_i1, mk_s1, mk_l, hd_p, hd_u, hd_i0, hd_b0, hd_s0, hd_i1, hd_b1, hd_s1, hd_l] at *)
  all_goals grind [i64_wrap]
def con_w_heldRowS : Con := ⟨true, g2 (pD (.sl (.pair (.sl (.int .u8)) (.pair (.int .i64) .unit)))) (pD (.int .i64)) fun a k => .one ⟨[Q_w_heldRowS a k], [⟨(.int .i64), .sh, F_w_heldRowS a k⟩], []⟩, [], false, 0⟩
theorem ok_w_heldRowS : ConOk pg 64 con_w_heldRowS := ConOk.g2 (Enters.of (by kernel_rfl)) ct_w_heldRowS

def F_w_eqRowsResult (a : (Int) × (List ((List (Int)) × (Int) × Unit)) × Unit) (b : (Int) × (List ((List (Int)) × (Int) × Unit)) × Unit) : Bool := decide (a = b)
def Q_w_eqRowsResult (a : (Int) × (List ((List (Int)) × (Int) × Unit)) × Unit) (b : (Int) × (List ((List (Int)) × (Int) × Unit)) × Unit) : Prop := True
def O_w_eqRowsResult : Opt := ⟨fun i => false, fun i => [], fun i => .done, fun i => none, fun i => false, fun i => [], fun i => false, fun i => none, fun i => none⟩
def τ_w_eqRowsResult : Env := Env.of [(2, (.int .i64)), (4, .bool), (42, (.sl (.pair (.sl (.int .u8)) (.pair (.int .i64) .unit)))), (44, (.pair (.int .i64) (.pair (.sl (.pair (.sl (.int .u8)) (.pair (.int .i64) .unit))) .unit)))] [] []

theorem ct_w_eqRowsResult (a : (Int) × (List ((List (Int)) × (Int) × Unit)) × Unit) (b : (Int) × (List ((List (Int)) × (Int) × Unit)) × Unit) : Ct pg 21 [.dat (.pair (.int .i64) (.pair (.sl (.pair (.sl (.int .u8)) (.pair (.int .i64) .unit))) .unit)) a, .dat (.pair (.int .i64) (.pair (.sl (.pair (.sl (.int .u8)) (.pair (.int .i64) .unit))) .unit)) b] ⟨[Q_w_eqRowsResult a b], [⟨.bool, .sh, F_w_eqRowsResult a b⟩], []⟩ := by
  refine ct_claim (O := O_w_eqRowsResult) (τ := τ_w_eqRowsResult) (EnvOk.of (by kernel_rfl) (by kernel_rfl)) (GOk.of (.cons ok_w_eqRowS .nil : AllOk pg [(60, con_w_eqRowS)])) mixed (Enters.of (by kernel_rfl)) (fn := Go.Proofs.Try.f21) (by kernel_rfl) rfl (by kernel_rfl) ?_
  intro hp hw
  have hq : Q_w_eqRowsResult a b := hp _ (List.mem_singleton.2 rfl)
  clear hp
  change claim Lg.std Alg.std τ_w_eqRowsResult (Gam.of [(60, con_w_eqRowS)]) O_w_eqRowsResult Go.Proofs.Try.f21 [.dat (.pair (.int .i64) (.pair (.sl (.pair (.sl (.int .u8)) (.pair (.int .i64) .unit))) .unit)) a, .dat (.pair (.int .i64) (.pair (.sl (.pair (.sl (.int .u8)) (.pair (.int .i64) .unit))) .unit)) b] ⟨[Q_w_eqRowsResult a b], [⟨.bool, .sh, F_w_eqRowsResult a b⟩], []⟩
  delta con_w_eqRowS
  generalize hg_F_w_eqRowS : F_w_eqRowS = g_F_w_eqRowS
  generalize hg_Q_w_eqRowS : Q_w_eqRowS = g_Q_w_eqRowS
  generalize hR0 : F_w_eqRowsResult a b = R0
  generalize Q_w_eqRowsResult a b = Q0
  generalize hL : Lg.std = L
  generalize hA : Alg.std = A
  cbv
  subst hL hA
  try dsimp only [Ty.den]
  obtain ⟨f0, f1, ⟨⟩⟩ := a
  obtain ⟨g0, g1, ⟨⟩⟩ := b
  subst hR0 hg_F_w_eqRowS hg_Q_w_eqRowS
  simp only [Q_w_eqRowsResult] at hq
  simp only [Lg.std, Alg.std, List.drop_zero, List.take_length, F_w_eqRowS, Q_w_eqRowS, F_w_eqRowsResult]
  all_goals grind
def con_w_eqRowsResult : Con := ⟨true, g2 (pD (.pair (.int .i64) (.pair (.sl (.pair (.sl (.int .u8)) (.pair (.int .i64) .unit))) .unit))) (pD (.pair (.int .i64) (.pair (.sl (.pair (.sl (.int .u8)) (.pair (.int .i64) .unit))) .unit))) fun a b => .one ⟨[Q_w_eqRowsResult a b], [⟨.bool, .sh, F_w_eqRowsResult a b⟩], []⟩, [], false, 0⟩
theorem ok_w_eqRowsResult : ConOk pg 21 con_w_eqRowsResult := ConOk.g2 (Enters.of (by kernel_rfl)) ct_w_eqRowsResult

def F_w_markRowsResult (a : (Int) × (List ((List (Int)) × (Int) × Unit)) × Unit) (k : Int) : Int := k + cnt false (.pair (.int .i64) (.pair (.sl (.pair (.sl (.int .u8)) (.pair (.int .i64) .unit))) .unit)) a
def B_w_markRowsResult_a (a : (Int) × (List ((List (Int)) × (Int) × Unit)) × Unit) (k : Int) : (Int) × (List ((List (Int)) × (Int) × Unit)) × Unit := mk false (.pair (.int .i64) (.pair (.sl (.pair (.sl (.int .u8)) (.pair (.int .i64) .unit))) .unit)) a k
def Q_w_markRowsResult (a : (Int) × (List ((List (Int)) × (Int) × Unit)) × Unit) (k : Int) : Prop := 0 ≤ k ∧ k + cnt false (.pair (.int .i64) (.pair (.sl (.pair (.sl (.int .u8)) (.pair (.int .i64) .unit))) .unit)) a ≤ 4611686018427387904
def O_w_markRowsResult : Opt := ⟨fun i => false, fun i => [], fun i => .done, fun i => none, fun i => false, fun i => [], fun i => false, fun i => none, fun i => none⟩
def τ_w_markRowsResult : Env := Env.of [(3, (.int .i64)), (4, .bool), (42, (.sl (.pair (.sl (.int .u8)) (.pair (.int .i64) .unit)))), (44, (.pair (.int .i64) (.pair (.sl (.pair (.sl (.int .u8)) (.pair (.int .i64) .unit))) .unit)))] [] []

theorem ct_w_markRowsResult (a : (Int) × (List ((List (Int)) × (Int) × Unit)) × Unit) (k : Int) : Ct pg 23 [.mv (.pair (.int .i64) (.pair (.sl (.pair (.sl (.int .u8)) (.pair (.int .i64) .unit))) .unit)) (.pr .sh (.pr (.ow (.pr (.ow .sh) (.pr .sh .sh))) .sh)) a, .dat (.int .i64) k] ⟨[Q_w_markRowsResult a k], [⟨(.int .i64), .sh, F_w_markRowsResult a k⟩], [.mv (.pair (.int .i64) (.pair (.sl (.pair (.sl (.int .u8)) (.pair (.int .i64) .unit))) .unit)) (.pr .sh (.pr (.ow (.pr (.ow .sh) (.pr .sh .sh))) .sh)) (B_w_markRowsResult_a a k)]⟩ := by
  refine ct_claim (O := O_w_markRowsResult) (τ := τ_w_markRowsResult) (EnvOk.of (by kernel_rfl) (by kernel_rfl)) (GOk.of (.cons ok_w_markRowS .nil : AllOk pg [(63, con_w_markRowS)])) mixed (Enters.of (by kernel_rfl)) (fn := Go.Proofs.Try.f23) (by kernel_rfl) rfl (by kernel_rfl) ?_
  intro hp hw
  have hq : Q_w_markRowsResult a k := hp _ (List.mem_singleton.2 rfl)
  clear hp
  change claim Lg.std Alg.std τ_w_markRowsResult (Gam.of [(63, con_w_markRowS)]) O_w_markRowsResult Go.Proofs.Try.f23 [.mv (.pair (.int .i64) (.pair (.sl (.pair (.sl (.int .u8)) (.pair (.int .i64) .unit))) .unit)) (.pr .sh (.pr (.ow (.pr (.ow .sh) (.pr .sh .sh))) .sh)) a, .dat (.int .i64) k] ⟨[Q_w_markRowsResult a k], [⟨(.int .i64), .sh, F_w_markRowsResult a k⟩], [.mv (.pair (.int .i64) (.pair (.sl (.pair (.sl (.int .u8)) (.pair (.int .i64) .unit))) .unit)) (.pr .sh (.pr (.ow (.pr (.ow .sh) (.pr .sh .sh))) .sh)) (B_w_markRowsResult_a a k)]⟩
  delta con_w_markRowS
  generalize hg_F_w_markRowS : F_w_markRowS = g_F_w_markRowS
  generalize hg_B_w_markRowS_a : B_w_markRowS_a = g_B_w_markRowS_a
  generalize hg_Q_w_markRowS : Q_w_markRowS = g_Q_w_markRowS
  generalize hR0 : F_w_markRowsResult a k = R0
  generalize hB_a : B_w_markRowsResult_a a k = B_a
  generalize Q_w_markRowsResult a k = Q0
  generalize hL : Lg.std = L
  generalize hA : Alg.std = A
  cbv
  subst hL hA
  try dsimp only [Ty.den]
  obtain ⟨f0, f1, ⟨⟩⟩ := a
  simp only [Q_w_markRowsResult] at hq
  subst hR0 hB_a hg_F_w_markRowS hg_B_w_markRowS_a hg_Q_w_markRowS
  simp only [Lg.std, Alg.std, List.drop_zero, List.take_length, F_w_markRowS, B_w_markRowS_a, Q_w_markRowS, F_w_markRowsResult, B_w_markRowsResult_a, szf, tot_p, tot_u, tot_i, tot_b, tot_s, cnt_p, cnt_u, cnt_i0, cnt_b0, cnt_s0, cnt_i1, cnt_b1, cnt_s1, cnt_l, mk_p, mk_u, mk_i0, mk_b0, mk_s0, mk_i1, mk_s1, mk_l, hd_p, hd_u, hd_i0, hd_b0, hd_s0, hd_i1, hd_b1, hd_s1, hd_l] at *
  all_goals grind [mk_len]
def con_w_markRowsResult : Con := ⟨true, g2 (pV (.pair (.int .i64) (.pair (.sl (.pair (.sl (.int .u8)) (.pair (.int .i64) .unit))) .unit)) (.pr .sh (.pr (.ow (.pr (.ow .sh) (.pr .sh .sh))) .sh))) (pD (.int .i64)) fun a k => .one ⟨[Q_w_markRowsResult a k], [⟨(.int .i64), .sh, F_w_markRowsResult a k⟩], [.mv (.pair (.int .i64) (.pair (.sl (.pair (.sl (.int .u8)) (.pair (.int .i64) .unit))) .unit)) (.pr .sh (.pr (.ow (.pr (.ow .sh) (.pr .sh .sh))) .sh)) (B_w_markRowsResult_a a k)]⟩, [(.pr .sh (.pr (.ow (.pr (.ow .sh) (.pr .sh .sh))) .sh))], false, 0⟩
theorem ok_w_markRowsResult : ConOk pg 23 con_w_markRowsResult := ConOk.g2 (Enters.of (by kernel_rfl)) ct_w_markRowsResult

def F_w_heldRowsResult (a : (Int) × (List ((List (Int)) × (Int) × Unit)) × Unit) (k : Int) : Int := hd false (.pair (.int .i64) (.pair (.sl (.pair (.sl (.int .u8)) (.pair (.int .i64) .unit))) .unit)) a k
def Q_w_heldRowsResult (a : (Int) × (List ((List (Int)) × (Int) × Unit)) × Unit) (k : Int) : Prop := 0 ≤ k ∧ k + cnt false (.pair (.int .i64) (.pair (.sl (.pair (.sl (.int .u8)) (.pair (.int .i64) .unit))) .unit)) a ≤ 4611686018427387904
def O_w_heldRowsResult : Opt := ⟨fun i => false, fun i => [], fun i => .done, fun i => none, fun i => false, fun i => [], fun i => false, fun i => none, fun i => none⟩
def τ_w_heldRowsResult : Env := Env.of [(3, (.int .i64)), (4, .bool), (42, (.sl (.pair (.sl (.int .u8)) (.pair (.int .i64) .unit)))), (44, (.pair (.int .i64) (.pair (.sl (.pair (.sl (.int .u8)) (.pair (.int .i64) .unit))) .unit)))] [] []

theorem ct_w_heldRowsResult (a : (Int) × (List ((List (Int)) × (Int) × Unit)) × Unit) (k : Int) : Ct pg 24 [.dat (.pair (.int .i64) (.pair (.sl (.pair (.sl (.int .u8)) (.pair (.int .i64) .unit))) .unit)) a, .dat (.int .i64) k] ⟨[Q_w_heldRowsResult a k], [⟨(.int .i64), .sh, F_w_heldRowsResult a k⟩], []⟩ := by
  refine ct_claim (O := O_w_heldRowsResult) (τ := τ_w_heldRowsResult) (EnvOk.of (by kernel_rfl) (by kernel_rfl)) (GOk.of (.cons ok_w_heldRowS .nil : AllOk pg [(64, con_w_heldRowS)])) mixed (Enters.of (by kernel_rfl)) (fn := Go.Proofs.Try.f24) (by kernel_rfl) rfl (by kernel_rfl) ?_
  intro hp hw
  have hq : Q_w_heldRowsResult a k := hp _ (List.mem_singleton.2 rfl)
  clear hp
  change claim Lg.std Alg.std τ_w_heldRowsResult (Gam.of [(64, con_w_heldRowS)]) O_w_heldRowsResult Go.Proofs.Try.f24 [.dat (.pair (.int .i64) (.pair (.sl (.pair (.sl (.int .u8)) (.pair (.int .i64) .unit))) .unit)) a, .dat (.int .i64) k] ⟨[Q_w_heldRowsResult a k], [⟨(.int .i64), .sh, F_w_heldRowsResult a k⟩], []⟩
  delta con_w_heldRowS
  generalize hg_F_w_heldRowS : F_w_heldRowS = g_F_w_heldRowS
  generalize hg_Q_w_heldRowS : Q_w_heldRowS = g_Q_w_heldRowS
  generalize hR0 : F_w_heldRowsResult a k = R0
  generalize Q_w_heldRowsResult a k = Q0
  generalize hL : Lg.std = L
  generalize hA : Alg.std = A
  cbv
  subst hL hA
  try dsimp only [Ty.den]
  obtain ⟨f0, f1, ⟨⟩⟩ := a
  have ho1 := fun k h => hd_or false (.sl (.pair (.sl (.int .u8)) (.pair (.int .i64) .unit))) f1 k h
  simp only [Q_w_heldRowsResult] at hq
  subst hR0 hg_F_w_heldRowS hg_Q_w_heldRowS
  simp only [Lg.std, Alg.std, List.drop_zero, List.take_length, F_w_heldRowS, Q_w_heldRowS, F_w_heldRowsResult, szf, tot_p, tot_u, tot_i, tot_b, tot_s, cnt_p, cnt_u, cnt_i0, cnt_b0, cnt_s0, cnt_i1, cnt_b1, cnt_s1, cnt_l, mk_p, mk_u, mk_i0, mk_b0, mk_s0, mk_i1, mk_s1, mk_l, hd_p, hd_u, hd_i0, hd_b0, hd_s0, hd_i1, hd_b1, hd_s1, hd_l] at *
  all_goals grind [mk_len]
def con_w_heldRowsResult : Con := ⟨true, g2 (pD (.pair (.int .i64) (.pair (.sl (.pair (.sl (.int .u8)) (.pair (.int .i64) .unit))) .unit))) (pD (.int .i64)) fun a k => .one ⟨[Q_w_heldRowsResult a k], [⟨(.int .i64), .sh, F_w_heldRowsResult a k⟩], []⟩, [], false, 0⟩
theorem ok_w_heldRowsResult : ConOk pg 24 con_w_heldRowsResult := ConOk.g2 (Enters.of (by kernel_rfl)) ct_w_heldRowsResult

def F_s_l17Rows (list : List ((List (Int)) × (Int) × Unit)) : List ((List (Int)) × (Int) × Unit) := list
def Q_s_l17Rows (list : List ((List (Int)) × (Int) × Unit)) : Prop := list.length ≤ 1000 ∧ ∀ i, i < list.length → (list.getD i ([], 0, ())).1.length ≤ 1000
def O_s_l17Rows : Opt := ⟨fun i => false, fun i => (match decide (i = 3) with | true => [true, false, false, true, true, false, false, false, false, false, false, false, false, false, false, false, false, false, false, false, false, false, false, false, false, false, false, false] | false => []), fun i => (match decide (i = 5) with | true => (.take 0 (.take 1 (.take 2 (.take 3 (.take 4 (.take 7 (.take 8 (.take 9 (.take 10 (.alt 5 (.alt 6 (.alt 11 (.take 12 (.alt 13 (.alt 14 (.take 15 .done) .no) .no)) .no) (.alt 11 (.alt 6 (.take 12 (.alt 13 (.alt 14 (.take 15 .done) .no) .no)) .no) .no)) (.alt 11 (.alt 5 (.alt 6 (.take 12 (.alt 13 (.alt 14 (.take 15 .done) .no) .no)) .no) .no) .no))))))))))) | false => .done), fun i => (match decide (i = 5) with | true => some [true, false, false, true, true, false, false, false, false, false, false, false, false, false, false, false, false, false, false, false, false, false, false, false, false, false, false, false] | false => none), fun i => false, fun i => [], fun i => false, fun i => none, fun i => none⟩
def τ_s_l17Rows : Env := Env.of [(2, (.int .i64)), (3, (.int .i64)), (4, .bool), (34, (.sl (.int .u8))), (42, (.sl (.pair (.sl (.int .u8)) (.pair (.int .i64) .unit)))), (90, (.pair (.sl (.int .u8)) (.pair (.int .i64) .unit)))] [] []

theorem ct_s_l17Rows (list : List ((List (Int)) × (Int) × Unit)) : Ct pg 59 [.dat (.sl (.pair (.sl (.int .u8)) (.pair (.int .i64) .unit))) list] ⟨[Q_s_l17Rows list], [⟨(.sl (.pair (.sl (.int .u8)) (.pair (.int .i64) .unit))), (.ow (.pr (.ow .sh) (.pr .sh .sh))), F_s_l17Rows list⟩], []⟩ := by
  refine ct_claim (O := O_s_l17Rows) (τ := τ_s_l17Rows) (EnvOk.of (by kernel_rfl) (by kernel_rfl)) (GOk.of (.cons ok_s_l1Copy .nil : AllOk pg [(77, con_s_l1Copy)])) mixed (Enters.of (by kernel_rfl)) (fn := Go.Proofs.Try.f59) (by kernel_rfl) rfl (by kernel_rfl) ?_
  intro hp hw
  have hq : Q_s_l17Rows list := hp _ (List.mem_singleton.2 rfl)
  clear hp
  change claim Lg.std Alg.std τ_s_l17Rows (Gam.of [(77, con_s_l1Copy)]) O_s_l17Rows Go.Proofs.Try.f59 [.dat (.sl (.pair (.sl (.int .u8)) (.pair (.int .i64) .unit))) list] ⟨[Q_s_l17Rows list], [⟨(.sl (.pair (.sl (.int .u8)) (.pair (.int .i64) .unit))), (.ow (.pr (.ow .sh) (.pr .sh .sh))), F_s_l17Rows list⟩], []⟩
  delta con_s_l1Copy
  generalize hg_F_s_l1Copy : F_s_l1Copy = g_F_s_l1Copy
  generalize hg_Q_s_l1Copy : Q_s_l1Copy = g_Q_s_l1Copy
  generalize hR0 : F_s_l17Rows list = R0
  generalize Q_s_l17Rows list = Q0
  generalize hL : Lg.std = L
  generalize hA : Alg.std = A
  cbv
  subst hL hA
  try dsimp only [Ty.den]
  simp only [Q_s_l17Rows] at hq
  repeat' (first | intro _ | apply And.intro)
  all_goals first | trivial | ((fail_if_success (refine lp_v (V := Unit) (fun _ => ⟨[], []⟩) (fun _ => True) (fun _ => 0) () ?_ ?_ ?_)); subst hR0 hg_F_s_l1Copy hg_Q_s_l1Copy; (try simp only [Alg.std, F_s_l1Copy, Q_s_l1Copy, F_s_l17Rows] at *); all_goals grind) | skip
  refine lp_v (V := (Int) × (Nat) × (List RowT)) (fun ((i, N, xs) : (Int) × (Nat) × (List RowT)) => ⟨[.dat (.sl (.pair (.sl (.int .u8)) (.pair (.int .i64) .unit))) list, Jk, Jk, .ref (.pair (.sl (.int .u8)) (.pair (.int .i64) .unit)) 0 0 [] 0 N, .dat (.int .i64) i, Jk, Jk, Jk, Jk, Jk, Jk, Jk, Jk, Jk, Jk, Jk, Jk, Jk, Jk, Jk, Jk, Jk, Jk, Jk, Jk, Jk, Jk, Jk], [some (.row 0 (.pair (.sl (.int .u8)) (.pair (.int .i64) .unit)) (.pr (.ow .sh) (.pr .sh .sh)) xs)]⟩) (fun ((i, N, xs) : (Int) × (Nat) × (List RowT)) => N = xs.length ∧ 0 ≤ i ∧ i ≤ list.length ∧ xs = list.take i.toNat) (fun ((i, N, xs) : (Int) × (Nat) × (List RowT)) => list.length - i.toNat) (0, _, _) rfl ?_ ?_
  · subst hR0 hg_F_s_l1Copy hg_Q_s_l1Copy
    (try simp only [Alg.std, F_s_l1Copy, Q_s_l1Copy, F_s_l17Rows] at *)
    all_goals grind
  rintro ⟨i, N, xs⟩ hf I hI
  replace hf : N = xs.length ∧ 0 ≤ i ∧ i ≤ list.length ∧ xs = list.take i.toNat := hf
  generalize hL : Lg.std = L
  generalize hA : Alg.std = A
  cbv
  subst hL hA
  try dsimp only [Ty.den]
  subst hI
  obtain ⟨h1, h2, h3, h4⟩ := hf
  have hat := fun (h : i.toNat < list.length) => cpR_at list i.toNat h
  have hql := fun (h : i.toNat < list.length) => hq.2 i.toNat h
  have hsu : (i + 1).toNat = i.toNat + 1 := by omega
  have hta := fun (h : list.length ≤ i.toNat) => List.take_of_length_le h
  repeat' (first | intro _ | apply And.intro)
  all_goals first | (with_reducible exact True.intro) | ((fail_if_success (refine lp_v (V := Unit) (fun _ => ⟨[], []⟩) (fun _ => True) (fun _ => 0) () ?_ ?_ ?_)); (try simp only [Lg.std, Alg.std, List.drop_zero, List.take_length] at *); (try refine ⟨(_, _, _), rfl, ?_, ?_⟩); (all_goals (subst hR0 hg_F_s_l1Copy hg_Q_s_l1Copy; (try simp only [Lg.std, Alg.std, List.drop_zero, List.take_length, F_s_l1Copy, Q_s_l1Copy, F_s_l17Rows] at *); first | done | ((try generalize list.getD i.toNat ([], 0, PUnit.unit) = xa at *); (try obtain ⟨xa0, xa1, ⟨⟩⟩ := xa); (try dsimp only at *); grind)))) | skip
def con_s_l17Rows : Con := ⟨true, g1 (pD (.sl (.pair (.sl (.int .u8)) (.pair (.int .i64) .unit)))) fun list => .one ⟨[Q_s_l17Rows list], [⟨(.sl (.pair (.sl (.int .u8)) (.pair (.int .i64) .unit))), (.ow (.pr (.ow .sh) (.pr .sh .sh))), F_s_l17Rows list⟩], []⟩, [], false, 0⟩
theorem ok_s_l17Rows : ConOk pg 59 con_s_l17Rows := ConOk.g1 (Enters.of (by kernel_rfl)) ct_s_l17Rows
end Go.Vee
