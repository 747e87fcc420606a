/-
  Contracts of functions of the program: what each returns for all arguments that its precondition lets in.
-/
import Derived.Test.YtjlojjkfdidkiaaVK23
set_option linter.unusedSimpArgs false
set_option linter.unusedVariables false
set_option maxRecDepth 100000
set_option maxHeartbeats 4000000
set_option synthInstance.maxHeartbeats 4000000
set_option synthInstance.maxSize 20000000
namespace Go.Vee
open Go
def bhP (a : List Int) (r : RowT) : Bool := decide (ordB r.1 a > 0)
def bhT (l : List RowT) (a : List Int) (n : Int) (i : Nat) : List RowT := ((l.take i).filter (bhP a)).take n.toNat
theorem bhT_0 (l : List RowT) (a : List Int) (n : Int) : bhT l a n 0 = [] := by simp [bhT]
theorem bhT_step (l : List RowT) (a : List Int) (n : Int) (i : Nat) (h : i < l.length) :
    (bhP a (l.getD i ([], 0, ())) = true → ((bhT l a n i).length : Int) < n → bhT l a n (i + 1) = bhT l a n i ++ [l.getD i ([], 0, ())]) ∧
    (¬ (bhP a (l.getD i ([], 0, ())) = true ∧ ((bhT l a n i).length : Int) < n) → bhT l a n (i + 1) = bhT l a n i) := by
  have e : (l.take (i + 1)).filter (bhP a) = (l.take i).filter (bhP a) ++ (if bhP a (l.getD i ([], 0, ())) = true then [l.getD i ([], 0, ())] else []) := by
    rw [List.take_add_one, List.getElem?_eq_getElem h, List.filter_append, List.getD_eq_getElem?_getD, List.getElem?_eq_getElem h]
    simp only [Option.toList_some, List.filter_cons, List.filter_nil, Option.getD_some]
  unfold bhT
  rw [e]
  generalize (l.take i).filter (bhP a) = f
  rw [List.length_take]
  refine ⟨fun h1 h2 => ?_, fun h1 => ?_⟩
  · rw [if_pos h1, List.take_of_length_le (by simp; omega), List.take_of_length_le (by omega)]
  · by_cases h2 : bhP a (l.getD i ([], 0, ())) = true
    · have h3 : ¬ ((min n.toNat f.length : Nat) : Int) < n := fun h => h1 ⟨h2, h⟩
      rw [if_pos h2, List.take_append_of_le_length (by omega)]
    · rw [if_neg h2, List.append_nil]
theorem bhT_len (l : List RowT) (a : List Int) (n : Int) (i : Nat) : (bhT l a n i).length ≤ n.toNat ∧ (bhT l a n i).length ≤ l.length := by
  unfold bhT
  have h1 := List.length_filter_le (bhP a) (l.take i)
  rw [List.length_take] at h1 ⊢
  omega
theorem bhT_mem (l : List RowT) (a : List Int) (n : Int) (i : Nat) (j : Nat) (hj : j < (bhT l a n i).length) : (bhT l a n i).getD j ([], 0, ()) ∈ l := by
  have h := getD_mem (bhT l a n i) ([], 0, ()) j hj
  unfold bhT at h
  have h := (List.mem_filter.1 (List.mem_of_mem_take h)).1
  exact List.mem_of_mem_take h
theorem bhT_end (l : List RowT) (a : List Int) (n : Int) (i : Nat) (h : l.length ≤ i) : bhT l a n i = behind l a n := by
  unfold bhT behind
  rw [List.take_of_length_le h]
  rfl
theorem bhT_full (l : List RowT) (a : List Int) (n : Int) (i : Nat) (h : n ≤ ((bhT l a n i).length : Int)) : bhT l a n i = behind l a n := by
  have hf : l.filter (bhP a) = (l.take i).filter (bhP a) ++ (l.drop i).filter (bhP a) := by rw [← List.filter_append, List.take_append_drop]
  have hb : behind l a n = (l.filter (bhP a)).take n.toNat := rfl
  rw [hb, hf]
  unfold bhT at h ⊢
  rw [List.length_take] at h
  rw [List.take_append_of_le_length (by omega)]
theorem behind_len (l : List RowT) (a : List Int) (n : Int) : (behind l a n).length ≤ n.toNat := by rw [← bhT_end l a n l.length (Nat.le_refl _)]; exact (bhT_len l a n _).1
theorem behind_mem (l : List RowT) (a : List Int) (n : Int) : ∀ r ∈ behind l a n, r ∈ l := fun r hr => (List.mem_filter.1 (List.mem_of_mem_take hr)).1
theorem scan_0 (d : DiskT) (root : Int) (a : List Int) (n : Int) (h1 : (treeAll d root).1 = 0) (h2 : a.length ≤ 16) (h3 : 0 ≤ n ∧ n ≤ 20) : scanRows d root a n = (0, behind (treeAll d root).2.2.1 a n, ()) := by
  unfold scanRows
  rw [if_neg (by omega), if_neg (by omega), if_neg (by omega)]
def posW (w : WkT) : Prop := ∀ r ∈ w.2.1, 1 ≤ r.1.length
theorem visK_pos (f : Int → List Int → List Int → WkT → Int × WkT) (ks : List (List Int)) (lo hi : List Int) (hf : ∀ k a b w, posW w → posW (f k a b w).2) :
    ∀ (l : List Int) (i : Nat) (w : WkT), posW w → posW (visK f ks lo hi l i w).2
  | [], i, w, h => h
  | k :: l, i, w, h => by
    have h1 := hf k (if 0 < i then ks.getD (i - 1) [] else lo) (if i < ks.length then ks.getD i [] else hi) w h
    unfold visK
    generalize (if 0 < i then ks.getD (i - 1) [] else lo) = a0 at h1 ⊢
    generalize (if i < ks.length then ks.getD i [] else hi) = b0 at h1 ⊢
    by_cases c : (f k a0 b0 w).1 ≠ 0
    · rw [if_pos c]; exact h1
    · rw [if_neg c]; exact visK_pos f ks lo hi hf l (i + 1) _ h1
theorem vis_pos (p : List Int → Int → List Int) (d : DiskT) : ∀ (m : Nat) (id dep : Int) (lo hi : List Int) (w : WkT), posW w → posW (vis p d m id dep lo hi w).2
  | 0, id, dep, lo, hi, w, h => h
  | m + 1, id, dep, lo, hi, w, h => by
    unfold vis
    split
    · exact h
    split
    · exact h
    rename_i hn
    have hw := nodeFault_walk _ (nodeAt_ok d id (Decidable.not_not.1 hn))
    split
    · exact h
    split
    · exact h
    split
    · unfold leafW
      split
      · exact h
      · intro r hr
        rcases List.mem_append.1 hr with hr | hr
        · exact h r hr
        · have hk := rowsOf_mem _ _ r hr
          obtain ⟨i, hi, e⟩ := List.mem_iff_getElem.1 hk
          have := (hw.2.1 i hi).1
          rw [List.getD_eq_getElem?_getD, List.getElem?_eq_getElem hi] at this
          rw [← e]
          exact this
    · exact visK_pos _ _ _ _ (fun k a b w hw => vis_pos p d m k (dep + 1) a b w hw) _ 0 _ h
theorem rows_pos (d : DiskT) (root : Int) (i : Nat) (h : i < (treeAll d root).2.2.1.length) : 1 ≤ ((treeAll d root).2.2.1.getD i ([], 0, ())).1.length := by
  have h0 : posW wk0 := by intro r hr; simp [wk0] at hr
  have : posW (treeAll d root).2 := by
    unfold treeAll
    split
    · exact h0
    · unfold treeP
      split
      · exact h0
      · exact vis_pos _ d 5 root 1 [] [] wk0 h0
  exact this _ (getD_mem _ _ i h)
theorem scanRows_cnt (d : DiskT) (root : Int) (a : List Int) (n : Int) : cnt false (.sl (.pair (.sl (.int .u8)) (.pair (.int .i64) .unit))) (scanRows d root a n).2.1 ≤ 4216 := by
  unfold scanRows
  split
  · simp [cnt, cntL]
  split
  · simp [cnt, cntL]
  split
  · simp [cnt, cntL]
  · rename_i hn
    have h := rows_cnt d root
    have h1 := cnt_rows (behind (treeAll d root).2.2.1 a n) (fun r hr => h.2 r (behind_mem _ _ _ r hr))
    have h2 := behind_len (treeAll d root).2.2.1 a n
    dsimp only
    omega


def F_s_l17Behind (rows : List ((List (Int)) × (Int) × Unit)) (after : List (Int)) (n : Int) : List ((List (Int)) × (Int) × Unit) := behind rows after n
def Q_s_l17Behind (rows : List ((List (Int)) × (Int) × Unit)) (after : List (Int)) (n : Int) : Prop := rows.length ≤ 1000 ∧ (∀ i, i < rows.length → (rows.getD i ([], 0, ())).1.length ≤ 1000)
def O_s_l17Behind : Opt := ⟨fun i => false, fun i => (match decide (i = 3) with | true => [true, true, true, false, false, false, false, true, true, false, false, false, false, false, false, false, false, false, false, false, false, false, false, false, false, false, false, false, false, false, false, false, false, false, false, false, false, false, false] | false => []), fun i => .done, fun i => none, fun i => (match decide (i = 3) with | true => true | false => false), fun i => (match decide (i = 3) with | true => [(7, none, (.pair (.sl (.int .u8)) (.pair (.int .i64) .unit)), (.pr .sh (.pr .sh .sh)))] | false => []), fun i => false, fun i => none, fun i => none⟩
def τ_s_l17Behind : Env := Env.of [(2, (.int .i64)), (3, (.int .i64)), (4, .bool), (34, (.sl (.int .u8))), (42, (.sl (.pair (.sl (.int .u8)) (.pair (.int .i64) .unit)))), (90, (.pair (.sl (.int .u8)) (.pair (.int .i64) .unit)))] [] []

theorem ct_s_l17Behind (rows : List ((List (Int)) × (Int) × Unit)) (after : List (Int)) (n : Int) : Ct pg 66 [.dat (.sl (.pair (.sl (.int .u8)) (.pair (.int .i64) .unit))) rows, .dat (.sl (.int .u8)) after, .dat (.int .i64) n] ⟨[Q_s_l17Behind rows after n], [⟨(.sl (.pair (.sl (.int .u8)) (.pair (.int .i64) .unit))), (.ow (.pr (.ow .sh) (.pr .sh .sh))), F_s_l17Behind rows after n⟩], []⟩ := by
  refine ct_claim (O := O_s_l17Behind) (τ := τ_s_l17Behind) (EnvOk.of (by kernel_rfl) (by kernel_rfl)) (GOk.of (.cons ok_s_l1Order (.cons ok_s_l17Rows .nil) : AllOk pg [(116, con_s_l1Order), (59, con_s_l17Rows)])) mixed (Enters.of (by kernel_rfl)) (fn := Go.Proofs.Try.f66) (by kernel_rfl) rfl (by kernel_rfl) ?_
  intro hp hw
  have hq : Q_s_l17Behind rows after n := hp _ (List.mem_singleton.2 rfl)
  clear hp
  change claim Lg.std Alg.std τ_s_l17Behind (Gam.of [(116, con_s_l1Order), (59, con_s_l17Rows)]) O_s_l17Behind Go.Proofs.Try.f66 [.dat (.sl (.pair (.sl (.int .u8)) (.pair (.int .i64) .unit))) rows, .dat (.sl (.int .u8)) after, .dat (.int .i64) n] ⟨[Q_s_l17Behind rows after n], [⟨(.sl (.pair (.sl (.int .u8)) (.pair (.int .i64) .unit))), (.ow (.pr (.ow .sh) (.pr .sh .sh))), F_s_l17Behind rows after n⟩], []⟩
  delta con_s_l1Order con_s_l17Rows
  generalize hg_F_s_l1Order : F_s_l1Order = g_F_s_l1Order
  generalize hg_Q_s_l1Order : Q_s_l1Order = g_Q_s_l1Order
  generalize hg_F_s_l17Rows : F_s_l17Rows = g_F_s_l17Rows
  generalize hg_Q_s_l17Rows : Q_s_l17Rows = g_Q_s_l17Rows
  generalize hR0 : F_s_l17Behind rows after n = R0
  generalize Q_s_l17Behind rows after n = Q0
  generalize hL : Lg.std = L
  generalize hA : Alg.std = A
  cbv
  subst hL hA
  try dsimp only [Ty.den]
  simp only [Q_s_l17Behind] at hq
  repeat' (first | intro _ | apply And.intro)
  all_goals first | trivial | ((fail_if_success (refine lp_v (V := Unit) (fun _ => ⟨[], []⟩) (fun _ => True) (fun _ => 0) () ?_ ?_ ?_)); subst hR0 hg_F_s_l1Order hg_Q_s_l1Order hg_F_s_l17Rows hg_Q_s_l17Rows; (try simp only [Alg.std, F_s_l1Order, F_s_l17Rows, Q_s_l1Order, Q_s_l17Rows, F_s_l17Behind] at *); all_goals grind) | skip
  refine lp_v (V := (Int) × (Nat) × (List RowT)) (fun ((i, N, xs) : (Int) × (Nat) × (List RowT)) => ⟨[.dat (.sl (.pair (.sl (.int .u8)) (.pair (.int .i64) .unit))) rows, .dat (.sl (.int .u8)) after, .dat (.int .i64) n, Jk, Jk, Jk, Jk, .ref (.pair (.sl (.int .u8)) (.pair (.int .i64) .unit)) 0 0 [] 0 N, .dat (.int .i64) i, Jk, Jk, Jk, Jk, Jk, Jk, Jk, Jk, Jk, Jk, Jk, Jk, Jk, Jk, Jk, Jk, Jk, Jk, Jk, Jk, Jk, Jk, Jk, Jk, Jk, Jk, Jk, Jk, Jk, Jk], [some (.row 0 (.pair (.sl (.int .u8)) (.pair (.int .i64) .unit)) (.pr .sh (.pr .sh .sh)) xs)]⟩) (fun ((i, N, xs) : (Int) × (Nat) × (List RowT)) => N = xs.length ∧ 0 ≤ i ∧ i ≤ rows.length ∧ xs = bhT rows after n i.toNat) (fun ((i, N, xs) : (Int) × (Nat) × (List RowT)) => rows.length - i.toNat) (0, _, _) rfl ?_ ?_
  · subst hR0 hg_F_s_l1Order hg_Q_s_l1Order hg_F_s_l17Rows hg_Q_s_l17Rows
    (try simp only [Alg.std, F_s_l1Order, F_s_l17Rows, Q_s_l1Order, Q_s_l17Rows, F_s_l17Behind] at *)
    have hb0 := bhT_0 rows after n
    all_goals grind
  rintro ⟨i, N, xs⟩ hf I hI
  replace hf : N = xs.length ∧ 0 ≤ i ∧ i ≤ rows.length ∧ xs = bhT rows after n i.toNat := hf
  generalize hL : Lg.std = L
  generalize hA : Alg.std = A
  cbv
  subst hL hA
  try dsimp only [Ty.den]
  subst hI
  obtain ⟨h1, h2, h3, h4⟩ := hf
  have hst := fun (h : i.toNat < rows.length) => bhT_step rows after n i.toNat h
  have hen := fun (h : rows.length ≤ i.toNat) => bhT_end rows after n i.toNat h
  have hfu := bhT_full rows after n i.toNat
  have hle := bhT_len rows after n i.toNat
  have hql := hq.2
  have hme := fun j (h : j < xs.length) => bhT_mem rows after n i.toNat j (by rw [← h4]; exact h)
  have hxl : ∀ j, j < xs.length → (xs.getD j ([], 0, PUnit.unit)).1.length ≤ 1000 := fun j h => by
    have h1 := hme j h
    rw [← h4] at h1
    obtain ⟨k, hk, e⟩ := List.mem_iff_getElem.1 h1
    have h2 := hql k hk
    rw [List.getD_eq_getElem?_getD, List.getElem?_eq_getElem hk, Option.getD_some, e] at h2
    exact h2
  clear hme
  have hsu : (i + 1).toNat = i.toNat + 1 := by omega
  repeat' (first | intro _ | apply And.intro)
  all_goals first | (with_reducible exact True.intro) | ((fail_if_success (refine lp_v (V := Unit) (fun _ => ⟨[], []⟩) (fun _ => True) (fun _ => 0) () ?_ ?_ ?_)); (try simp only [Lg.std, Alg.std, List.drop_zero, List.take_length] at *); (try refine ⟨(_, _, _), rfl, ?_, ?_⟩); (all_goals (subst hR0 hg_F_s_l1Order hg_Q_s_l1Order hg_F_s_l17Rows hg_Q_s_l17Rows; (try simp only [Lg.std, Alg.std, List.drop_zero, List.take_length, F_s_l1Order, F_s_l17Rows, Q_s_l1Order, Q_s_l17Rows, F_s_l17Behind] at *); first | done | ((try generalize rows.getD i.toNat ([], 0, PUnit.unit) = xa at *); (try obtain ⟨xa0, xa1, ⟨⟩⟩ := xa); (try dsimp only at *); (try simp only [bhP, decide_eq_true_eq] at *); grind)))) | skip
def con_s_l17Behind : Con := ⟨true, g3 (pD (.sl (.pair (.sl (.int .u8)) (.pair (.int .i64) .unit)))) (pD (.sl (.int .u8))) (pD (.int .i64)) fun rows after n => .one ⟨[Q_s_l17Behind rows after n], [⟨(.sl (.pair (.sl (.int .u8)) (.pair (.int .i64) .unit))), (.ow (.pr (.ow .sh) (.pr .sh .sh))), F_s_l17Behind rows after n⟩], []⟩, [], false, 0⟩
theorem ok_s_l17Behind : ConOk pg 66 con_s_l17Behind := ConOk.g3 (Enters.of (by kernel_rfl)) ct_s_l17Behind

def F_i_ScanRows (d : (List (List (Int))) × (List ((Int) × (List (Int)) × Unit)) × Unit) (root : Int) (after : List (Int)) (n : Int) : (Int) × (List ((List (Int)) × (Int) × Unit)) × Unit := scanRows d root after n
def Q_i_ScanRows (d : (List (List (Int))) × (List ((Int) × (List (Int)) × Unit)) × Unit) (root : Int) (after : List (Int)) (n : Int) : Prop := True
def O_i_ScanRows : Opt := ⟨fun i => false, fun i => (match decide (i = 10) with | true => [false, false, true, true, false, false, false, false, true, false, false, true, false, false, false, false, false, false, false, false, false, false, false, false, false, false, false, false, false, false, false, false, false, false, false, false, true, true, true, false, false, false, false, false, false, false, false, false, false, false, false, false, false, false, false, false, false, false, false, false] | false => []), fun i => .done, fun i => none, fun i => (match decide (i = 10) with | true => true | false => false), fun i => (match decide (i = 10) with | true => [(36, none, (.pair (.sl (.int .u8)) (.pair (.int .i64) .unit)), (.pr .no (.pr .sh .sh)))] | false => []), fun i => false, fun i => none, fun i => none⟩
def τ_i_ScanRows : Env := Env.of [(2, (.int .i64)), (3, (.int .i64)), (4, .bool), (30, (.pair (.sl (.sl (.int .u8))) (.pair (.sl (.pair (.int .i64) (.pair (.sl (.int .u8)) .unit))) .unit))), (34, (.sl (.int .u8))), (42, (.sl (.pair (.sl (.int .u8)) (.pair (.int .i64) .unit)))), (44, (.pair (.int .i64) (.pair (.sl (.pair (.sl (.int .u8)) (.pair (.int .i64) .unit))) .unit))), (90, (.pair (.sl (.int .u8)) (.pair (.int .i64) .unit))), (94, (.pair (.pair (.sl (.sl (.int .u8))) (.pair (.sl (.pair (.int .i64) (.pair (.sl (.int .u8)) .unit))) .unit)) (.pair (.sl (.int .i64)) (.pair (.sl (.pair (.sl (.int .u8)) (.pair (.int .i64) .unit))) (.pair (.int .i64) .unit)))))] [(83, (.pair (.pair (.sl (.sl (.int .u8))) (.pair (.sl (.pair (.int .i64) (.pair (.sl (.int .u8)) .unit))) .unit)) (.pair (.sl (.int .i64)) (.pair (.sl (.pair (.sl (.int .u8)) (.pair (.int .i64) .unit))) (.pair (.int .i64) .unit)))))] []

theorem ct_i_ScanRows (d : (List (List (Int))) × (List ((Int) × (List (Int)) × Unit)) × Unit) (root : Int) (after : List (Int)) (n : Int) : Ct pg 26 [.dat (.pair (.sl (.sl (.int .u8))) (.pair (.sl (.pair (.int .i64) (.pair (.sl (.int .u8)) .unit))) .unit)) d, .dat (.int .i64) root, .dat (.sl (.int .u8)) after, .dat (.int .i64) n] ⟨[Q_i_ScanRows d root after n], [⟨(.pair (.int .i64) (.pair (.sl (.pair (.sl (.int .u8)) (.pair (.int .i64) .unit))) .unit)), (.pr .sh (.pr (.ow (.pr (.ow .sh) (.pr .sh .sh))) .sh)), F_i_ScanRows d root after n⟩], []⟩ := by
  refine ct_claim (O := O_i_ScanRows) (τ := τ_i_ScanRows) (EnvOk.of (by kernel_rfl) (by kernel_rfl)) (GOk.of (.cons ok_i_within (.cons ok_b_Compare (.cons ok_i_treeOf .nil)) : AllOk pg [(67, con_i_within), (68, con_b_Compare), (50, con_i_treeOf)])) mixed (Enters.of (by kernel_rfl)) (fn := Go.Proofs.Try.f26) (by kernel_rfl) rfl (by kernel_rfl) ?_
  intro hp hw
  have hq : Q_i_ScanRows d root after n := hp _ (List.mem_singleton.2 rfl)
  clear hp
  change claim Lg.std Alg.std τ_i_ScanRows (Gam.of [(67, con_i_within), (68, con_b_Compare), (50, con_i_treeOf)]) O_i_ScanRows Go.Proofs.Try.f26 [.dat (.pair (.sl (.sl (.int .u8))) (.pair (.sl (.pair (.int .i64) (.pair (.sl (.int .u8)) .unit))) .unit)) d, .dat (.int .i64) root, .dat (.sl (.int .u8)) after, .dat (.int .i64) n] ⟨[Q_i_ScanRows d root after n], [⟨(.pair (.int .i64) (.pair (.sl (.pair (.sl (.int .u8)) (.pair (.int .i64) .unit))) .unit)), (.pr .sh (.pr (.ow (.pr (.ow .sh) (.pr .sh .sh))) .sh)), F_i_ScanRows d root after n⟩], []⟩
  delta con_i_within con_b_Compare con_i_treeOf
  generalize hg_F_i_within : F_i_within = g_F_i_within
  generalize hg_Q_i_within : Q_i_within = g_Q_i_within
  generalize hg_F_b_Compare : F_b_Compare = g_F_b_Compare
  generalize hg_Q_b_Compare : Q_b_Compare = g_Q_b_Compare
  generalize hg_F_i_treeOf : F_i_treeOf = g_F_i_treeOf
  generalize hg_F_i_treeOf_1 : F_i_treeOf_1 = g_F_i_treeOf_1
  generalize hg_Q_i_treeOf : Q_i_treeOf = g_Q_i_treeOf
  generalize hR0 : F_i_ScanRows d root after n = R0
  generalize Q_i_ScanRows d root after n = Q0
  generalize hL : Lg.std = L
  generalize hA : Alg.std = A
  cbv
  subst hL hA
  try dsimp only [Ty.den]
  obtain ⟨d_0, d_1, ⟨⟩⟩ := d
  have h2 := rows_cnt (d_0, d_1, PUnit.unit) root
  have hsc := scan_0 (d_0, d_1, PUnit.unit) root after n
  have hpos := rows_pos (d_0, d_1, PUnit.unit) root
  have hl0 := hw.1
  repeat' (first | intro _ | apply And.intro)
  all_goals first | trivial | ((fail_if_success (refine lp_v (V := Unit) (fun _ => ⟨[], []⟩) (fun _ => True) (fun _ => 0) () ?_ ?_ ?_)); subst hR0 hg_F_i_within hg_Q_i_within hg_F_b_Compare hg_Q_b_Compare hg_F_i_treeOf hg_F_i_treeOf_1 hg_Q_i_treeOf; (try simp only [Alg.std, F_i_within, F_b_Compare, F_i_treeOf, F_i_treeOf_1, Q_i_within, Q_b_Compare, Q_i_treeOf, F_i_ScanRows] at *); all_goals grind [scanRows]) | skip
  refine lp_v (V := (Int) × (Int) × (Nat) × (Nat) × (List RowT) × (List RowT)) (fun ((i, M, N, K, xs, zs) : (Int) × (Int) × (Nat) × (Nat) × (List RowT) × (List RowT)) => ⟨[Jk, Jk, .dat (.sl (.int .u8)) after, .dat (.int .i64) n, Jk, Jk, Jk, Jk, .bptr 0 0, Jk, Jk, .ref (.pair (.sl (.int .u8)) (.pair (.int .i64) .unit)) 1 0 [] 0 N, Jk, Jk, Jk, Jk, Jk, Jk, Jk, Jk, Jk, Jk, Jk, Jk, Jk, Jk, Jk, Jk, Jk, Jk, Jk, Jk, Jk, Jk, Jk, Jk, .ref (.pair (.sl (.int .u8)) (.pair (.int .i64) .unit)) 2 0 [] 0 K, .dat (.int .i64) M, .dat (.int .i64) i, Jk, Jk, Jk, Jk, Jk, Jk, Jk, Jk, Jk, Jk, Jk, Jk, Jk, Jk, Jk, Jk, Jk, Jk, Jk, Jk, Jk], [some (.box [.dat (.int .i64) 0, .nilS]), some (.row 0 (.pair (.sl (.int .u8)) (.pair (.int .i64) .unit)) (.pr (.ow .sh) (.pr .sh .sh)) xs), some (.row 0 (.pair (.sl (.int .u8)) (.pair (.int .i64) .unit)) (.pr .no (.pr .sh .sh)) zs)]⟩) (fun ((i, M, N, K, xs, zs) : (Int) × (Int) × (Nat) × (Nat) × (List RowT) × (List RowT)) => M = (treeAll (d_0, d_1, PUnit.unit) root).2.2.1.length ∧ N = xs.length ∧ K = zs.length ∧ zs.length = (treeAll (d_0, d_1, PUnit.unit) root).2.2.1.length ∧ zs.drop i.toNat = (treeAll (d_0, d_1, PUnit.unit) root).2.2.1.drop i.toNat ∧ xs = bhT (treeAll (d_0, d_1, PUnit.unit) root).2.2.1 after n i.toNat ∧ (treeAll (d_0, d_1, PUnit.unit) root).1 = 0 ∧ after.length ≤ 16 ∧ 0 ≤ n ∧ n ≤ 20 ∧ 0 ≤ i ∧ i ≤ (treeAll (d_0, d_1, PUnit.unit) root).2.2.1.length) (fun ((i, M, N, K, xs, zs) : (Int) × (Int) × (Nat) × (Nat) × (List RowT) × (List RowT)) => (treeAll (d_0, d_1, PUnit.unit) root).2.2.1.length - i.toNat) (0, _, _, _, _, _) rfl ?_ ?_
  · subst hR0 hg_F_i_within hg_Q_i_within hg_F_b_Compare hg_Q_b_Compare hg_F_i_treeOf hg_F_i_treeOf_1 hg_Q_i_treeOf
    (try simp only [Alg.std, F_i_within, F_b_Compare, F_i_treeOf, F_i_treeOf_1, Q_i_within, Q_b_Compare, Q_i_treeOf, F_i_ScanRows] at *)
    have hb0 := bhT_0 (treeAll (d_0, d_1, PUnit.unit) root).2.2.1 after n
    all_goals grind
  rintro ⟨i, M, N, K, xs, zs⟩ hf I hI
  replace hf : M = (treeAll (d_0, d_1, PUnit.unit) root).2.2.1.length ∧ N = xs.length ∧ K = zs.length ∧ zs.length = (treeAll (d_0, d_1, PUnit.unit) root).2.2.1.length ∧ zs.drop i.toNat = (treeAll (d_0, d_1, PUnit.unit) root).2.2.1.drop i.toNat ∧ xs = bhT (treeAll (d_0, d_1, PUnit.unit) root).2.2.1 after n i.toNat ∧ (treeAll (d_0, d_1, PUnit.unit) root).1 = 0 ∧ after.length ≤ 16 ∧ 0 ≤ n ∧ n ≤ 20 ∧ 0 ≤ i ∧ i ≤ (treeAll (d_0, d_1, PUnit.unit) root).2.2.1.length := hf
  generalize hL : Lg.std = L
  generalize hA : Alg.std = A
  cbv
  subst hL hA
  try dsimp only [Ty.den]
  subst hI
  obtain ⟨h1, h2, h3, h4, h5, h6, h7, h8, h9, h10, h11, h12⟩ := hf
  have hsc' := hsc h7 h8 ⟨h9, h10⟩
  clear hsc
  generalize hR : (treeAll (d_0, d_1, PUnit.unit) root).2.2.1 = R at *
  have hst := fun (h : i.toNat < R.length) => bhT_step R after n i.toNat h
  have hen := fun (h : R.length ≤ i.toNat) => bhT_end R after n i.toNat h
  have hle := bhT_len R after n i.toNat
  have hpo := fun (h : i.toNat < R.length) => hpos i.toNat h
  have hat := drop_at (zs := zs) (([], 0, PUnit.unit) : RowT) h5
  have hnx := fun v => drop_next (zs := zs) v h5
  have hnx' := drop_next' (zs := zs) h5
  have hsu : (i + 1).toNat = i.toNat + 1 := by omega
  repeat' (first | intro _ | apply And.intro)
  all_goals first | (with_reducible exact True.intro) | ((fail_if_success (refine lp_v (V := Unit) (fun _ => ⟨[], []⟩) (fun _ => True) (fun _ => 0) () ?_ ?_ ?_)); (try simp only [Lg.std, Alg.std, List.drop_zero, List.take_length] at *); (try refine ⟨(_, _, _, _, _, _), rfl, ?_, ?_⟩); (all_goals (subst hR0 hg_F_i_within hg_Q_i_within hg_F_b_Compare hg_Q_b_Compare hg_F_i_treeOf hg_F_i_treeOf_1 hg_Q_i_treeOf; (try simp only [Lg.std, Alg.std, List.drop_zero, List.take_length, F_i_within, F_b_Compare, F_i_treeOf, F_i_treeOf_1, Q_i_within, Q_b_Compare, Q_i_treeOf, F_i_ScanRows] at *); first | done | ((try generalize zs.getD i.toNat ([], 0, PUnit.unit) = ya at *); (try subst hat); (try generalize R.getD i.toNat ([], 0, PUnit.unit) = xa at *); (try obtain ⟨xa0, xa1, ⟨⟩⟩ := xa); (try dsimp only at *); (try simp only [bhP, decide_eq_true_eq] at *); grind)))) | skip
def con_i_ScanRows : Con := ⟨true, g4 (pD (.pair (.sl (.sl (.int .u8))) (.pair (.sl (.pair (.int .i64) (.pair (.sl (.int .u8)) .unit))) .unit))) (pD (.int .i64)) (pD (.sl (.int .u8))) (pD (.int .i64)) fun d root after n => .one ⟨[Q_i_ScanRows d root after n], [⟨(.pair (.int .i64) (.pair (.sl (.pair (.sl (.int .u8)) (.pair (.int .i64) .unit))) .unit)), (.pr .sh (.pr (.ow (.pr (.ow .sh) (.pr .sh .sh))) .sh)), F_i_ScanRows d root after n⟩], []⟩, [], false, 0⟩
theorem ok_i_ScanRows : ConOk pg 26 con_i_ScanRows := ConOk.g4 (Enters.of (by kernel_rfl)) ct_i_ScanRows

def F_s_ScanRows (d : (List (List (Int))) × (List ((Int) × (List (Int)) × Unit)) × Unit) (root : Int) (after : List (Int)) (n : Int) : (Int) × (List ((List (Int)) × (Int) × Unit)) × Unit := scanRows d root after n
def Q_s_ScanRows (d : (List (List (Int))) × (List ((Int) × (List (Int)) × Unit)) × Unit) (root : Int) (after : List (Int)) (n : Int) : Prop := True
def O_s_ScanRows : Opt := ⟨fun i => false, fun i => [], fun i => .done, fun i => none, fun i => false, fun i => [], fun i => false, fun i => none, fun i => none⟩
def τ_s_ScanRows : Env := Env.of [(2, (.int .i64)), (3, (.int .i64)), (4, .bool), (30, (.pair (.sl (.sl (.int .u8))) (.pair (.sl (.pair (.int .i64) (.pair (.sl (.int .u8)) .unit))) .unit))), (34, (.sl (.int .u8))), (42, (.sl (.pair (.sl (.int .u8)) (.pair (.int .i64) .unit)))), (44, (.pair (.int .i64) (.pair (.sl (.pair (.sl (.int .u8)) (.pair (.int .i64) .unit))) .unit))), (77, (.pair (.sl (.int .i64)) (.pair (.sl (.pair (.sl (.int .u8)) (.pair (.int .i64) .unit))) (.pair (.int .i64) .unit))))] [(80, (.pair (.sl (.sl (.int .u8))) (.pair (.sl (.pair (.int .i64) (.pair (.sl (.int .u8)) .unit))) .unit)))] []

theorem ct_s_ScanRows (d : (List (List (Int))) × (List ((Int) × (List (Int)) × Unit)) × Unit) (root : Int) (after : List (Int)) (n : Int) : Ct pg 25 [.dat (.pair (.sl (.sl (.int .u8))) (.pair (.sl (.pair (.int .i64) (.pair (.sl (.int .u8)) .unit))) .unit)) d, .dat (.int .i64) root, .dat (.sl (.int .u8)) after, .dat (.int .i64) n] ⟨[Q_s_ScanRows d root after n], [⟨(.pair (.int .i64) (.pair (.sl (.pair (.sl (.int .u8)) (.pair (.int .i64) .unit))) .unit)), (.pr .sh (.pr (.ow (.pr (.ow .sh) (.pr .sh .sh))) .sh)), F_s_ScanRows d root after n⟩], []⟩ := by
  refine ct_claim (O := O_s_ScanRows) (τ := τ_s_ScanRows) (EnvOk.of (by kernel_rfl) (by kernel_rfl)) (GOk.of (.cons ok_s_l1In (.cons ok_s_l17All (.cons ok_s_l17Behind .nil)) : AllOk pg [(65, con_s_l1In), (53, con_s_l17All), (66, con_s_l17Behind)])) mixed (Enters.of (by kernel_rfl)) (fn := Go.Proofs.Try.f25) (by kernel_rfl) rfl (by kernel_rfl) ?_
  intro hp hw
  have hq : Q_s_ScanRows d root after n := hp _ (List.mem_singleton.2 rfl)
  clear hp
  change claim Lg.std Alg.std τ_s_ScanRows (Gam.of [(65, con_s_l1In), (53, con_s_l17All), (66, con_s_l17Behind)]) O_s_ScanRows Go.Proofs.Try.f25 [.dat (.pair (.sl (.sl (.int .u8))) (.pair (.sl (.pair (.int .i64) (.pair (.sl (.int .u8)) .unit))) .unit)) d, .dat (.int .i64) root, .dat (.sl (.int .u8)) after, .dat (.int .i64) n] ⟨[Q_s_ScanRows d root after n], [⟨(.pair (.int .i64) (.pair (.sl (.pair (.sl (.int .u8)) (.pair (.int .i64) .unit))) .unit)), (.pr .sh (.pr (.ow (.pr (.ow .sh) (.pr .sh .sh))) .sh)), F_s_ScanRows d root after n⟩], []⟩
  delta con_s_l1In con_s_l17All con_s_l17Behind
  generalize hg_F_s_l1In : F_s_l1In = g_F_s_l1In
  generalize hg_Q_s_l1In : Q_s_l1In = g_Q_s_l1In
  generalize hg_F_s_l17All : F_s_l17All = g_F_s_l17All
  generalize hg_F_s_l17All_1 : F_s_l17All_1 = g_F_s_l17All_1
  generalize hg_Q_s_l17All : Q_s_l17All = g_Q_s_l17All
  generalize hg_F_s_l17Behind : F_s_l17Behind = g_F_s_l17Behind
  generalize hg_Q_s_l17Behind : Q_s_l17Behind = g_Q_s_l17Behind
  generalize hR0 : F_s_ScanRows d root after n = R0
  generalize Q_s_ScanRows d root after n = Q0
  generalize hL : Lg.std = L
  generalize hA : Alg.std = A
  cbv
  subst hL hA
  try dsimp only [Ty.den]
  obtain ⟨d_0, d_1, ⟨⟩⟩ := d
  subst hR0 hg_F_s_l1In hg_Q_s_l1In hg_F_s_l17All hg_F_s_l17All_1 hg_Q_s_l17All hg_F_s_l17Behind hg_Q_s_l17Behind
  simp only [Lg.std, Alg.std, List.drop_zero, List.take_length, F_s_l1In, F_s_l17All, F_s_l17Behind, F_s_l17All_1, Q_s_l1In, Q_s_l17All, Q_s_l17Behind, F_s_ScanRows, getRow, rowsIn, scanRows] at *
  have h0 := treeSA_code (d_0, d_1, PUnit.unit) root
  have h1 := treeSA_rows (d_0, d_1, PUnit.unit) root
  have h2 := rows_cnt (d_0, d_1, PUnit.unit) root
  have h4 : ∀ w : WkT, (sortW w).2.1 = w.2.1 := fun _ => rfl
  generalize treeSA (d_0, d_1, PUnit.unit) root = tS at *
  generalize treeAll (d_0, d_1, PUnit.unit) root = tA at *
  obtain ⟨⟨s1, s2, s3, ⟨⟩⟩, s4⟩ := tS
  obtain ⟨t1, t2, t3, t4, ⟨⟩⟩ := tA
  have h5 : sortW (t2, t3, t4, PUnit.unit) = (sortI t2, t3, t4, PUnit.unit) := rfl
  simp only [h5, Prod.mk.injEq] at *
  try simp only [true_and, and_true, false_implies, implies_true, imp_self]
  repeat' (first | intro _ | apply And.intro)
  all_goals first | grind | grind [List.getD_eq_getElem?_getD]
def con_s_ScanRows : Con := ⟨true, g4 (pD (.pair (.sl (.sl (.int .u8))) (.pair (.sl (.pair (.int .i64) (.pair (.sl (.int .u8)) .unit))) .unit))) (pD (.int .i64)) (pD (.sl (.int .u8))) (pD (.int .i64)) fun d root after n => .one ⟨[Q_s_ScanRows d root after n], [⟨(.pair (.int .i64) (.pair (.sl (.pair (.sl (.int .u8)) (.pair (.int .i64) .unit))) .unit)), (.pr .sh (.pr (.ow (.pr (.ow .sh) (.pr .sh .sh))) .sh)), F_s_ScanRows d root after n⟩], []⟩, [], false, 0⟩
theorem ok_s_ScanRows : ConOk pg 25 con_s_ScanRows := ConOk.g4 (Enters.of (by kernel_rfl)) ct_s_ScanRows

def F_w_FnExactScanRows (d : (List (List (Int))) × (List ((Int) × (List (Int)) × Unit)) × Unit) (root : Int) (after : List (Int)) (n : Int) : Bool := true
def Q_w_FnExactScanRows (d : (List (List (Int))) × (List ((Int) × (List (Int)) × Unit)) × Unit) (root : Int) (after : List (Int)) (n : Int) : Prop := True
def O_w_FnExactScanRows : Opt := ⟨fun i => false, fun i => [], fun i => (match decide (i = 13) with | true => (.alt 0 (.alt 1 (.alt 2 (.alt 3 (.take 4 .done) .no) .no) .no) (.alt 1 (.alt 0 (.alt 2 (.alt 3 (.take 4 .done) .no) .no) (.alt 2 (.take 0 (.alt 3 (.take 4 .done) .no)) .no)) .no)) | false => .done), fun i => (match decide (i = 13) with | true => some [false, true, true, true, true, false, false, false, false, false, true, true, true, true, false, false, false, false, false, false, false, false, false, false, false, false, false, false, false, false, false, false, false, false, false, false, false, false, false, false, false, false, false, false, false, false, false, false, false, false, true, false, false, false, false, false, false, false, false, false, false, false, false, false, false, false, false, false, false, false, false, false, false, false, false, false, false, false, false, false, false, false, false, false, false, false, false, false, false, false, false, false, false, false, false, false, false, false, false, false] | false => none), fun i => false, fun i => [], fun i => false, fun i => none, fun i => none⟩
def τ_w_FnExactScanRows : Env := Env.of [(2, (.int .i64)), (3, (.int .i64)), (4, .bool), (25, (.pair (.sl (.sl (.int .u8))) (.pair (.sl (.pair (.int .i64) (.pair (.sl (.int .u8)) .unit))) .unit))), (30, (.pair (.sl (.sl (.int .u8))) (.pair (.sl (.pair (.int .i64) (.pair (.sl (.int .u8)) .unit))) .unit))), (34, (.sl (.int .u8))), (44, (.pair (.int .i64) (.pair (.sl (.pair (.sl (.int .u8)) (.pair (.int .i64) .unit))) .unit)))] [] []

theorem ct_w_FnExactScanRows (d : (List (List (Int))) × (List ((Int) × (List (Int)) × Unit)) × Unit) (root : Int) (after : List (Int)) (n : Int) : Ct pg 6 [.dat (.pair (.sl (.sl (.int .u8))) (.pair (.sl (.pair (.int .i64) (.pair (.sl (.int .u8)) .unit))) .unit)) d, .dat (.int .i64) root, .dat (.sl (.int .u8)) after, .dat (.int .i64) n] ⟨[Q_w_FnExactScanRows d root after n], [⟨.bool, .sh, F_w_FnExactScanRows d root after n⟩], []⟩ := by
  refine ct_claim (O := O_w_FnExactScanRows) (τ := τ_w_FnExactScanRows) (EnvOk.of (by kernel_rfl) (by kernel_rfl)) (GOk.of (.cons ok_w_toByteS (.cons ok_w_eqByteS (.cons ok_w_markByteS (.cons ok_w_toDisk (.cons ok_w_eqDisk (.cons ok_w_szDisk (.cons ok_w_markDisk (.cons ok_w_eqRowsResult (.cons ok_w_markRowsResult (.cons ok_w_heldRowsResult (.cons ok_i_ScanRows (.cons ok_s_ScanRows .nil))))))))))) : AllOk pg [(15, con_w_toByteS), (18, con_w_eqByteS), (27, con_w_markByteS), (11, con_w_toDisk), (13, con_w_eqDisk), (9, con_w_szDisk), (22, con_w_markDisk), (21, con_w_eqRowsResult), (23, con_w_markRowsResult), (24, con_w_heldRowsResult), (26, con_i_ScanRows), (25, con_s_ScanRows)])) mixed (Enters.of (by kernel_rfl)) (fn := Go.Proofs.Try.f6) (by kernel_rfl) rfl (by kernel_rfl) ?_
  intro hp hw
  have hq : Q_w_FnExactScanRows d root after n := hp _ (List.mem_singleton.2 rfl)
  clear hp
  change claim Lg.std Alg.std τ_w_FnExactScanRows (Gam.of [(15, con_w_toByteS), (18, con_w_eqByteS), (27, con_w_markByteS), (11, con_w_toDisk), (13, con_w_eqDisk), (9, con_w_szDisk), (22, con_w_markDisk), (21, con_w_eqRowsResult), (23, con_w_markRowsResult), (24, con_w_heldRowsResult), (26, con_i_ScanRows), (25, con_s_ScanRows)]) O_w_FnExactScanRows Go.Proofs.Try.f6 [.dat (.pair (.sl (.sl (.int .u8))) (.pair (.sl (.pair (.int .i64) (.pair (.sl (.int .u8)) .unit))) .unit)) d, .dat (.int .i64) root, .dat (.sl (.int .u8)) after, .dat (.int .i64) n] ⟨[Q_w_FnExactScanRows d root after n], [⟨.bool, .sh, F_w_FnExactScanRows d root after n⟩], []⟩
  delta con_w_toByteS con_w_eqByteS con_w_markByteS con_w_toDisk con_w_eqDisk con_w_szDisk con_w_markDisk con_w_eqRowsResult con_w_markRowsResult con_w_heldRowsResult con_i_ScanRows con_s_ScanRows
  generalize hg_F_w_toByteS : F_w_toByteS = g_F_w_toByteS
  generalize hg_Q_w_toByteS : Q_w_toByteS = g_Q_w_toByteS
  generalize hg_F_w_eqByteS : F_w_eqByteS = g_F_w_eqByteS
  generalize hg_Q_w_eqByteS : Q_w_eqByteS = g_Q_w_eqByteS
  generalize hg_F_w_markByteS : F_w_markByteS = g_F_w_markByteS
  generalize hg_B_w_markByteS_a : B_w_markByteS_a = g_B_w_markByteS_a
  generalize hg_Q_w_markByteS : Q_w_markByteS = g_Q_w_markByteS
  generalize hg_F_w_toDisk : F_w_toDisk = g_F_w_toDisk
  generalize hg_Q_w_toDisk : Q_w_toDisk = g_Q_w_toDisk
  generalize hg_F_w_eqDisk : F_w_eqDisk = g_F_w_eqDisk
  generalize hg_Q_w_eqDisk : Q_w_eqDisk = g_Q_w_eqDisk
  generalize hg_F_w_szDisk : F_w_szDisk = g_F_w_szDisk
  generalize hg_Q_w_szDisk : Q_w_szDisk = g_Q_w_szDisk
  generalize hg_F_w_markDisk : F_w_markDisk = g_F_w_markDisk
  generalize hg_B_w_markDisk_a : B_w_markDisk_a = g_B_w_markDisk_a
  generalize hg_Q_w_markDisk : Q_w_markDisk = g_Q_w_markDisk
  generalize hg_F_w_eqRowsResult : F_w_eqRowsResult = g_F_w_eqRowsResult
  generalize hg_Q_w_eqRowsResult : Q_w_eqRowsResult = g_Q_w_eqRowsResult
  generalize hg_F_w_markRowsResult : F_w_markRowsResult = g_F_w_markRowsResult
  generalize hg_B_w_markRowsResult_a : B_w_markRowsResult_a = g_B_w_markRowsResult_a
  generalize hg_Q_w_markRowsResult : Q_w_markRowsResult = g_Q_w_markRowsResult
  generalize hg_F_w_heldRowsResult : F_w_heldRowsResult = g_F_w_heldRowsResult
  generalize hg_Q_w_heldRowsResult : Q_w_heldRowsResult = g_Q_w_heldRowsResult
  generalize hg_F_i_ScanRows : F_i_ScanRows = g_F_i_ScanRows
  generalize hg_Q_i_ScanRows : Q_i_ScanRows = g_Q_i_ScanRows
  generalize hg_F_s_ScanRows : F_s_ScanRows = g_F_s_ScanRows
  generalize hg_Q_s_ScanRows : Q_s_ScanRows = g_Q_s_ScanRows
  generalize hR0 : F_w_FnExactScanRows d root after n = R0
  generalize Q_w_FnExactScanRows d root after n = Q0
  generalize hL : Lg.std = L
  generalize hA : Alg.std = A
  cbv
  subst hL hA
  try dsimp only [Ty.den]
  obtain ⟨d_0, d_1, ⟨⟩⟩ := d
  have hct_d := cnt_tot (.pair (.sl (.sl (.int .u8))) (.pair (.sl (.pair (.int .i64) (.pair (.sl (.int .u8)) .unit))) .unit)) (d_0, d_1, PUnit.unit) (by decide)
  have hct_after := cnt_tot (.sl (.int .u8)) after (by decide)
  have hcn := scanRows_cnt (d_0, d_1, PUnit.unit) root after n
  have hta := tot_int .u8 after
  have hc0 : cnt false (.pair (.int .i64) (.pair (.sl (.pair (.sl (.int .u8)) (.pair (.int .i64) .unit))) .unit)) (scanRows (d_0, d_1, PUnit.unit) root after n) ≤ 4216 := by
    simp only [szf, tot_p, tot_u, tot_i, tot_b, tot_s, cnt_p, cnt_u, cnt_i0, cnt_b0, cnt_s0, cnt_i1, cnt_b1, cnt_s1, cnt_l, mk_p, mk_u, mk_i0, mk_b0, mk_s0, mk_i1, mk_s1, mk_l, hd_p, hd_u, hd_i0, hd_b0, hd_s0, hd_i1, hd_b1, hd_s1, hd_l]
    omega
  subst hR0 hg_F_w_toByteS hg_Q_w_toByteS hg_F_w_eqByteS hg_Q_w_eqByteS hg_F_w_markByteS hg_B_w_markByteS_a hg_Q_w_markByteS hg_F_w_toDisk hg_Q_w_toDisk hg_F_w_eqDisk hg_Q_w_eqDisk hg_F_w_szDisk hg_Q_w_szDisk hg_F_w_markDisk hg_B_w_markDisk_a hg_Q_w_markDisk hg_F_w_eqRowsResult hg_Q_w_eqRowsResult hg_F_w_markRowsResult hg_B_w_markRowsResult_a hg_Q_w_markRowsResult hg_F_w_heldRowsResult hg_Q_w_heldRowsResult hg_F_i_ScanRows hg_Q_i_ScanRows hg_F_s_ScanRows hg_Q_s_ScanRows
  simp only [Lg.std, Alg.std, List.drop_zero, List.take_length, F_w_toByteS, F_w_eqByteS, F_w_markByteS, F_w_toDisk, F_w_eqDisk, F_w_szDisk, F_w_markDisk, F_w_eqRowsResult, F_w_markRowsResult, F_w_heldRowsResult, F_i_ScanRows, F_s_ScanRows, B_w_markByteS_a, B_w_markDisk_a, B_w_markRowsResult_a, Q_w_toByteS, Q_w_eqByteS, Q_w_markByteS, Q_w_toDisk, Q_w_eqDisk, Q_w_szDisk, Q_w_markDisk, Q_w_eqRowsResult, Q_w_markRowsResult, Q_w_heldRowsResult, Q_i_ScanRows, Q_s_ScanRows, F_w_FnExactScanRows]
  generalize hW : (scanRows (d_0, d_1, PUnit.unit) root after n : (Int) × (List ((List (Int)) × (Int) × Unit)) × Unit) = w at *
  clear hW
  obtain ⟨w_0, w_1, ⟨⟩⟩ := w
  try dsimp only at *
  have hm := hd_mk false (.pair (.int .i64) (.pair (.sl (.pair (.sl (.int .u8)) (.pair (.int .i64) .unit))) .unit)) (w_0, w_1, PUnit.unit) 1 (by omega)

  have mt_w_1 := fun k => mk_take false (.pair (.sl (.int .u8)) (.pair (.int .i64) .unit)) w_1 k
  dsimp only [Ty.den] at mt_w_1
  simp only [tot_p, tot_u, tot_i, tot_b, tot_s, cnt_p, cnt_u, cnt_i0, cnt_b0, cnt_s0, cnt_i1, cnt_b1, cnt_s1, cnt_l, mk_p, mk_u, mk_i0, mk_b0, mk_s0, mk_i1, mk_s1, mk_l, hd_p, hd_u, hd_i0, hd_b0, hd_s0, hd_i1, hd_b1, hd_s1, hd_l, mt_w_1] at *
  repeat' (first | intro _ | apply And.intro)
  all_goals grind [szf, cnt_mk, hd_mk]
def con_w_FnExactScanRows : Con := ⟨true, g4 (pD (.pair (.sl (.sl (.int .u8))) (.pair (.sl (.pair (.int .i64) (.pair (.sl (.int .u8)) .unit))) .unit))) (pD (.int .i64)) (pD (.sl (.int .u8))) (pD (.int .i64)) fun d root after n => .one ⟨[Q_w_FnExactScanRows d root after n], [⟨.bool, .sh, F_w_FnExactScanRows d root after n⟩], []⟩, [], false, 0⟩
theorem ok_w_FnExactScanRows : ConOk pg 6 con_w_FnExactScanRows := ConOk.g4 (Enters.of (by kernel_rfl)) ct_w_FnExactScanRows
end Go.Vee
