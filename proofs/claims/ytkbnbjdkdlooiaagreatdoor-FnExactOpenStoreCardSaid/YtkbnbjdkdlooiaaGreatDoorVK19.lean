/-
  Contracts of functions of the program: what each returns for all arguments that its precondition lets in.
-/
import Derived.Test.YtkbnbjdkdlooiaaGreatDoorVK18
set_option linter.unusedSimpArgs false
set_option linter.unusedVariables false
set_option maxRecDepth 100000
set_option maxHeartbeats 4000000
set_option synthInstance.maxHeartbeats 4000000
set_option synthInstance.maxSize 20000000
namespace Go.Vee
open Go
theorem readSuper_ok (d : List Int) : (readSuper d).2.1 = zSuper ∧ (readSuper d).1 ≠ 0 ∨ superFault (readSuper d).2.1 = 0 ∧ (readSuper d).1 = 0 := by
  unfold readSuper
  split
  · exact .inl ⟨rfl, by decide⟩
  · unfold l18Read
    split
    · rename_i h; exact .inl ⟨rfl, h⟩
    · split
      · exact .inl ⟨rfl, by decide⟩
      · rename_i h
        simp only [not_or, Decidable.not_not] at h
        exact .inr ⟨h.2.2.1, rfl⟩
def lensOk (p : SuperT) : Prop := p.2.2.2.2.2.2.2.1.length ≤ 16 ∧ p.2.2.2.2.2.2.2.2.1.1.length ≤ 6 ∧ 0 ≤ p.1 ∧ p.1 ≤ 60000
theorem zSuper_lens : lensOk zSuper := by unfold lensOk; simp
theorem super_lens (p : SuperT) (h : superFault p = 0) : lensOk p := by
  have g := super_good p h
  have := (sig_good _ g.2.2.2.2.2.2.2).1
  unfold lensOk
  omega
theorem readSuper_lens (d : List Int) : lensOk (readSuper d).2.1 := by
  rcases readSuper_ok d with h | h
  · rw [h.1]; exact zSuper_lens
  · exact super_lens _ h.1
theorem super_cnt (r : Int × SuperT × Unit) (h : lensOk r.2.1) : cnt false (.pair (.int .i64) (.pair (.pair (.int .i64) (.pair (.int .i64) (.pair (.int .i64) (.pair (.int .i64) (.pair (.int .i64) (.pair (.int .i64) (.pair .bool (.pair (.sl (.int .u8)) (.pair (.pair (.sl (.pair .str (.pair (.int .i64) .unit))) .unit) .unit))))))))) .unit)) r ≤ 100 := by
  have e : cnt false (.pair (.int .i64) (.pair (.pair (.int .i64) (.pair (.int .i64) (.pair (.int .i64) (.pair (.int .i64) (.pair (.int .i64) (.pair (.int .i64) (.pair .bool (.pair (.sl (.int .u8)) (.pair (.pair (.sl (.pair .str (.pair (.int .i64) .unit))) .unit) .unit))))))))) .unit)) r = cnt false (.sl (.int .u8)) r.2.1.2.2.2.2.2.2.2.1 + cnt false (.sl (.pair .str (.pair (.int .i64) .unit))) r.2.1.2.2.2.2.2.2.2.2.1.1 := by simp [cnt]
  have h1 := cnt_syms r.2.1.2.2.2.2.2.2.2.2.1.1
  have h2 := cnt_int false .u8 r.2.1.2.2.2.2.2.2.2.1
  unfold lensOk at h
  rw [e, h1, h2]; omega
def opTake (i : Int) (s : List Int) (b : SuperT) : SuperT := if (readSuper s).1 = 0 ∧ (readSuper s).2.1.1 % 2 = i ∧ (readSuper s).2.1.1 > b.1 then (readSuper s).2.1 else b
def opBest (d : DiskT) : SuperT := opTake 1 (d.1.getD 1 []) (opTake 0 (d.1.getD 0 []) zSuper)
def openD (d : DiskT) : SuperT × Int := if d.2.1.length > 0 then (zSuper, 8) else if (opBest d).1 = 0 then (zSuper, 4) else (opBest d, 0)
def openStore (d : DiskT) : Int × SuperT × Unit := if diskFault d ≠ 0 then (diskFault d, zSuper, ()) else ((openD d).2, (openD d).1, ())
def bestOk (b : SuperT) : Prop := lensOk b ∧ (b.1 = 0 → b = zSuper)
theorem take_ok (i : Int) (s : List Int) (b : SuperT) (h : bestOk b) : bestOk (opTake i s b) := by
  unfold opTake
  split
  · rename_i hh
    refine ⟨readSuper_lens s, fun h0 => ?_⟩
    have := h.1
    unfold lensOk at this
    omega
  · exact h
theorem opBest_ok (d : DiskT) : bestOk (opBest d) := take_ok _ _ _ (take_ok _ _ _ ⟨zSuper_lens, fun _ => rfl⟩)
theorem openStore_cnt (d : DiskT) : cnt false (.pair (.int .i64) (.pair (.pair (.int .i64) (.pair (.int .i64) (.pair (.int .i64) (.pair (.int .i64) (.pair (.int .i64) (.pair (.int .i64) (.pair .bool (.pair (.sl (.int .u8)) (.pair (.pair (.sl (.pair .str (.pair (.int .i64) .unit))) .unit) .unit))))))))) .unit)) (openStore d) ≤ 100 := by
  refine super_cnt _ ?_
  unfold openStore openD
  split
  · exact zSuper_lens
  split
  · exact zSuper_lens
  split
  · exact zSuper_lens
  · exact (opBest_ok d).1
theorem mod_pos (x : Int) (h : 0 ≤ x) : Int.tmod x 2 = x % 2 := Int.tmod_eq_emod_of_nonneg h


def F_s_l18Open (d : (List (List (Int))) × (List ((Int) × (List (Int)) × Unit)) × Unit) : (Int) × (Int) × (Int) × (Int) × (Int) × (Int) × (Bool) × (List (Int)) × ((List ((List Int) × (Int) × Unit)) × Unit) × Unit := (openD d).1
def F_s_l18Open_1 (d : (List (List (Int))) × (List ((Int) × (List (Int)) × Unit)) × Unit) : Int := (openD d).2
def Q_s_l18Open (d : (List (List (Int))) × (List ((Int) × (List (Int)) × Unit)) × Unit) : Prop := GoodW d 64
def O_s_l18Open : Opt := ⟨fun i => false, fun i => (match decide (i = 5) with | true => [true, false, true, false, true, true, false, false, false, false, false, false, false, false, false, false, false, false, false, false, false, false, false, false, false, false, false, false, false, false, false, false, false, false, false, false, false, false, false, false, false, false, false, false, false, false, false, false, false, false, false, false, false] | false => []), fun i => .done, fun i => none, fun i => (match decide (i = 5) with | true => true | false => false), fun i => (match decide (i = 5) with | true => [(4, some 7, (.int .u8), .sh), (4, some 8, (.pair .str (.pair (.int .i64) .unit)), (.pr .sh (.pr .sh .sh)))] | false => []), fun i => false, fun i => none⟩
def τ_s_l18Open : Env := Env.of [(2, (.int .i64)), (3, (.int .i64)), (4, .bool), (22, (.sl (.sl (.int .u8)))), (27, (.sl (.int .u8))), (32, (.pair (.int .i64) (.pair (.int .i64) (.pair (.int .i64) (.pair (.int .i64) (.pair (.int .i64) (.pair (.int .i64) (.pair .bool (.pair (.sl (.int .u8)) (.pair (.pair (.sl (.pair .str (.pair (.int .i64) .unit))) .unit) .unit)))))))))), (36, (.sl (.pair (.int .i64) (.pair (.sl (.int .u8)) .unit)))), (38, (.pair (.sl (.sl (.int .u8))) (.pair (.sl (.pair (.int .i64) (.pair (.sl (.int .u8)) .unit))) .unit)))] [(102, (.pair (.sl (.sl (.int .u8))) (.pair (.sl (.pair (.int .i64) (.pair (.sl (.int .u8)) .unit))) .unit)))] []

theorem ct_s_l18Open (d : (List (List (Int))) × (List ((Int) × (List (Int)) × Unit)) × Unit) : Ct pg 55 [.dptr (.pair (.sl (.sl (.int .u8))) (.pair (.sl (.pair (.int .i64) (.pair (.sl (.int .u8)) .unit))) .unit)) d] ⟨[Q_s_l18Open d], [⟨(.pair (.int .i64) (.pair (.int .i64) (.pair (.int .i64) (.pair (.int .i64) (.pair (.int .i64) (.pair (.int .i64) (.pair .bool (.pair (.sl (.int .u8)) (.pair (.pair (.sl (.pair .str (.pair (.int .i64) .unit))) .unit) .unit))))))))), (.pr .sh (.pr .sh (.pr .sh (.pr .sh (.pr .sh (.pr .sh (.pr .sh (.pr (.ow .sh) (.pr (.pr (.ow (.pr .sh (.pr .sh .sh))) .sh) .sh))))))))), F_s_l18Open d⟩, ⟨(.int .i64), .sh, F_s_l18Open_1 d⟩], []⟩ := by
  refine ct_claim (O := O_s_l18Open) (τ := τ_s_l18Open) (EnvOk.of (by kernel_rfl) (by kernel_rfl)) (GOk.of (.cons ok_s_l18Read .nil : AllOk pg [(110, con_s_l18Read)])) mixed (Enters.of (by kernel_rfl)) (fn := Go.Proofs.Tryz.f55) (by kernel_rfl) rfl (by kernel_rfl) ?_
  intro hp hw
  have hq : Q_s_l18Open d := hp _ (List.mem_singleton.2 rfl)
  clear hp
  change claim Lg.std Alg.std τ_s_l18Open (Gam.of [(110, ⟨true, g1 (pD (.sl (.int .u8))) fun data => .one ⟨[Q_s_l18Read data], [⟨(.pair (.int .i64) (.pair (.int .i64) (.pair (.int .i64) (.pair (.int .i64) (.pair (.int .i64) (.pair (.int .i64) (.pair .bool (.pair (.sl (.int .u8)) (.pair (.pair (.sl (.pair .str (.pair (.int .i64) .unit))) .unit) .unit))))))))), (.pr .sh (.pr .sh (.pr .sh (.pr .sh (.pr .sh (.pr .sh (.pr .sh (.pr (.ow .sh) (.pr (.pr (.ow (.pr .sh (.pr .sh .sh))) .sh) .sh))))))))), F_s_l18Read data⟩, ⟨(.int .i64), .sh, F_s_l18Read_1 data⟩], []⟩, [], false, 0⟩)]) O_s_l18Open Go.Proofs.Tryz.f55 [.dptr (.pair (.sl (.sl (.int .u8))) (.pair (.sl (.pair (.int .i64) (.pair (.sl (.int .u8)) .unit))) .unit)) d] ⟨[Q_s_l18Open d], [⟨(.pair (.int .i64) (.pair (.int .i64) (.pair (.int .i64) (.pair (.int .i64) (.pair (.int .i64) (.pair (.int .i64) (.pair .bool (.pair (.sl (.int .u8)) (.pair (.pair (.sl (.pair .str (.pair (.int .i64) .unit))) .unit) .unit))))))))), (.pr .sh (.pr .sh (.pr .sh (.pr .sh (.pr .sh (.pr .sh (.pr .sh (.pr (.ow .sh) (.pr (.pr (.ow (.pr .sh (.pr .sh .sh))) .sh) .sh))))))))), F_s_l18Open d⟩, ⟨(.int .i64), .sh, F_s_l18Open_1 d⟩], []⟩
  generalize hg_F_s_l18Read : F_s_l18Read = g_F_s_l18Read
  generalize hg_F_s_l18Read_1 : F_s_l18Read_1 = g_F_s_l18Read_1
  generalize hg_Q_s_l18Read : Q_s_l18Read = g_Q_s_l18Read
  generalize hR0 : F_s_l18Open d = R0
  generalize hR1 : F_s_l18Open_1 d = R1
  generalize Q_s_l18Open d = Q0
  generalize hL : Lg.std = L
  generalize hA : Alg.std = A
  cbv
  subst hL hA
  try dsimp only [Ty.den]
  obtain ⟨d_0, d_1, ⟨⟩⟩ := d
  simp only [Q_s_l18Open] at hq
  have hgw := hq
  have hop : openD (d_0, d_1, ()) = if d_1.length > 0 then (zSuper, 8) else if (opBest (d_0, d_1, ())).1 = 0 then (zSuper, 4) else (opBest (d_0, d_1, ()), 0) := rfl
  repeat' (first | intro _ | apply And.intro)
  all_goals first | trivial | ((fail_if_success (refine lp_v (V := Unit) (fun _ => ⟨[], []⟩) (fun _ => True) (fun _ => 0) () ?_ ?_ ?_)); subst hR0 hR1 hg_F_s_l18Read hg_F_s_l18Read_1 hg_Q_s_l18Read; (try simp only [Alg.std, F_s_l18Read, F_s_l18Read_1, Q_s_l18Read, F_s_l18Open, F_s_l18Open_1] at *); all_goals grind [openD]) | skip
  all_goals (
    refine lp_v (V := (Int) × (Int) × (Int) × (Int) × (Int) × (Int) × (Int) × (Bool) × (Nat) × (List Int) × (Nat) × (List ((List Int) × (Int) × Unit))) (fun ((i, g, a, b, e, n, v, m, N, cur, M, L) : (Int) × (Int) × (Int) × (Int) × (Int) × (Int) × (Int) × (Bool) × (Nat) × (List Int) × (Nat) × (List ((List Int) × (Int) × Unit))) => ⟨[.dptr (.pair (.sl (.sl (.int .u8))) (.pair (.sl (.pair (.int .i64) (.pair (.sl (.int .u8)) .unit))) .unit)) (d_0, d_1, PUnit.unit), .junk, .bptr 0 0, .junk, .bptr 1 0, .dat (.int .i64) i, .junk, .junk, .junk, .junk, .junk, .junk, .junk, .junk, .junk, .junk, .junk, .junk, .junk, .junk, .junk, .junk, .junk, .junk, .junk, .junk, .junk, .junk, .junk, .junk, .junk, .junk, .junk, .junk, .junk, .junk, .junk, .junk, .junk, .junk, .junk, .junk, .junk, .junk, .junk, .junk, .junk, .junk, .junk, .junk, .junk, .junk, .junk], [some (.box [.dat (.int .i64) 0, .dat (.int .i64) 0, .dat (.int .i64) 0, .dat (.int .i64) 0, .dat (.int .i64) 0, .dat (.int .i64) 0, .dat .bool false, .nilS, .nilS]), some (.box [.dat (.int .i64) g, .dat (.int .i64) a, .dat (.int .i64) b, .dat (.int .i64) e, .dat (.int .i64) n, .dat (.int .i64) v, .dat .bool m, .ref (.int .u8) 2 0 [] 0 N, .ref (.pair .str (.pair (.int .i64) .unit)) 3 0 [] 0 M]), some (.row 0 (.int .u8) .sh cur), some (.row 0 (.pair .str (.pair (.int .i64) .unit)) (.pr .sh (.pr .sh .sh)) L)]⟩) (fun ((i, g, a, b, e, n, v, m, N, cur, M, L) : (Int) × (Int) × (Int) × (Int) × (Int) × (Int) × (Int) × (Bool) × (Nat) × (List Int) × (Nat) × (List ((List Int) × (Int) × Unit))) => 0 ≤ i ∧ i ≤ 2 ∧ N = cur.length ∧ M = L.length ∧ bestOk (g, a, b, e, n, v, m, cur, (L, ()), ()) ∧ opBest (d_0, d_1, ()) = (if i = 0 then opTake 1 (d_0.getD 1 []) (opTake 0 (d_0.getD 0 []) (g, a, b, e, n, v, m, cur, (L, ()), ())) else if i = 1 then opTake 1 (d_0.getD 1 []) (g, a, b, e, n, v, m, cur, (L, ()), ()) else (g, a, b, e, n, v, m, cur, (L, ()), ()))) (fun ((i, g, a, b, e, n, v, m, N, cur, M, L) : (Int) × (Int) × (Int) × (Int) × (Int) × (Int) × (Int) × (Bool) × (Nat) × (List Int) × (Nat) × (List ((List Int) × (Int) × Unit))) => (2 - i).toNat) (0, _, _, _, _, _, _, _, _, _, _, _) rfl ?_ ?_
    · (subst hR0 hR1 hg_F_s_l18Read hg_F_s_l18Read_1 hg_Q_s_l18Read; simp only [Alg.std, F_s_l18Read, F_s_l18Read_1, Q_s_l18Read, F_s_l18Open, F_s_l18Open_1] at *; refine ⟨by decide, by decide, rfl, rfl, ⟨zSuper_lens, fun _ => rfl⟩, rfl⟩)
    rintro ⟨i, g, a, b, e, n, v, m, N, cur, M, L⟩ hf I hI
    replace hf : 0 ≤ i ∧ i ≤ 2 ∧ N = cur.length ∧ M = L.length ∧ bestOk (g, a, b, e, n, v, m, cur, (L, ()), ()) ∧ opBest (d_0, d_1, ()) = (if i = 0 then opTake 1 (d_0.getD 1 []) (opTake 0 (d_0.getD 0 []) (g, a, b, e, n, v, m, cur, (L, ()), ())) else if i = 1 then opTake 1 (d_0.getD 1 []) (g, a, b, e, n, v, m, cur, (L, ()), ()) else (g, a, b, e, n, v, m, cur, (L, ()), ())) := hf
    generalize hL : Lg.std = L
    generalize hA : Alg.std = A
    cbv
    subst hL hA
    try dsimp only [Ty.den]
    subst hI
    have hi := hf.1
    have hi2 := hf.2.1
    rcases (by omega : i = 0 ∨ i = 1 ∨ i = 2) with rfl | rfl | rfl
    all_goals (
      obtain ⟨h1, h2, h3, h4, h5, h6⟩ := hf
      have hl0 := hgw.2.1 0 (Nat.lt_of_lt_of_le (by decide) hgw.1.1)
      have hl1 := hgw.2.1 1 (Nat.lt_of_lt_of_le (by decide) hgw.1.1)
      have hn8 := hgw.1
      have ht : ∀ (k : Int) (s : List Int), opTake k s (g, a, b, e, n, v, m, cur, (L, ()), ()) = if (readSuper s).1 = 0 ∧ (readSuper s).2.1.1 % 2 = k ∧ (readSuper s).2.1.1 > g then (readSuper s).2.1 else (g, a, b, e, n, v, m, cur, (L, ()), ()) := fun _ _ => rfl
      have hk0 := take_ok 0 (d_0.getD 0 []) _ h5
      have hk1 := take_ok 1 (d_0.getD 1 []) _ h5
      have hz := h5.2
      have hg0 : 0 ≤ g := h5.1.2.2.1
      have hr0 : readSuper (d_0.getD 0 []) = ((l18Read (d_0.getD 0 [])).2, (l18Read (d_0.getD 0 [])).1, ()) := if_neg (fun k => k hl0)
      have hr1 : readSuper (d_0.getD 1 []) = ((l18Read (d_0.getD 1 [])).2, (l18Read (d_0.getD 1 [])).1, ()) := if_neg (fun k => k hl1)
      have hq0 := (readSuper_lens (d_0.getD 0 [])).2.2
      have hq1 := (readSuper_lens (d_0.getD 1 [])).2.2
      have tm := mod_pos
      dsimp only at hl0 hl1 hn8 hz hq0 hq1
      repeat' (first | intro _ | apply And.intro)
      all_goals first | (with_reducible exact True.intro) | ((fail_if_success (refine lp_v (V := Unit) (fun _ => ⟨[], []⟩) (fun _ => True) (fun _ => 0) () ?_ ?_ ?_)); (try simp only [Lg.std, Alg.std, List.drop_zero, List.take_length, decide_eq_true_eq, decide_eq_false_iff_not, Bool.not_eq_eq_eq_not, Bool.not_true, Bool.not_false] at *); (try refine ⟨(_, _, _, _, _, _, _, _, _, _, _, _), rfl, ?_, ?_⟩); (all_goals (subst hR0 hR1 hg_F_s_l18Read hg_F_s_l18Read_1 hg_Q_s_l18Read; (try simp only [Lg.std, Alg.std, List.drop_zero, List.take_length, F_s_l18Read, F_s_l18Read_1, Q_s_l18Read, F_s_l18Open, F_s_l18Open_1] at *); first | done | ((try simp only [Int.toNat_zero, Int.toNat_one, Int.reduceToNat] at *); (try simp only [decide_eq_true_eq, decide_eq_false_iff_not] at *); (try rw [hr0] at hq0); (try rw [hr1] at hq1); (try rw [hr0] at h6); (try rw [hr1] at h6); (try rw [ht, hr0] at hk0); (try rw [ht, hr1] at hk1); (try simp only [ht, hr0, hr1] at h6); generalize l18Read (d_0.getD 0 []) = x at *; obtain ⟨⟨g2, a2, b2, e2, n2, v2, m2, cur2, ⟨L2, ⟨⟩⟩, ⟨⟩⟩, c2⟩ := x; generalize l18Read (d_0.getD 1 []) = y at *; obtain ⟨⟨g3, a3, b3, e3, n3, v3, m3, cur3, ⟨L3, ⟨⟩⟩, ⟨⟩⟩, c3⟩ := y; (try dsimp only at *); grind [openStore, openD, opBest])))) | skip))
def con_s_l18Open : Con := ⟨true, g1 (pP (.pair (.sl (.sl (.int .u8))) (.pair (.sl (.pair (.int .i64) (.pair (.sl (.int .u8)) .unit))) .unit))) fun d => .one ⟨[Q_s_l18Open d], [⟨(.pair (.int .i64) (.pair (.int .i64) (.pair (.int .i64) (.pair (.int .i64) (.pair (.int .i64) (.pair (.int .i64) (.pair .bool (.pair (.sl (.int .u8)) (.pair (.pair (.sl (.pair .str (.pair (.int .i64) .unit))) .unit) .unit))))))))), (.pr .sh (.pr .sh (.pr .sh (.pr .sh (.pr .sh (.pr .sh (.pr .sh (.pr (.ow .sh) (.pr (.pr (.ow (.pr .sh (.pr .sh .sh))) .sh) .sh))))))))), F_s_l18Open d⟩, ⟨(.int .i64), .sh, F_s_l18Open_1 d⟩], []⟩, [], false, 0⟩
theorem ok_s_l18Open : ConOk pg 55 con_s_l18Open := ConOk.g1 (Enters.of (by kernel_rfl)) ct_s_l18Open

def F_i_OpenStore (d : (List (List (Int))) × (List ((Int) × (List (Int)) × Unit)) × Unit) : (Int) × ((Int) × (Int) × (Int) × (Int) × (Int) × (Int) × (Bool) × (List (Int)) × ((List ((List Int) × (Int) × Unit)) × Unit) × Unit) × Unit := openStore d
def Q_i_OpenStore (d : (List (List (Int))) × (List ((Int) × (List (Int)) × Unit)) × Unit) : Prop := True
def O_i_OpenStore : Opt := ⟨fun i => false, fun i => (match decide (i = 8) with | true => [false, true, true, false, true, false, false, false, false, false, false, false, false, false, false, false, false, false, false, true, false, false, false, false, false, false, false, false, false, false, false, false, false, false, false, false, false, false, false, false, false, false, false, false, false, false, false, false, false, false, false] | false => []), fun i => .done, fun i => none, fun i => (match decide (i = 8) with | true => true | false => false), fun i => (match decide (i = 8) with | true => [(4, some 8, (.int .u8), .sh), (4, some 9, (.pair .str (.pair (.int .i64) .unit)), (.pr .sh (.pr .sh .sh)))] | false => []), fun i => false, fun i => none⟩
def τ_i_OpenStore : Env := Env.of [(2, (.int .i64)), (3, (.int .i64)), (4, .bool), (22, (.sl (.sl (.int .u8)))), (27, (.sl (.int .u8))), (32, (.pair (.int .i64) (.pair (.int .i64) (.pair (.int .i64) (.pair (.int .i64) (.pair (.int .i64) (.pair (.int .i64) (.pair .bool (.pair (.sl (.int .u8)) (.pair (.pair (.sl (.pair .str (.pair (.int .i64) .unit))) .unit) .unit)))))))))), (34, (.pair (.int .i64) (.pair (.pair (.int .i64) (.pair (.int .i64) (.pair (.int .i64) (.pair (.int .i64) (.pair (.int .i64) (.pair (.int .i64) (.pair .bool (.pair (.sl (.int .u8)) (.pair (.pair (.sl (.pair .str (.pair (.int .i64) .unit))) .unit) .unit))))))))) .unit))), (36, (.sl (.pair (.int .i64) (.pair (.sl (.int .u8)) .unit)))), (38, (.pair (.sl (.sl (.int .u8))) (.pair (.sl (.pair (.int .i64) (.pair (.sl (.int .u8)) .unit))) .unit)))] [] []

theorem ct_i_OpenStore (d : (List (List (Int))) × (List ((Int) × (List (Int)) × Unit)) × Unit) : Ct pg 11 [.dat (.pair (.sl (.sl (.int .u8))) (.pair (.sl (.pair (.int .i64) (.pair (.sl (.int .u8)) .unit))) .unit)) d] ⟨[Q_i_OpenStore d], [⟨(.pair (.int .i64) (.pair (.pair (.int .i64) (.pair (.int .i64) (.pair (.int .i64) (.pair (.int .i64) (.pair (.int .i64) (.pair (.int .i64) (.pair .bool (.pair (.sl (.int .u8)) (.pair (.pair (.sl (.pair .str (.pair (.int .i64) .unit))) .unit) .unit))))))))) .unit)), (.pr .sh (.pr (.pr .sh (.pr .sh (.pr .sh (.pr .sh (.pr .sh (.pr .sh (.pr .sh (.pr (.ow .sh) (.pr (.pr (.ow (.pr .sh (.pr .sh .sh))) .sh) .sh))))))))) .sh)), F_i_OpenStore d⟩], []⟩ := by
  refine ct_claim (O := O_i_OpenStore) (τ := τ_i_OpenStore) (EnvOk.of (by kernel_rfl) (by kernel_rfl)) (GOk.of (.cons ok_i_DiskFault (.cons ok_i_ReadSuper .nil) : AllOk pg [(58, con_i_DiskFault), (59, con_i_ReadSuper)])) mixed (Enters.of (by kernel_rfl)) (fn := Go.Proofs.Tryz.f11) (by kernel_rfl) rfl (by kernel_rfl) ?_
  intro hp hw
  have hq : Q_i_OpenStore d := hp _ (List.mem_singleton.2 rfl)
  clear hp
  change claim Lg.std Alg.std τ_i_OpenStore (Gam.of [(58, ⟨true, g1 (pD (.pair (.sl (.sl (.int .u8))) (.pair (.sl (.pair (.int .i64) (.pair (.sl (.int .u8)) .unit))) .unit))) fun d => .one ⟨[Q_i_DiskFault d], [⟨(.int .i64), .sh, F_i_DiskFault d⟩], []⟩, [], false, 0⟩), (59, ⟨true, g1 (pD (.sl (.int .u8))) fun data => .one ⟨[Q_i_ReadSuper data], [⟨(.pair (.int .i64) (.pair (.pair (.int .i64) (.pair (.int .i64) (.pair (.int .i64) (.pair (.int .i64) (.pair (.int .i64) (.pair (.int .i64) (.pair .bool (.pair (.sl (.int .u8)) (.pair (.pair (.sl (.pair .str (.pair (.int .i64) .unit))) .unit) .unit))))))))) .unit)), (.pr .sh (.pr (.pr .sh (.pr .sh (.pr .sh (.pr .sh (.pr .sh (.pr .sh (.pr .sh (.pr (.ow .sh) (.pr (.pr (.ow (.pr .sh (.pr .sh .sh))) .sh) .sh))))))))) .sh)), F_i_ReadSuper data⟩], []⟩, [], false, 0⟩)]) O_i_OpenStore Go.Proofs.Tryz.f11 [.dat (.pair (.sl (.sl (.int .u8))) (.pair (.sl (.pair (.int .i64) (.pair (.sl (.int .u8)) .unit))) .unit)) d] ⟨[Q_i_OpenStore d], [⟨(.pair (.int .i64) (.pair (.pair (.int .i64) (.pair (.int .i64) (.pair (.int .i64) (.pair (.int .i64) (.pair (.int .i64) (.pair (.int .i64) (.pair .bool (.pair (.sl (.int .u8)) (.pair (.pair (.sl (.pair .str (.pair (.int .i64) .unit))) .unit) .unit))))))))) .unit)), (.pr .sh (.pr (.pr .sh (.pr .sh (.pr .sh (.pr .sh (.pr .sh (.pr .sh (.pr .sh (.pr (.ow .sh) (.pr (.pr (.ow (.pr .sh (.pr .sh .sh))) .sh) .sh))))))))) .sh)), F_i_OpenStore d⟩], []⟩
  generalize hg_F_i_DiskFault : F_i_DiskFault = g_F_i_DiskFault
  generalize hg_Q_i_DiskFault : Q_i_DiskFault = g_Q_i_DiskFault
  generalize hg_F_i_ReadSuper : F_i_ReadSuper = g_F_i_ReadSuper
  generalize hg_Q_i_ReadSuper : Q_i_ReadSuper = g_Q_i_ReadSuper
  generalize hR0 : F_i_OpenStore d = R0
  generalize Q_i_OpenStore d = Q0
  generalize hL : Lg.std = L
  generalize hA : Alg.std = A
  cbv
  subst hL hA
  try dsimp only [Ty.den]
  obtain ⟨d_0, d_1, ⟨⟩⟩ := d
  have hgd := fun h => (diskFault_good (d_0, d_1, PUnit.unit) h).w
  have hop : openStore (d_0, d_1, ()) = if diskFault (d_0, d_1, ()) ≠ 0 then (diskFault (d_0, d_1, ()), zSuper, ()) else ((openD (d_0, d_1, ())).2, (openD (d_0, d_1, ())).1, ()) := rfl
  have hop2 : openD (d_0, d_1, ()) = if d_1.length > 0 then (zSuper, 8) else if (opBest (d_0, d_1, ())).1 = 0 then (zSuper, 4) else (opBest (d_0, d_1, ()), 0) := rfl
  repeat' (first | intro _ | apply And.intro)
  all_goals first | trivial | ((fail_if_success (refine lp_v (V := Unit) (fun _ => ⟨[], []⟩) (fun _ => True) (fun _ => 0) () ?_ ?_ ?_)); subst hR0 hg_F_i_DiskFault hg_Q_i_DiskFault hg_F_i_ReadSuper hg_Q_i_ReadSuper; (try simp only [Alg.std, F_i_DiskFault, F_i_ReadSuper, Q_i_DiskFault, Q_i_ReadSuper, F_i_OpenStore] at *); all_goals grind) | skip
  all_goals (
    have hd0 : diskFault (d_0, d_1, PUnit.unit) = 0 := (by rename_i hh _; subst hR0 hg_F_i_DiskFault hg_Q_i_DiskFault hg_F_i_ReadSuper hg_Q_i_ReadSuper; simp only [Alg.std, F_i_DiskFault, F_i_ReadSuper, Q_i_DiskFault, Q_i_ReadSuper, F_i_OpenStore] at hh; grind)
    have hgw := hgd hd0
    refine lp_v (V := (Int) × (Int) × (Int) × (Int) × (Int) × (Int) × (Int) × (Int) × (Bool) × (Nat) × (List Int) × (Nat) × (List ((List Int) × (Int) × Unit))) (fun ((q, i, g, a, b, e, n, v, m, N, cur, M, L) : (Int) × (Int) × (Int) × (Int) × (Int) × (Int) × (Int) × (Int) × (Bool) × (Nat) × (List Int) × (Nat) × (List ((List Int) × (Int) × Unit))) => ⟨[.junk, .bptr 0 0, .bptr 1 0, .junk, .bptr 2 0, .junk, .junk, .junk, .junk, .junk, .junk, .junk, .junk, .junk, .junk, .junk, .junk, .junk, .junk, .dat (.int .i64) i, .junk, .junk, .junk, .junk, .junk, .junk, .junk, .junk, .junk, .junk, .junk, .junk, .junk, .junk, .junk, .junk, .junk, .junk, .junk, .junk, .junk, .junk, .junk, .junk, .junk, .junk, .junk, .junk, .junk, .junk, .junk], [some (.box [.dat (.sl (.sl (.int .u8))) d_0, .dat (.sl (.pair (.int .i64) (.pair (.sl (.int .u8)) .unit))) d_1]), some (.box [.dat (.int .i64) 0, .dat (.int .i64) 0, .dat (.int .i64) 0, .dat (.int .i64) 0, .dat (.int .i64) 0, .dat (.int .i64) 0, .dat (.int .i64) 0, .dat .bool false, .nilS, .nilS]), some (.box [.dat (.int .i64) q, .dat (.int .i64) g, .dat (.int .i64) a, .dat (.int .i64) b, .dat (.int .i64) e, .dat (.int .i64) n, .dat (.int .i64) v, .dat .bool m, .ref (.int .u8) 3 0 [] 0 N, .ref (.pair .str (.pair (.int .i64) .unit)) 4 0 [] 0 M]), some (.row 0 (.int .u8) .sh cur), some (.row 0 (.pair .str (.pair (.int .i64) .unit)) (.pr .sh (.pr .sh .sh)) L)]⟩) (fun ((q, i, g, a, b, e, n, v, m, N, cur, M, L) : (Int) × (Int) × (Int) × (Int) × (Int) × (Int) × (Int) × (Int) × (Bool) × (Nat) × (List Int) × (Nat) × (List ((List Int) × (Int) × Unit))) => 0 ≤ i ∧ i ≤ 2 ∧ N = cur.length ∧ M = L.length ∧ bestOk (g, a, b, e, n, v, m, cur, (L, ()), ()) ∧ opBest (d_0, d_1, ()) = (if i = 0 then opTake 1 (d_0.getD 1 []) (opTake 0 (d_0.getD 0 []) (g, a, b, e, n, v, m, cur, (L, ()), ())) else if i = 1 then opTake 1 (d_0.getD 1 []) (g, a, b, e, n, v, m, cur, (L, ()), ()) else (g, a, b, e, n, v, m, cur, (L, ()), ())) ∧ (g = 0 → q = 4) ∧ (¬ g = 0 → q = 0)) (fun ((q, i, g, a, b, e, n, v, m, N, cur, M, L) : (Int) × (Int) × (Int) × (Int) × (Int) × (Int) × (Int) × (Int) × (Bool) × (Nat) × (List Int) × (Nat) × (List ((List Int) × (Int) × Unit))) => (2 - i).toNat) (4, 0, _, _, _, _, _, _, _, _, _, _, _) rfl ?_ ?_
    · (subst hR0 hg_F_i_DiskFault hg_Q_i_DiskFault hg_F_i_ReadSuper hg_Q_i_ReadSuper; simp only [Alg.std, F_i_DiskFault, F_i_ReadSuper, Q_i_DiskFault, Q_i_ReadSuper, F_i_OpenStore] at *; refine ⟨by decide, by decide, rfl, rfl, ⟨zSuper_lens, fun _ => rfl⟩, rfl, by simp, by simp⟩)
    rintro ⟨q, i, g, a, b, e, n, v, m, N, cur, M, L⟩ hf I hI
    replace hf : 0 ≤ i ∧ i ≤ 2 ∧ N = cur.length ∧ M = L.length ∧ bestOk (g, a, b, e, n, v, m, cur, (L, ()), ()) ∧ opBest (d_0, d_1, ()) = (if i = 0 then opTake 1 (d_0.getD 1 []) (opTake 0 (d_0.getD 0 []) (g, a, b, e, n, v, m, cur, (L, ()), ())) else if i = 1 then opTake 1 (d_0.getD 1 []) (g, a, b, e, n, v, m, cur, (L, ()), ()) else (g, a, b, e, n, v, m, cur, (L, ()), ())) ∧ (g = 0 → q = 4) ∧ (¬ g = 0 → q = 0) := hf
    generalize hL : Lg.std = L
    generalize hA : Alg.std = A
    cbv
    subst hL hA
    try dsimp only [Ty.den]
    subst hI
    have hi := hf.1
    have hi2 := hf.2.1
    rcases (by omega : i = 0 ∨ i = 1 ∨ i = 2) with rfl | rfl | rfl
    all_goals (
      obtain ⟨h1, h2, h3, h4, h5, h6, h7, h8⟩ := hf
      have hl0 := hgw.2.1 0 (Nat.lt_of_lt_of_le (by decide) hgw.1.1)
      have hl1 := hgw.2.1 1 (Nat.lt_of_lt_of_le (by decide) hgw.1.1)
      have hn8 := hgw.1
      have ht : ∀ (k : Int) (s : List Int), opTake k s (g, a, b, e, n, v, m, cur, (L, ()), ()) = if (readSuper s).1 = 0 ∧ (readSuper s).2.1.1 % 2 = k ∧ (readSuper s).2.1.1 > g then (readSuper s).2.1 else (g, a, b, e, n, v, m, cur, (L, ()), ()) := fun _ _ => rfl
      have hk0 := take_ok 0 (d_0.getD 0 []) _ h5
      have hk1 := take_ok 1 (d_0.getD 1 []) _ h5
      have hz := h5.2
      have hg0 : 0 ≤ g := h5.1.2.2.1
      have hr0 : readSuper (d_0.getD 0 []) = ((l18Read (d_0.getD 0 [])).2, (l18Read (d_0.getD 0 [])).1, ()) := if_neg (fun k => k hl0)
      have hr1 : readSuper (d_0.getD 1 []) = ((l18Read (d_0.getD 1 [])).2, (l18Read (d_0.getD 1 [])).1, ()) := if_neg (fun k => k hl1)
      have hq0 := (readSuper_lens (d_0.getD 0 [])).2.2
      have hq1 := (readSuper_lens (d_0.getD 1 [])).2.2
      have tm := mod_pos
      dsimp only at hl0 hl1 hn8 hz hq0 hq1
      clear hr0 hr1
      repeat' (first | intro _ | apply And.intro)
      all_goals first | (with_reducible exact True.intro) | ((fail_if_success (refine lp_v (V := Unit) (fun _ => ⟨[], []⟩) (fun _ => True) (fun _ => 0) () ?_ ?_ ?_)); (try simp only [Lg.std, Alg.std, List.drop_zero, List.take_length, decide_eq_true_eq, decide_eq_false_iff_not, Bool.not_eq_eq_eq_not, Bool.not_true, Bool.not_false] at *); (try refine ⟨(_, _, _, _, _, _, _, _, _, _, _, _, _), rfl, ?_, ?_⟩); (all_goals (subst hR0 hg_F_i_DiskFault hg_Q_i_DiskFault hg_F_i_ReadSuper hg_Q_i_ReadSuper; (try simp only [Lg.std, Alg.std, List.drop_zero, List.take_length, F_i_DiskFault, F_i_ReadSuper, Q_i_DiskFault, Q_i_ReadSuper, F_i_OpenStore] at *); first | done | ((try simp only [Int.toNat_zero, Int.toNat_one, Int.reduceToNat] at *); (try rw [ht] at hk0); (try rw [ht] at hk1); (try simp only [ht] at h6); generalize readSuper (d_0.getD 0 []) = x at *; obtain ⟨c2, ⟨g2, a2, b2, e2, n2, v2, m2, cur2, ⟨L2, ⟨⟩⟩, ⟨⟩⟩, ⟨⟩⟩ := x; generalize readSuper (d_0.getD 1 []) = y at *; obtain ⟨c3, ⟨g3, a3, b3, e3, n3, v3, m3, cur3, ⟨L3, ⟨⟩⟩, ⟨⟩⟩, ⟨⟩⟩ := y; (try dsimp only at *); grind [openStore, openD, opBest])))) | skip))
def con_i_OpenStore : Con := ⟨true, g1 (pD (.pair (.sl (.sl (.int .u8))) (.pair (.sl (.pair (.int .i64) (.pair (.sl (.int .u8)) .unit))) .unit))) fun d => .one ⟨[Q_i_OpenStore d], [⟨(.pair (.int .i64) (.pair (.pair (.int .i64) (.pair (.int .i64) (.pair (.int .i64) (.pair (.int .i64) (.pair (.int .i64) (.pair (.int .i64) (.pair .bool (.pair (.sl (.int .u8)) (.pair (.pair (.sl (.pair .str (.pair (.int .i64) .unit))) .unit) .unit))))))))) .unit)), (.pr .sh (.pr (.pr .sh (.pr .sh (.pr .sh (.pr .sh (.pr .sh (.pr .sh (.pr .sh (.pr (.ow .sh) (.pr (.pr (.ow (.pr .sh (.pr .sh .sh))) .sh) .sh))))))))) .sh)), F_i_OpenStore d⟩], []⟩, [], false, 0⟩
theorem ok_i_OpenStore : ConOk pg 11 con_i_OpenStore := ConOk.g1 (Enters.of (by kernel_rfl)) ct_i_OpenStore

def F_s_OpenStore (d : (List (List (Int))) × (List ((Int) × (List (Int)) × Unit)) × Unit) : (Int) × ((Int) × (Int) × (Int) × (Int) × (Int) × (Int) × (Bool) × (List (Int)) × ((List ((List Int) × (Int) × Unit)) × Unit) × Unit) × Unit := openStore d
def Q_s_OpenStore (d : (List (List (Int))) × (List ((Int) × (List (Int)) × Unit)) × Unit) : Prop := True
def O_s_OpenStore : Opt := ⟨fun i => false, fun i => [], fun i => .done, fun i => none, fun i => false, fun i => [], fun i => false, fun i => none⟩
def τ_s_OpenStore : Env := Env.of [(2, (.int .i64)), (4, .bool), (32, (.pair (.int .i64) (.pair (.int .i64) (.pair (.int .i64) (.pair (.int .i64) (.pair (.int .i64) (.pair (.int .i64) (.pair .bool (.pair (.sl (.int .u8)) (.pair (.pair (.sl (.pair .str (.pair (.int .i64) .unit))) .unit) .unit)))))))))), (34, (.pair (.int .i64) (.pair (.pair (.int .i64) (.pair (.int .i64) (.pair (.int .i64) (.pair (.int .i64) (.pair (.int .i64) (.pair (.int .i64) (.pair .bool (.pair (.sl (.int .u8)) (.pair (.pair (.sl (.pair .str (.pair (.int .i64) .unit))) .unit) .unit))))))))) .unit))), (38, (.pair (.sl (.sl (.int .u8))) (.pair (.sl (.pair (.int .i64) (.pair (.sl (.int .u8)) .unit))) .unit)))] [(102, (.pair (.sl (.sl (.int .u8))) (.pair (.sl (.pair (.int .i64) (.pair (.sl (.int .u8)) .unit))) .unit)))] []

theorem ct_s_OpenStore (d : (List (List (Int))) × (List ((Int) × (List (Int)) × Unit)) × Unit) : Ct pg 9 [.dat (.pair (.sl (.sl (.int .u8))) (.pair (.sl (.pair (.int .i64) (.pair (.sl (.int .u8)) .unit))) .unit)) d] ⟨[Q_s_OpenStore d], [⟨(.pair (.int .i64) (.pair (.pair (.int .i64) (.pair (.int .i64) (.pair (.int .i64) (.pair (.int .i64) (.pair (.int .i64) (.pair (.int .i64) (.pair .bool (.pair (.sl (.int .u8)) (.pair (.pair (.sl (.pair .str (.pair (.int .i64) .unit))) .unit) .unit))))))))) .unit)), (.pr .sh (.pr (.pr .sh (.pr .sh (.pr .sh (.pr .sh (.pr .sh (.pr .sh (.pr .sh (.pr (.ow .sh) (.pr (.pr (.ow (.pr .sh (.pr .sh .sh))) .sh) .sh))))))))) .sh)), F_s_OpenStore d⟩], []⟩ := by
  refine ct_claim (O := O_s_OpenStore) (τ := τ_s_OpenStore) (EnvOk.of (by kernel_rfl) (by kernel_rfl)) (GOk.of (.cons ok_s_DiskFault (.cons ok_s_l18Open .nil) : AllOk pg [(54, con_s_DiskFault), (55, con_s_l18Open)])) mixed (Enters.of (by kernel_rfl)) (fn := Go.Proofs.Tryz.f9) (by kernel_rfl) rfl (by kernel_rfl) ?_
  intro hp hw
  have hq : Q_s_OpenStore d := hp _ (List.mem_singleton.2 rfl)
  clear hp
  change claim Lg.std Alg.std τ_s_OpenStore (Gam.of [(54, ⟨true, g1 (pD (.pair (.sl (.sl (.int .u8))) (.pair (.sl (.pair (.int .i64) (.pair (.sl (.int .u8)) .unit))) .unit))) fun d => .one ⟨[Q_s_DiskFault d], [⟨(.int .i64), .sh, F_s_DiskFault d⟩], []⟩, [], false, 0⟩), (55, ⟨true, g1 (pP (.pair (.sl (.sl (.int .u8))) (.pair (.sl (.pair (.int .i64) (.pair (.sl (.int .u8)) .unit))) .unit))) fun d => .one ⟨[Q_s_l18Open d], [⟨(.pair (.int .i64) (.pair (.int .i64) (.pair (.int .i64) (.pair (.int .i64) (.pair (.int .i64) (.pair (.int .i64) (.pair .bool (.pair (.sl (.int .u8)) (.pair (.pair (.sl (.pair .str (.pair (.int .i64) .unit))) .unit) .unit))))))))), (.pr .sh (.pr .sh (.pr .sh (.pr .sh (.pr .sh (.pr .sh (.pr .sh (.pr (.ow .sh) (.pr (.pr (.ow (.pr .sh (.pr .sh .sh))) .sh) .sh))))))))), F_s_l18Open d⟩, ⟨(.int .i64), .sh, F_s_l18Open_1 d⟩], []⟩, [], false, 0⟩)]) O_s_OpenStore Go.Proofs.Tryz.f9 [.dat (.pair (.sl (.sl (.int .u8))) (.pair (.sl (.pair (.int .i64) (.pair (.sl (.int .u8)) .unit))) .unit)) d] ⟨[Q_s_OpenStore d], [⟨(.pair (.int .i64) (.pair (.pair (.int .i64) (.pair (.int .i64) (.pair (.int .i64) (.pair (.int .i64) (.pair (.int .i64) (.pair (.int .i64) (.pair .bool (.pair (.sl (.int .u8)) (.pair (.pair (.sl (.pair .str (.pair (.int .i64) .unit))) .unit) .unit))))))))) .unit)), (.pr .sh (.pr (.pr .sh (.pr .sh (.pr .sh (.pr .sh (.pr .sh (.pr .sh (.pr .sh (.pr (.ow .sh) (.pr (.pr (.ow (.pr .sh (.pr .sh .sh))) .sh) .sh))))))))) .sh)), F_s_OpenStore d⟩], []⟩
  generalize hg_F_s_DiskFault : F_s_DiskFault = g_F_s_DiskFault
  generalize hg_Q_s_DiskFault : Q_s_DiskFault = g_Q_s_DiskFault
  generalize hg_F_s_l18Open : F_s_l18Open = g_F_s_l18Open
  generalize hg_F_s_l18Open_1 : F_s_l18Open_1 = g_F_s_l18Open_1
  generalize hg_Q_s_l18Open : Q_s_l18Open = g_Q_s_l18Open
  generalize hR0 : F_s_OpenStore d = R0
  generalize Q_s_OpenStore d = Q0
  generalize hL : Lg.std = L
  generalize hA : Alg.std = A
  cbv
  subst hL hA
  try dsimp only [Ty.den]
  obtain ⟨d_0, d_1, ⟨⟩⟩ := d
  have hgd := fun h => (diskFault_good (d_0, d_1, PUnit.unit) h).w
  have hop : openStore (d_0, d_1, ()) = if diskFault (d_0, d_1, ()) ≠ 0 then (diskFault (d_0, d_1, ()), zSuper, ()) else ((openD (d_0, d_1, ())).2, (openD (d_0, d_1, ())).1, ()) := rfl
  subst hR0 hg_F_s_DiskFault hg_Q_s_DiskFault hg_F_s_l18Open hg_F_s_l18Open_1 hg_Q_s_l18Open
  simp only [Lg.std, Alg.std, List.drop_zero, List.take_length, F_s_DiskFault, F_s_l18Open, F_s_l18Open_1, Q_s_DiskFault, Q_s_l18Open, F_s_OpenStore] at *
  try simp only [true_and, and_true, false_implies, implies_true, imp_self]
  generalize hG : GoodW (d_0, d_1, PUnit.unit) 64 = G at *
  repeat' (first | intro _ | apply And.intro)
  all_goals grind
def con_s_OpenStore : Con := ⟨true, g1 (pD (.pair (.sl (.sl (.int .u8))) (.pair (.sl (.pair (.int .i64) (.pair (.sl (.int .u8)) .unit))) .unit))) fun d => .one ⟨[Q_s_OpenStore d], [⟨(.pair (.int .i64) (.pair (.pair (.int .i64) (.pair (.int .i64) (.pair (.int .i64) (.pair (.int .i64) (.pair (.int .i64) (.pair (.int .i64) (.pair .bool (.pair (.sl (.int .u8)) (.pair (.pair (.sl (.pair .str (.pair (.int .i64) .unit))) .unit) .unit))))))))) .unit)), (.pr .sh (.pr (.pr .sh (.pr .sh (.pr .sh (.pr .sh (.pr .sh (.pr .sh (.pr .sh (.pr (.ow .sh) (.pr (.pr (.ow (.pr .sh (.pr .sh .sh))) .sh) .sh))))))))) .sh)), F_s_OpenStore d⟩], []⟩, [], false, 0⟩
theorem ok_s_OpenStore : ConOk pg 9 con_s_OpenStore := ConOk.g1 (Enters.of (by kernel_rfl)) ct_s_OpenStore

def F_w_FnExactOpenStore (d : (List (List (Int))) × (List ((Int) × (List (Int)) × Unit)) × Unit) : Bool := true
def Q_w_FnExactOpenStore (d : (List (List (Int))) × (List ((Int) × (List (Int)) × Unit)) × Unit) : Prop := True
def O_w_FnExactOpenStore : Opt := ⟨fun i => false, fun i => [], fun i => (match decide (i = 10) with | true => (.alt 0 (.alt 1 (.alt 2 (.alt 3 (.take 4 .done) .no) .no) .no) (.alt 1 (.alt 0 (.alt 2 (.alt 3 (.take 4 .done) .no) .no) (.alt 2 (.take 0 (.alt 3 (.take 4 .done) .no)) .no)) .no)) | false => .done), fun i => (match decide (i = 10) with | true => some [false, true, false, false, true, true, true, false, false, false, false, false, false, false, false, false, false, false, false, false, false, false, false, false, false, false, false, false, false, false, false, true, false, false, false, false, false, false, false, false, false, false, false, false, false, false, false, false, false, false, false, false, false, false, false, false, false, false, false, false, false, false, false, false, false, false, false, false, false] | false => none), fun i => false, fun i => [], fun i => false, fun i => none⟩
def τ_w_FnExactOpenStore : Env := Env.of [(2, (.int .i64)), (3, (.int .i64)), (4, .bool), (25, (.pair (.sl (.sl (.int .u8))) (.pair (.sl (.pair (.int .i64) (.pair (.sl (.int .u8)) .unit))) .unit))), (34, (.pair (.int .i64) (.pair (.pair (.int .i64) (.pair (.int .i64) (.pair (.int .i64) (.pair (.int .i64) (.pair (.int .i64) (.pair (.int .i64) (.pair .bool (.pair (.sl (.int .u8)) (.pair (.pair (.sl (.pair .str (.pair (.int .i64) .unit))) .unit) .unit))))))))) .unit))), (38, (.pair (.sl (.sl (.int .u8))) (.pair (.sl (.pair (.int .i64) (.pair (.sl (.int .u8)) .unit))) .unit)))] [] []

theorem ct_w_FnExactOpenStore (d : (List (List (Int))) × (List ((Int) × (List (Int)) × Unit)) × Unit) : Ct pg 3 [.dat (.pair (.sl (.sl (.int .u8))) (.pair (.sl (.pair (.int .i64) (.pair (.sl (.int .u8)) .unit))) .unit)) d] ⟨[Q_w_FnExactOpenStore d], [⟨.bool, .sh, F_w_FnExactOpenStore d⟩], []⟩ := by
  refine ct_claim (O := O_w_FnExactOpenStore) (τ := τ_w_FnExactOpenStore) (EnvOk.of (by kernel_rfl) (by kernel_rfl)) (GOk.of (.cons ok_w_toDisk (.cons ok_w_eqDisk (.cons ok_w_szDisk (.cons ok_w_markDisk (.cons ok_w_eqSuperResult (.cons ok_w_markSuperResult (.cons ok_w_heldSuperResult (.cons ok_i_OpenStore (.cons ok_s_OpenStore .nil)))))))) : AllOk pg [(10, con_w_toDisk), (13, con_w_eqDisk), (8, con_w_szDisk), (14, con_w_markDisk), (12, con_w_eqSuperResult), (15, con_w_markSuperResult), (16, con_w_heldSuperResult), (11, con_i_OpenStore), (9, con_s_OpenStore)])) mixed (Enters.of (by kernel_rfl)) (fn := Go.Proofs.Tryz.f3) (by kernel_rfl) rfl (by kernel_rfl) ?_
  intro hp hw
  have hq : Q_w_FnExactOpenStore d := hp _ (List.mem_singleton.2 rfl)
  clear hp
  change claim Lg.std Alg.std τ_w_FnExactOpenStore (Gam.of [(10, ⟨true, g1 (pD (.pair (.sl (.sl (.int .u8))) (.pair (.sl (.pair (.int .i64) (.pair (.sl (.int .u8)) .unit))) .unit))) fun a => .one ⟨[Q_w_toDisk a], [⟨(.pair (.sl (.sl (.int .u8))) (.pair (.sl (.pair (.int .i64) (.pair (.sl (.int .u8)) .unit))) .unit)), (.pr (.ow (.ow .sh)) (.pr (.ow (.pr .sh (.pr (.ow .sh) .sh))) .sh)), F_w_toDisk a⟩], []⟩, [], false, 0⟩), (13, ⟨true, g2 (pD (.pair (.sl (.sl (.int .u8))) (.pair (.sl (.pair (.int .i64) (.pair (.sl (.int .u8)) .unit))) .unit))) (pD (.pair (.sl (.sl (.int .u8))) (.pair (.sl (.pair (.int .i64) (.pair (.sl (.int .u8)) .unit))) .unit))) fun a b => .one ⟨[Q_w_eqDisk a b], [⟨.bool, .sh, F_w_eqDisk a b⟩], []⟩, [], false, 0⟩), (8, ⟨true, g2 (pD (.pair (.sl (.sl (.int .u8))) (.pair (.sl (.pair (.int .i64) (.pair (.sl (.int .u8)) .unit))) .unit))) (pD (.int .i64)) fun a left => .one ⟨[Q_w_szDisk a left], [⟨(.int .i64), .sh, F_w_szDisk a left⟩], []⟩, [], false, 0⟩), (14, ⟨true, g2 (pV (.pair (.sl (.sl (.int .u8))) (.pair (.sl (.pair (.int .i64) (.pair (.sl (.int .u8)) .unit))) .unit)) (.pr (.ow (.ow .sh)) (.pr (.ow (.pr .sh (.pr (.ow .sh) .sh))) .sh))) (pD (.int .i64)) fun a k => .one ⟨[Q_w_markDisk a k], [⟨(.int .i64), .sh, F_w_markDisk a k⟩], [.mv (.pair (.sl (.sl (.int .u8))) (.pair (.sl (.pair (.int .i64) (.pair (.sl (.int .u8)) .unit))) .unit)) (.pr (.ow (.ow .sh)) (.pr (.ow (.pr .sh (.pr (.ow .sh) .sh))) .sh)) (B_w_markDisk_a a k)]⟩, [(.pr (.ow (.ow .sh)) (.pr (.ow (.pr .sh (.pr (.ow .sh) .sh))) .sh))], false, 0⟩), (12, ⟨true, g2 (pD (.pair (.int .i64) (.pair (.pair (.int .i64) (.pair (.int .i64) (.pair (.int .i64) (.pair (.int .i64) (.pair (.int .i64) (.pair (.int .i64) (.pair .bool (.pair (.sl (.int .u8)) (.pair (.pair (.sl (.pair .str (.pair (.int .i64) .unit))) .unit) .unit))))))))) .unit))) (pD (.pair (.int .i64) (.pair (.pair (.int .i64) (.pair (.int .i64) (.pair (.int .i64) (.pair (.int .i64) (.pair (.int .i64) (.pair (.int .i64) (.pair .bool (.pair (.sl (.int .u8)) (.pair (.pair (.sl (.pair .str (.pair (.int .i64) .unit))) .unit) .unit))))))))) .unit))) fun a b => .one ⟨[Q_w_eqSuperResult a b], [⟨.bool, .sh, F_w_eqSuperResult a b⟩], []⟩, [], false, 0⟩), (15, ⟨true, g2 (pV (.pair (.int .i64) (.pair (.pair (.int .i64) (.pair (.int .i64) (.pair (.int .i64) (.pair (.int .i64) (.pair (.int .i64) (.pair (.int .i64) (.pair .bool (.pair (.sl (.int .u8)) (.pair (.pair (.sl (.pair .str (.pair (.int .i64) .unit))) .unit) .unit))))))))) .unit)) (.pr .sh (.pr (.pr .sh (.pr .sh (.pr .sh (.pr .sh (.pr .sh (.pr .sh (.pr .sh (.pr (.ow .sh) (.pr (.pr (.ow (.pr .sh (.pr .sh .sh))) .sh) .sh))))))))) .sh))) (pD (.int .i64)) fun a k => .one ⟨[Q_w_markSuperResult a k], [⟨(.int .i64), .sh, F_w_markSuperResult a k⟩], [.mv (.pair (.int .i64) (.pair (.pair (.int .i64) (.pair (.int .i64) (.pair (.int .i64) (.pair (.int .i64) (.pair (.int .i64) (.pair (.int .i64) (.pair .bool (.pair (.sl (.int .u8)) (.pair (.pair (.sl (.pair .str (.pair (.int .i64) .unit))) .unit) .unit))))))))) .unit)) (.pr .sh (.pr (.pr .sh (.pr .sh (.pr .sh (.pr .sh (.pr .sh (.pr .sh (.pr .sh (.pr (.ow .sh) (.pr (.pr (.ow (.pr .sh (.pr .sh .sh))) .sh) .sh))))))))) .sh)) (B_w_markSuperResult_a a k)]⟩, [(.pr .sh (.pr (.pr .sh (.pr .sh (.pr .sh (.pr .sh (.pr .sh (.pr .sh (.pr .sh (.pr (.ow .sh) (.pr (.pr (.ow (.pr .sh (.pr .sh .sh))) .sh) .sh))))))))) .sh))], false, 0⟩), (16, ⟨true, g2 (pD (.pair (.int .i64) (.pair (.pair (.int .i64) (.pair (.int .i64) (.pair (.int .i64) (.pair (.int .i64) (.pair (.int .i64) (.pair (.int .i64) (.pair .bool (.pair (.sl (.int .u8)) (.pair (.pair (.sl (.pair .str (.pair (.int .i64) .unit))) .unit) .unit))))))))) .unit))) (pD (.int .i64)) fun a k => .one ⟨[Q_w_heldSuperResult a k], [⟨(.int .i64), .sh, F_w_heldSuperResult a k⟩], []⟩, [], false, 0⟩), (11, ⟨true, g1 (pD (.pair (.sl (.sl (.int .u8))) (.pair (.sl (.pair (.int .i64) (.pair (.sl (.int .u8)) .unit))) .unit))) fun d => .one ⟨[Q_i_OpenStore d], [⟨(.pair (.int .i64) (.pair (.pair (.int .i64) (.pair (.int .i64) (.pair (.int .i64) (.pair (.int .i64) (.pair (.int .i64) (.pair (.int .i64) (.pair .bool (.pair (.sl (.int .u8)) (.pair (.pair (.sl (.pair .str (.pair (.int .i64) .unit))) .unit) .unit))))))))) .unit)), (.pr .sh (.pr (.pr .sh (.pr .sh (.pr .sh (.pr .sh (.pr .sh (.pr .sh (.pr .sh (.pr (.ow .sh) (.pr (.pr (.ow (.pr .sh (.pr .sh .sh))) .sh) .sh))))))))) .sh)), F_i_OpenStore d⟩], []⟩, [], false, 0⟩), (9, ⟨true, g1 (pD (.pair (.sl (.sl (.int .u8))) (.pair (.sl (.pair (.int .i64) (.pair (.sl (.int .u8)) .unit))) .unit))) fun d => .one ⟨[Q_s_OpenStore d], [⟨(.pair (.int .i64) (.pair (.pair (.int .i64) (.pair (.int .i64) (.pair (.int .i64) (.pair (.int .i64) (.pair (.int .i64) (.pair (.int .i64) (.pair .bool (.pair (.sl (.int .u8)) (.pair (.pair (.sl (.pair .str (.pair (.int .i64) .unit))) .unit) .unit))))))))) .unit)), (.pr .sh (.pr (.pr .sh (.pr .sh (.pr .sh (.pr .sh (.pr .sh (.pr .sh (.pr .sh (.pr (.ow .sh) (.pr (.pr (.ow (.pr .sh (.pr .sh .sh))) .sh) .sh))))))))) .sh)), F_s_OpenStore d⟩], []⟩, [], false, 0⟩)]) O_w_FnExactOpenStore Go.Proofs.Tryz.f3 [.dat (.pair (.sl (.sl (.int .u8))) (.pair (.sl (.pair (.int .i64) (.pair (.sl (.int .u8)) .unit))) .unit)) d] ⟨[Q_w_FnExactOpenStore d], [⟨.bool, .sh, F_w_FnExactOpenStore d⟩], []⟩
  generalize hg_F_w_toDisk : F_w_toDisk = g_F_w_toDisk
  generalize hg_Q_w_toDisk : Q_w_toDisk = g_Q_w_toDisk
  generalize hg_F_w_eqDisk : F_w_eqDisk = g_F_w_eqDisk
  generalize hg_Q_w_eqDisk : Q_w_eqDisk = g_Q_w_eqDisk
  generalize hg_F_w_szDisk : F_w_szDisk = g_F_w_szDisk
  generalize hg_Q_w_szDisk : Q_w_szDisk = g_Q_w_szDisk
  generalize hg_F_w_markDisk : F_w_markDisk = g_F_w_markDisk
  generalize hg_B_w_markDisk_a : B_w_markDisk_a = g_B_w_markDisk_a
  generalize hg_Q_w_markDisk : Q_w_markDisk = g_Q_w_markDisk
  generalize hg_F_w_eqSuperResult : F_w_eqSuperResult = g_F_w_eqSuperResult
  generalize hg_Q_w_eqSuperResult : Q_w_eqSuperResult = g_Q_w_eqSuperResult
  generalize hg_F_w_markSuperResult : F_w_markSuperResult = g_F_w_markSuperResult
  generalize hg_B_w_markSuperResult_a : B_w_markSuperResult_a = g_B_w_markSuperResult_a
  generalize hg_Q_w_markSuperResult : Q_w_markSuperResult = g_Q_w_markSuperResult
  generalize hg_F_w_heldSuperResult : F_w_heldSuperResult = g_F_w_heldSuperResult
  generalize hg_Q_w_heldSuperResult : Q_w_heldSuperResult = g_Q_w_heldSuperResult
  generalize hg_F_i_OpenStore : F_i_OpenStore = g_F_i_OpenStore
  generalize hg_Q_i_OpenStore : Q_i_OpenStore = g_Q_i_OpenStore
  generalize hg_F_s_OpenStore : F_s_OpenStore = g_F_s_OpenStore
  generalize hg_Q_s_OpenStore : Q_s_OpenStore = g_Q_s_OpenStore
  generalize hR0 : F_w_FnExactOpenStore d = R0
  generalize Q_w_FnExactOpenStore d = Q0
  generalize hL : Lg.std = L
  generalize hA : Alg.std = A
  cbv
  subst hL hA
  try dsimp only [Ty.den]
  obtain ⟨d_0, d_1, ⟨⟩⟩ := d
  have hct_d := cnt_tot (.pair (.sl (.sl (.int .u8))) (.pair (.sl (.pair (.int .i64) (.pair (.sl (.int .u8)) .unit))) .unit)) (d_0, d_1, PUnit.unit) (by decide)
  have hcn := openStore_cnt (d_0, d_1, PUnit.unit)
  have hc0 : cnt false (.pair (.int .i64) (.pair (.pair (.int .i64) (.pair (.int .i64) (.pair (.int .i64) (.pair (.int .i64) (.pair (.int .i64) (.pair (.int .i64) (.pair .bool (.pair (.sl (.int .u8)) (.pair (.pair (.sl (.pair .str (.pair (.int .i64) .unit))) .unit) .unit))))))))) .unit)) (openStore (d_0, d_1, PUnit.unit)) ≤ 100 := by omega
  subst hR0 hg_F_w_toDisk hg_Q_w_toDisk hg_F_w_eqDisk hg_Q_w_eqDisk hg_F_w_szDisk hg_Q_w_szDisk hg_F_w_markDisk hg_B_w_markDisk_a hg_Q_w_markDisk hg_F_w_eqSuperResult hg_Q_w_eqSuperResult hg_F_w_markSuperResult hg_B_w_markSuperResult_a hg_Q_w_markSuperResult hg_F_w_heldSuperResult hg_Q_w_heldSuperResult hg_F_i_OpenStore hg_Q_i_OpenStore hg_F_s_OpenStore hg_Q_s_OpenStore
  simp only [Lg.std, Alg.std, List.drop_zero, List.take_length, F_w_toDisk, F_w_eqDisk, F_w_szDisk, F_w_markDisk, F_w_eqSuperResult, F_w_markSuperResult, F_w_heldSuperResult, F_i_OpenStore, F_s_OpenStore, B_w_markDisk_a, B_w_markSuperResult_a, Q_w_toDisk, Q_w_eqDisk, Q_w_szDisk, Q_w_markDisk, Q_w_eqSuperResult, Q_w_markSuperResult, Q_w_heldSuperResult, Q_i_OpenStore, Q_s_OpenStore, F_w_FnExactOpenStore]
  generalize hW : (openStore (d_0, d_1, PUnit.unit) : (Int) × ((Int) × (Int) × (Int) × (Int) × (Int) × (Int) × (Bool) × (List (Int)) × ((List ((List Int) × (Int) × Unit)) × Unit) × Unit) × Unit) = w at *
  clear hW
  obtain ⟨w_0, ⟨w_1_0, w_1_1, w_1_2, w_1_3, w_1_4, w_1_5, w_1_6, w_1_7, ⟨w_1_8_0, ⟨⟩⟩, ⟨⟩⟩, ⟨⟩⟩ := w
  try dsimp only at *
  have hm := hd_mk false (.pair (.int .i64) (.pair (.pair (.int .i64) (.pair (.int .i64) (.pair (.int .i64) (.pair (.int .i64) (.pair (.int .i64) (.pair (.int .i64) (.pair .bool (.pair (.sl (.int .u8)) (.pair (.pair (.sl (.pair .str (.pair (.int .i64) .unit))) .unit) .unit))))))))) .unit)) (w_0, (w_1_0, w_1_1, w_1_2, w_1_3, w_1_4, w_1_5, w_1_6, w_1_7, (w_1_8_0, PUnit.unit), PUnit.unit), PUnit.unit) 1 (by omega)

  have mt_w_1_7 := fun k => mk_take false (.int .u8) w_1_7 k
  dsimp only [Ty.den] at mt_w_1_7
  have mt_w_1_8_0 := fun k => mk_take false (.pair .str (.pair (.int .i64) .unit)) w_1_8_0 k
  dsimp only [Ty.den] at mt_w_1_8_0
  simp only [tot_p, tot_u, tot_i, tot_b, tot_s, cnt_p, cnt_u, cnt_i0, cnt_b0, cnt_s0, cnt_i1, cnt_b1, cnt_s1, cnt_l, mk_p, mk_u, mk_i0, mk_b0, mk_s0, mk_i1, mk_s1, mk_l, hd_p, hd_u, hd_i0, hd_b0, hd_s0, hd_i1, hd_b1, hd_s1, hd_l, mt_w_1_7, mt_w_1_8_0] at *
  repeat' (first | intro _ | apply And.intro)
  all_goals grind [szf, cnt_mk, hd_mk]
def con_w_FnExactOpenStore : Con := ⟨true, g1 (pD (.pair (.sl (.sl (.int .u8))) (.pair (.sl (.pair (.int .i64) (.pair (.sl (.int .u8)) .unit))) .unit))) fun d => .one ⟨[Q_w_FnExactOpenStore d], [⟨.bool, .sh, F_w_FnExactOpenStore d⟩], []⟩, [], false, 0⟩
theorem ok_w_FnExactOpenStore : ConOk pg 3 con_w_FnExactOpenStore := ConOk.g1 (Enters.of (by kernel_rfl)) ct_w_FnExactOpenStore
end Go.Vee
