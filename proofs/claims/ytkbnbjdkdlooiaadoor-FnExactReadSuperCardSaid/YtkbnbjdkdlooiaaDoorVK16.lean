/-
  Contracts of functions of the program: what each returns for all arguments that its precondition lets in.
-/
import Derived.Test.YtkbnbjdkdlooiaaDoorVK15
set_option linter.unusedSimpArgs false
set_option linter.unusedVariables false
set_option maxRecDepth 100000
set_option maxHeartbeats 4000000
set_option synthInstance.maxHeartbeats 4000000
set_option synthInstance.maxSize 20000000
namespace Go.Vee
open Go
theorem readSuper_ok (d : List Int) : (readSuper d).2.1 = zSuper ∧ (readSuper d).1 ≠ 0 ∨ superFault (readSuper d).2.1 = 0 ∧ (readSuper d).1 = 0 := by
  unfold readSuper
  split
  · exact .inl ⟨rfl, by decide⟩
  · unfold l18Read
    split
    · rename_i h; exact .inl ⟨rfl, h⟩
    · split
      · exact .inl ⟨rfl, by decide⟩
      · rename_i h
        simp only [not_or, Decidable.not_not] at h
        exact .inr ⟨h.2.2.1, rfl⟩
def lensOk (p : SuperT) : Prop := p.2.2.2.2.2.2.2.1.length ≤ 16 ∧ p.2.2.2.2.2.2.2.2.1.1.length ≤ 6 ∧ 0 ≤ p.1 ∧ p.1 ≤ 60000
theorem zSuper_lens : lensOk zSuper := by unfold lensOk; simp
theorem super_lens (p : SuperT) (h : superFault p = 0) : lensOk p := by
  have g := super_good p h
  have := (sig_good _ g.2.2.2.2.2.2.2).1
  unfold lensOk
  omega
theorem readSuper_lens (d : List Int) : lensOk (readSuper d).2.1 := by
  rcases readSuper_ok d with h | h
  · rw [h.1]; exact zSuper_lens
  · exact super_lens _ h.1
theorem super_cnt (r : Int × SuperT × Unit) (h : lensOk r.2.1) : cnt false (.pair (.int .i64) (.pair (.pair (.int .i64) (.pair (.int .i64) (.pair (.int .i64) (.pair (.int .i64) (.pair (.int .i64) (.pair (.int .i64) (.pair .bool (.pair (.sl (.int .u8)) (.pair (.pair (.sl (.pair .str (.pair (.int .i64) .unit))) .unit) .unit))))))))) .unit)) r ≤ 100 := by
  have e : cnt false (.pair (.int .i64) (.pair (.pair (.int .i64) (.pair (.int .i64) (.pair (.int .i64) (.pair (.int .i64) (.pair (.int .i64) (.pair (.int .i64) (.pair .bool (.pair (.sl (.int .u8)) (.pair (.pair (.sl (.pair .str (.pair (.int .i64) .unit))) .unit) .unit))))))))) .unit)) r = cnt false (.sl (.int .u8)) r.2.1.2.2.2.2.2.2.2.1 + cnt false (.sl (.pair .str (.pair (.int .i64) .unit))) r.2.1.2.2.2.2.2.2.2.2.1.1 := by simp [cnt]
  have h1 := cnt_syms r.2.1.2.2.2.2.2.2.2.2.1.1
  have h2 := cnt_int false .u8 r.2.1.2.2.2.2.2.2.2.1
  unfold lensOk at h
  rw [e, h1, h2]; omega

def F_s_ReadSuper (data : List (Int)) : (Int) × ((Int) × (Int) × (Int) × (Int) × (Int) × (Int) × (Bool) × (List (Int)) × ((List ((List Int) × (Int) × Unit)) × Unit) × Unit) × Unit := readSuper data
def Q_s_ReadSuper (data : List (Int)) : Prop := True
def O_s_ReadSuper : Opt := ⟨fun i => false, fun i => [], fun i => .done, fun i => none, fun i => false, fun i => [], fun i => false, fun i => none⟩
def τ_s_ReadSuper : Env := Env.of [(2, (.int .i64)), (3, (.int .i64)), (4, .bool), (22, (.sl (.int .u8))), (34, (.pair (.int .i64) (.pair (.int .i64) (.pair (.int .i64) (.pair (.int .i64) (.pair (.int .i64) (.pair (.int .i64) (.pair .bool (.pair (.sl (.int .u8)) (.pair (.pair (.sl (.pair .str (.pair (.int .i64) .unit))) .unit) .unit)))))))))), (70, (.pair (.int .i64) (.pair (.pair (.int .i64) (.pair (.int .i64) (.pair (.int .i64) (.pair (.int .i64) (.pair (.int .i64) (.pair (.int .i64) (.pair .bool (.pair (.sl (.int .u8)) (.pair (.pair (.sl (.pair .str (.pair (.int .i64) .unit))) .unit) .unit))))))))) .unit)))] [] []

theorem ct_s_ReadSuper (data : List (Int)) : Ct pg 42 [.dat (.sl (.int .u8)) data] ⟨[Q_s_ReadSuper data], [⟨(.pair (.int .i64) (.pair (.pair (.int .i64) (.pair (.int .i64) (.pair (.int .i64) (.pair (.int .i64) (.pair (.int .i64) (.pair (.int .i64) (.pair .bool (.pair (.sl (.int .u8)) (.pair (.pair (.sl (.pair .str (.pair (.int .i64) .unit))) .unit) .unit))))))))) .unit)), (.pr .sh (.pr (.pr .sh (.pr .sh (.pr .sh (.pr .sh (.pr .sh (.pr .sh (.pr .sh (.pr (.ow .sh) (.pr (.pr (.ow (.pr .sh (.pr .sh .sh))) .sh) .sh))))))))) .sh)), F_s_ReadSuper data⟩], []⟩ := by
  refine ct_claim (O := O_s_ReadSuper) (τ := τ_s_ReadSuper) (EnvOk.of (by kernel_rfl) (by kernel_rfl)) (GOk.of (.cons ok_s_l18Read .nil : AllOk pg [(76, con_s_l18Read)])) mixed (Enters.of (by kernel_rfl)) (fn := Go.Proofs.Tryd.f42) (by kernel_rfl) rfl (by kernel_rfl) ?_
  intro hp hw
  have hq : Q_s_ReadSuper data := hp _ (List.mem_singleton.2 rfl)
  clear hp
  change claim Lg.std Alg.std τ_s_ReadSuper (Gam.of [(76, ⟨true, g1 (pD (.sl (.int .u8))) fun data => .one ⟨[Q_s_l18Read data], [⟨(.pair (.int .i64) (.pair (.int .i64) (.pair (.int .i64) (.pair (.int .i64) (.pair (.int .i64) (.pair (.int .i64) (.pair .bool (.pair (.sl (.int .u8)) (.pair (.pair (.sl (.pair .str (.pair (.int .i64) .unit))) .unit) .unit))))))))), (.pr .sh (.pr .sh (.pr .sh (.pr .sh (.pr .sh (.pr .sh (.pr .sh (.pr (.ow .sh) (.pr (.pr (.ow (.pr .sh (.pr .sh .sh))) .sh) .sh))))))))), F_s_l18Read data⟩, ⟨(.int .i64), .sh, F_s_l18Read_1 data⟩], []⟩, [], false, 0⟩)]) O_s_ReadSuper Go.Proofs.Tryd.f42 [.dat (.sl (.int .u8)) data] ⟨[Q_s_ReadSuper data], [⟨(.pair (.int .i64) (.pair (.pair (.int .i64) (.pair (.int .i64) (.pair (.int .i64) (.pair (.int .i64) (.pair (.int .i64) (.pair (.int .i64) (.pair .bool (.pair (.sl (.int .u8)) (.pair (.pair (.sl (.pair .str (.pair (.int .i64) .unit))) .unit) .unit))))))))) .unit)), (.pr .sh (.pr (.pr .sh (.pr .sh (.pr .sh (.pr .sh (.pr .sh (.pr .sh (.pr .sh (.pr (.ow .sh) (.pr (.pr (.ow (.pr .sh (.pr .sh .sh))) .sh) .sh))))))))) .sh)), F_s_ReadSuper data⟩], []⟩
  generalize hg_F_s_l18Read : F_s_l18Read = g_F_s_l18Read
  generalize hg_F_s_l18Read_1 : F_s_l18Read_1 = g_F_s_l18Read_1
  generalize hg_Q_s_l18Read : Q_s_l18Read = g_Q_s_l18Read
  generalize hR0 : F_s_ReadSuper data = R0
  generalize Q_s_ReadSuper data = Q0
  generalize hL : Lg.std = L
  generalize hA : Alg.std = A
  cbv
  subst hL hA
  try dsimp only [Ty.den]
  subst hR0 hg_F_s_l18Read hg_F_s_l18Read_1 hg_Q_s_l18Read
  simp only [Q_s_ReadSuper] at hq
  simp only [Lg.std, Alg.std, List.drop_zero, List.take_length, F_s_l18Read, F_s_l18Read_1, Q_s_l18Read, F_s_ReadSuper]
  all_goals grind [readSuper]
def con_s_ReadSuper : Con := ⟨true, g1 (pD (.sl (.int .u8))) fun data => .one ⟨[Q_s_ReadSuper data], [⟨(.pair (.int .i64) (.pair (.pair (.int .i64) (.pair (.int .i64) (.pair (.int .i64) (.pair (.int .i64) (.pair (.int .i64) (.pair (.int .i64) (.pair .bool (.pair (.sl (.int .u8)) (.pair (.pair (.sl (.pair .str (.pair (.int .i64) .unit))) .unit) .unit))))))))) .unit)), (.pr .sh (.pr (.pr .sh (.pr .sh (.pr .sh (.pr .sh (.pr .sh (.pr .sh (.pr .sh (.pr (.ow .sh) (.pr (.pr (.ow (.pr .sh (.pr .sh .sh))) .sh) .sh))))))))) .sh)), F_s_ReadSuper data⟩], []⟩, [], false, 0⟩
theorem ok_s_ReadSuper : ConOk pg 42 con_s_ReadSuper := ConOk.g1 (Enters.of (by kernel_rfl)) ct_s_ReadSuper

def F_w_FnExactReadSuper (d : List (Int)) : Bool := true
def Q_w_FnExactReadSuper (d : List (Int)) : Prop := True
def O_w_FnExactReadSuper : Opt := ⟨fun i => false, fun i => [], fun i => .done, fun i => none, fun i => false, fun i => [], fun i => false, fun i => none⟩
def τ_w_FnExactReadSuper : Env := Env.of [(2, (.int .i64)), (3, (.int .i64)), (4, .bool), (22, (.sl (.int .u8))), (70, (.pair (.int .i64) (.pair (.pair (.int .i64) (.pair (.int .i64) (.pair (.int .i64) (.pair (.int .i64) (.pair (.int .i64) (.pair (.int .i64) (.pair .bool (.pair (.sl (.int .u8)) (.pair (.pair (.sl (.pair .str (.pair (.int .i64) .unit))) .unit) .unit))))))))) .unit)))] [] []

theorem ct_w_FnExactReadSuper (d : List (Int)) : Ct pg 8 [.dat (.sl (.int .u8)) d] ⟨[Q_w_FnExactReadSuper d], [⟨.bool, .sh, F_w_FnExactReadSuper d⟩], []⟩ := by
  refine ct_claim (O := O_w_FnExactReadSuper) (τ := τ_w_FnExactReadSuper) (EnvOk.of (by kernel_rfl) (by kernel_rfl)) (GOk.of (.cons ok_w_toByteS (.cons ok_w_eqByteS (.cons ok_w_markByteS (.cons ok_w_eqSuperResult (.cons ok_w_markSuperResult (.cons ok_w_heldSuperResult (.cons ok_i_ReadSuper (.cons ok_s_ReadSuper .nil))))))) : AllOk pg [(15, con_w_toByteS), (18, con_w_eqByteS), (19, con_w_markByteS), (44, con_w_eqSuperResult), (45, con_w_markSuperResult), (46, con_w_heldSuperResult), (43, con_i_ReadSuper), (42, con_s_ReadSuper)])) mixed (Enters.of (by kernel_rfl)) (fn := Go.Proofs.Tryd.f8) (by kernel_rfl) rfl (by kernel_rfl) ?_
  intro hp hw
  have hq : Q_w_FnExactReadSuper d := hp _ (List.mem_singleton.2 rfl)
  clear hp
  change claim Lg.std Alg.std τ_w_FnExactReadSuper (Gam.of [(15, ⟨true, g1 (pD (.sl (.int .u8))) fun a => .one ⟨[Q_w_toByteS a], [⟨(.sl (.int .u8)), (.ow .sh), F_w_toByteS a⟩], []⟩, [], false, 0⟩), (18, ⟨true, g2 (pD (.sl (.int .u8))) (pD (.sl (.int .u8))) fun a b => .one ⟨[Q_w_eqByteS a b], [⟨.bool, .sh, F_w_eqByteS a b⟩], []⟩, [], false, 0⟩), (19, ⟨true, g2 (pV (.sl (.int .u8)) (.ow .sh)) (pD (.int .i64)) fun a k => .one ⟨[Q_w_markByteS a k], [⟨(.int .i64), .sh, F_w_markByteS a k⟩], [.mv (.sl (.int .u8)) (.ow .sh) (B_w_markByteS_a a k)]⟩, [(.ow .sh)], false, 0⟩), (44, ⟨true, g2 (pD (.pair (.int .i64) (.pair (.pair (.int .i64) (.pair (.int .i64) (.pair (.int .i64) (.pair (.int .i64) (.pair (.int .i64) (.pair (.int .i64) (.pair .bool (.pair (.sl (.int .u8)) (.pair (.pair (.sl (.pair .str (.pair (.int .i64) .unit))) .unit) .unit))))))))) .unit))) (pD (.pair (.int .i64) (.pair (.pair (.int .i64) (.pair (.int .i64) (.pair (.int .i64) (.pair (.int .i64) (.pair (.int .i64) (.pair (.int .i64) (.pair .bool (.pair (.sl (.int .u8)) (.pair (.pair (.sl (.pair .str (.pair (.int .i64) .unit))) .unit) .unit))))))))) .unit))) fun a b => .one ⟨[Q_w_eqSuperResult a b], [⟨.bool, .sh, F_w_eqSuperResult a b⟩], []⟩, [], false, 0⟩), (45, ⟨true, g2 (pV (.pair (.int .i64) (.pair (.pair (.int .i64) (.pair (.int .i64) (.pair (.int .i64) (.pair (.int .i64) (.pair (.int .i64) (.pair (.int .i64) (.pair .bool (.pair (.sl (.int .u8)) (.pair (.pair (.sl (.pair .str (.pair (.int .i64) .unit))) .unit) .unit))))))))) .unit)) (.pr .sh (.pr (.pr .sh (.pr .sh (.pr .sh (.pr .sh (.pr .sh (.pr .sh (.pr .sh (.pr (.ow .sh) (.pr (.pr (.ow (.pr .sh (.pr .sh .sh))) .sh) .sh))))))))) .sh))) (pD (.int .i64)) fun a k => .one ⟨[Q_w_markSuperResult a k], [⟨(.int .i64), .sh, F_w_markSuperResult a k⟩], [.mv (.pair (.int .i64) (.pair (.pair (.int .i64) (.pair (.int .i64) (.pair (.int .i64) (.pair (.int .i64) (.pair (.int .i64) (.pair (.int .i64) (.pair .bool (.pair (.sl (.int .u8)) (.pair (.pair (.sl (.pair .str (.pair (.int .i64) .unit))) .unit) .unit))))))))) .unit)) (.pr .sh (.pr (.pr .sh (.pr .sh (.pr .sh (.pr .sh (.pr .sh (.pr .sh (.pr .sh (.pr (.ow .sh) (.pr (.pr (.ow (.pr .sh (.pr .sh .sh))) .sh) .sh))))))))) .sh)) (B_w_markSuperResult_a a k)]⟩, [(.pr .sh (.pr (.pr .sh (.pr .sh (.pr .sh (.pr .sh (.pr .sh (.pr .sh (.pr .sh (.pr (.ow .sh) (.pr (.pr (.ow (.pr .sh (.pr .sh .sh))) .sh) .sh))))))))) .sh))], false, 0⟩), (46, ⟨true, g2 (pD (.pair (.int .i64) (.pair (.pair (.int .i64) (.pair (.int .i64) (.pair (.int .i64) (.pair (.int .i64) (.pair (.int .i64) (.pair (.int .i64) (.pair .bool (.pair (.sl (.int .u8)) (.pair (.pair (.sl (.pair .str (.pair (.int .i64) .unit))) .unit) .unit))))))))) .unit))) (pD (.int .i64)) fun a k => .one ⟨[Q_w_heldSuperResult a k], [⟨(.int .i64), .sh, F_w_heldSuperResult a k⟩], []⟩, [], false, 0⟩), (43, ⟨true, g1 (pD (.sl (.int .u8))) fun data => .one ⟨[Q_i_ReadSuper data], [⟨(.pair (.int .i64) (.pair (.pair (.int .i64) (.pair (.int .i64) (.pair (.int .i64) (.pair (.int .i64) (.pair (.int .i64) (.pair (.int .i64) (.pair .bool (.pair (.sl (.int .u8)) (.pair (.pair (.sl (.pair .str (.pair (.int .i64) .unit))) .unit) .unit))))))))) .unit)), (.pr .sh (.pr (.pr .sh (.pr .sh (.pr .sh (.pr .sh (.pr .sh (.pr .sh (.pr .sh (.pr (.ow .sh) (.pr (.pr (.ow (.pr .sh (.pr .sh .sh))) .sh) .sh))))))))) .sh)), F_i_ReadSuper data⟩], []⟩, [], false, 0⟩), (42, ⟨true, g1 (pD (.sl (.int .u8))) fun data => .one ⟨[Q_s_ReadSuper data], [⟨(.pair (.int .i64) (.pair (.pair (.int .i64) (.pair (.int .i64) (.pair (.int .i64) (.pair (.int .i64) (.pair (.int .i64) (.pair (.int .i64) (.pair .bool (.pair (.sl (.int .u8)) (.pair (.pair (.sl (.pair .str (.pair (.int .i64) .unit))) .unit) .unit))))))))) .unit)), (.pr .sh (.pr (.pr .sh (.pr .sh (.pr .sh (.pr .sh (.pr .sh (.pr .sh (.pr .sh (.pr (.ow .sh) (.pr (.pr (.ow (.pr .sh (.pr .sh .sh))) .sh) .sh))))))))) .sh)), F_s_ReadSuper data⟩], []⟩, [], false, 0⟩)]) O_w_FnExactReadSuper Go.Proofs.Tryd.f8 [.dat (.sl (.int .u8)) d] ⟨[Q_w_FnExactReadSuper d], [⟨.bool, .sh, F_w_FnExactReadSuper d⟩], []⟩
  generalize hg_F_w_toByteS : F_w_toByteS = g_F_w_toByteS
  generalize hg_Q_w_toByteS : Q_w_toByteS = g_Q_w_toByteS
  generalize hg_F_w_eqByteS : F_w_eqByteS = g_F_w_eqByteS
  generalize hg_Q_w_eqByteS : Q_w_eqByteS = g_Q_w_eqByteS
  generalize hg_F_w_markByteS : F_w_markByteS = g_F_w_markByteS
  generalize hg_B_w_markByteS_a : B_w_markByteS_a = g_B_w_markByteS_a
  generalize hg_Q_w_markByteS : Q_w_markByteS = g_Q_w_markByteS
  generalize hg_F_w_eqSuperResult : F_w_eqSuperResult = g_F_w_eqSuperResult
  generalize hg_Q_w_eqSuperResult : Q_w_eqSuperResult = g_Q_w_eqSuperResult
  generalize hg_F_w_markSuperResult : F_w_markSuperResult = g_F_w_markSuperResult
  generalize hg_B_w_markSuperResult_a : B_w_markSuperResult_a = g_B_w_markSuperResult_a
  generalize hg_Q_w_markSuperResult : Q_w_markSuperResult = g_Q_w_markSuperResult
  generalize hg_F_w_heldSuperResult : F_w_heldSuperResult = g_F_w_heldSuperResult
  generalize hg_Q_w_heldSuperResult : Q_w_heldSuperResult = g_Q_w_heldSuperResult
  generalize hg_F_i_ReadSuper : F_i_ReadSuper = g_F_i_ReadSuper
  generalize hg_Q_i_ReadSuper : Q_i_ReadSuper = g_Q_i_ReadSuper
  generalize hg_F_s_ReadSuper : F_s_ReadSuper = g_F_s_ReadSuper
  generalize hg_Q_s_ReadSuper : Q_s_ReadSuper = g_Q_s_ReadSuper
  generalize hR0 : F_w_FnExactReadSuper d = R0
  generalize Q_w_FnExactReadSuper d = Q0
  generalize hL : Lg.std = L
  generalize hA : Alg.std = A
  cbv
  subst hL hA
  try dsimp only [Ty.den]
  have hct_d := cnt_tot (.sl (.int .u8)) d (by decide)
  have hcn := super_cnt _ (readSuper_lens d)
  have hc0 : cnt false (.pair (.int .i64) (.pair (.pair (.int .i64) (.pair (.int .i64) (.pair (.int .i64) (.pair (.int .i64) (.pair (.int .i64) (.pair (.int .i64) (.pair .bool (.pair (.sl (.int .u8)) (.pair (.pair (.sl (.pair .str (.pair (.int .i64) .unit))) .unit) .unit))))))))) .unit)) (readSuper d) ≤ 100 := by omega
  have htp : tot (.sl (.int .u8)) d = d.length := tot_int .u8 d
  subst hR0 hg_F_w_toByteS hg_Q_w_toByteS hg_F_w_eqByteS hg_Q_w_eqByteS hg_F_w_markByteS hg_B_w_markByteS_a hg_Q_w_markByteS hg_F_w_eqSuperResult hg_Q_w_eqSuperResult hg_F_w_markSuperResult hg_B_w_markSuperResult_a hg_Q_w_markSuperResult hg_F_w_heldSuperResult hg_Q_w_heldSuperResult hg_F_i_ReadSuper hg_Q_i_ReadSuper hg_F_s_ReadSuper hg_Q_s_ReadSuper
  simp only [Lg.std, Alg.std, List.drop_zero, List.take_length, F_w_toByteS, F_w_eqByteS, F_w_markByteS, F_w_eqSuperResult, F_w_markSuperResult, F_w_heldSuperResult, F_i_ReadSuper, F_s_ReadSuper, B_w_markByteS_a, B_w_markSuperResult_a, Q_w_toByteS, Q_w_eqByteS, Q_w_markByteS, Q_w_eqSuperResult, Q_w_markSuperResult, Q_w_heldSuperResult, Q_i_ReadSuper, Q_s_ReadSuper, F_w_FnExactReadSuper]
  generalize hW : (readSuper d : (Int) × ((Int) × (Int) × (Int) × (Int) × (Int) × (Int) × (Bool) × (List (Int)) × ((List ((List Int) × (Int) × Unit)) × Unit) × Unit) × Unit) = w at *
  clear hW
  obtain ⟨w_0, ⟨w_1_0, w_1_1, w_1_2, w_1_3, w_1_4, w_1_5, w_1_6, w_1_7, ⟨w_1_8_0, ⟨⟩⟩, ⟨⟩⟩, ⟨⟩⟩ := w
  try dsimp only at *
  have hm := hd_mk false (.pair (.int .i64) (.pair (.pair (.int .i64) (.pair (.int .i64) (.pair (.int .i64) (.pair (.int .i64) (.pair (.int .i64) (.pair (.int .i64) (.pair .bool (.pair (.sl (.int .u8)) (.pair (.pair (.sl (.pair .str (.pair (.int .i64) .unit))) .unit) .unit))))))))) .unit)) (w_0, (w_1_0, w_1_1, w_1_2, w_1_3, w_1_4, w_1_5, w_1_6, w_1_7, (w_1_8_0, PUnit.unit), PUnit.unit), PUnit.unit) 1 (by omega)

  have mt_w_1_7 := fun k => mk_take false (.int .u8) w_1_7 k
  dsimp only [Ty.den] at mt_w_1_7
  have mt_w_1_8_0 := fun k => mk_take false (.pair .str (.pair (.int .i64) .unit)) w_1_8_0 k
  dsimp only [Ty.den] at mt_w_1_8_0
  simp only [tot_p, tot_u, tot_i, tot_b, tot_s, cnt_p, cnt_u, cnt_i0, cnt_b0, cnt_s0, cnt_i1, cnt_b1, cnt_s1, cnt_l, mk_p, mk_u, mk_i0, mk_b0, mk_s0, mk_i1, mk_s1, mk_l, hd_p, hd_u, hd_i0, hd_b0, hd_s0, hd_i1, hd_b1, hd_s1, hd_l, mt_w_1_7, mt_w_1_8_0] at *
  repeat' (first | intro _ | apply And.intro)
  all_goals grind [szf, cnt_mk, hd_mk]
def con_w_FnExactReadSuper : Con := ⟨true, g1 (pD (.sl (.int .u8))) fun d => .one ⟨[Q_w_FnExactReadSuper d], [⟨.bool, .sh, F_w_FnExactReadSuper d⟩], []⟩, [], false, 0⟩
theorem ok_w_FnExactReadSuper : ConOk pg 8 con_w_FnExactReadSuper := ConOk.g1 (Enters.of (by kernel_rfl)) ct_w_FnExactReadSuper
end Go.Vee
