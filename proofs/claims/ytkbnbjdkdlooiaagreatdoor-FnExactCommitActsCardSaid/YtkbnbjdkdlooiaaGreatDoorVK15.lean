/-
  Contracts of functions of the program: what each returns for all arguments that its precondition lets in.
-/
import Derived.Test.YtkbnbjdkdlooiaaGreatDoorVK14
set_option linter.unusedSimpArgs false
set_option linter.unusedVariables false
set_option maxRecDepth 100000
set_option maxHeartbeats 4000000
set_option synthInstance.maxHeartbeats 4000000
set_option synthInstance.maxSize 20000
namespace Go.Vee
open Go
abbrev ActTy := Int × PutT × Unit
def actW (p : PutT) : ActTy := (1, p, ())
abbrev actF : ActTy := (2, putD, ())
def actsOf (l : List PutT) : List ActTy := l.map actW ++ [actF]
theorem drop_at {α : Type} {zs l : List α} {i : Nat} (d : α) (h : zs.drop i = l.drop i) : zs.getD i d = l.getD i d := by
  have h1 : (zs.drop i)[0]? = (l.drop i)[0]? := by rw [h]
  simpa [List.getD_eq_getElem?_getD] using congrArg (fun o => o.getD d) h1
theorem drop_next {α : Type} {zs l : List α} {i : Nat} (v : α) (h : zs.drop i = l.drop i) : (zs.set i v).drop (i + 1) = l.drop (i + 1) := by
  have h1 : (zs.drop i).drop 1 = (l.drop i).drop 1 := by rw [h]
  rw [List.drop_set_of_lt (by omega)]
  simpa [List.drop_drop] using h1
theorem take_map {α β : Type} (f : α → β) (l : List α) (d : α) (i : Nat) (h : i < l.length) : (l.take (i + 1)).map f = (l.take i).map f ++ [f (l.getD i d)] := by
  rw [List.take_add_one, List.getElem?_eq_getElem h, List.map_append]; simp only [Option.toList_some, List.map_cons, List.map_nil, List.getD_eq_getElem?_getD, List.getElem?_eq_getElem h, Option.getD_some]
theorem draftFault_96 (d : DraftT) (h : draftFault d = 0) : ∀ i, i < d.1.2.1.length → (d.1.2.1.getD i putD).2.1.length = 96 := fun i hi => ((diskFault_good d.1 (draftFault_disk d h)).w.2.2.2 i hi).2.2
theorem actsOf_tot (l : List PutT) (n : Nat) (hl : l.length ≤ n) (h : ∀ i, i < l.length → (l.getD i putD).2.1.length = 96) : tot (.sl (.pair (.int .i64) (.pair (.pair (.int .i64) (.pair (.sl (.int .u8)) .unit)) .unit))) (actsOf l) ≤ 97 * (n + 1) := by
  have e := totL_each (tot (.pair (.int .i64) (.pair (.pair (.int .i64) (.pair (.sl (.int .u8)) .unit)) .unit))) 96 actF (actsOf l) (fun i hi => by
    simp only [actsOf, List.length_append, List.length_map, List.length_singleton] at hi
    by_cases hlt : i < l.length
    · have e1 : (actsOf l).getD i actF = actW (l.getD i putD) := by
        simp only [actsOf, List.getD_eq_getElem?_getD]
        rw [List.getElem?_append_left (by simpa using hlt)]
        simp [List.getElem?_eq_getElem hlt]
      rw [e1]
      have := h i hlt
      simp only [actW, tot_p, tot_u, tot_i, tot_int]; omega
    · have e1 : (actsOf l).getD i actF = actF := by
        have : i = l.length := by omega
        subst this
        simp [actsOf, List.getD_eq_getElem?_getD]
      rw [e1]
      simp [tot_p, tot_u, tot_i, tot_int])
  have hlen : (actsOf l).length = l.length + 1 := by simp [actsOf]
  show totL (tot (.pair (.int .i64) (.pair (.pair (.int .i64) (.pair (.sl (.int .u8)) .unit)) .unit))) (actsOf l) ≤ _
  rw [hlen] at e
  omega

def F_w_eqActsResult (a : (Int) × (List ((Int) × ((Int) × (List (Int)) × Unit) × Unit)) × Unit) (b : (Int) × (List ((Int) × ((Int) × (List (Int)) × Unit) × Unit)) × Unit) : Bool := decide (a = b)
def Q_w_eqActsResult (a : (Int) × (List ((Int) × ((Int) × (List (Int)) × Unit) × Unit)) × Unit) (b : (Int) × (List ((Int) × ((Int) × (List (Int)) × Unit) × Unit)) × Unit) : Prop := True
def O_w_eqActsResult : Opt := ⟨fun i => false, fun i => [], fun i => .done, fun i => none, fun i => false, fun i => [], fun i => false, fun i => none⟩
def τ_w_eqActsResult : Env := Env.of [(2, (.int .i64)), (4, .bool), (69, (.sl (.pair (.int .i64) (.pair (.pair (.int .i64) (.pair (.sl (.int .u8)) .unit)) .unit)))), (71, (.pair (.int .i64) (.pair (.sl (.pair (.int .i64) (.pair (.pair (.int .i64) (.pair (.sl (.int .u8)) .unit)) .unit))) .unit)))] [] []

theorem ct_w_eqActsResult (a : (Int) × (List ((Int) × ((Int) × (List (Int)) × Unit) × Unit)) × Unit) (b : (Int) × (List ((Int) × ((Int) × (List (Int)) × Unit) × Unit)) × Unit) : Ct pg 35 [.dat (.pair (.int .i64) (.pair (.sl (.pair (.int .i64) (.pair (.pair (.int .i64) (.pair (.sl (.int .u8)) .unit)) .unit))) .unit)) a, .dat (.pair (.int .i64) (.pair (.sl (.pair (.int .i64) (.pair (.pair (.int .i64) (.pair (.sl (.int .u8)) .unit)) .unit))) .unit)) b] ⟨[Q_w_eqActsResult a b], [⟨.bool, .sh, F_w_eqActsResult a b⟩], []⟩ := by
  refine ct_claim (O := O_w_eqActsResult) (τ := τ_w_eqActsResult) (EnvOk.of (by kernel_rfl) (by kernel_rfl)) (GOk.of (.cons ok_w_eqActS .nil : AllOk pg [(89, con_w_eqActS)])) mixed (Enters.of (by kernel_rfl)) (fn := Go.Proofs.Tryz.f35) (by kernel_rfl) rfl (by kernel_rfl) ?_
  intro hp hw
  have hq : Q_w_eqActsResult a b := hp _ (List.mem_singleton.2 rfl)
  clear hp
  change claim Lg.std Alg.std τ_w_eqActsResult (Gam.of [(89, ⟨true, g2 (pD (.sl (.pair (.int .i64) (.pair (.pair (.int .i64) (.pair (.sl (.int .u8)) .unit)) .unit)))) (pD (.sl (.pair (.int .i64) (.pair (.pair (.int .i64) (.pair (.sl (.int .u8)) .unit)) .unit)))) fun a b => ⟨[Q_w_eqActS a b], [⟨.bool, .sh, F_w_eqActS a b⟩], []⟩, [], false, 0⟩)]) O_w_eqActsResult Go.Proofs.Tryz.f35 [.dat (.pair (.int .i64) (.pair (.sl (.pair (.int .i64) (.pair (.pair (.int .i64) (.pair (.sl (.int .u8)) .unit)) .unit))) .unit)) a, .dat (.pair (.int .i64) (.pair (.sl (.pair (.int .i64) (.pair (.pair (.int .i64) (.pair (.sl (.int .u8)) .unit)) .unit))) .unit)) b] ⟨[Q_w_eqActsResult a b], [⟨.bool, .sh, F_w_eqActsResult a b⟩], []⟩
  generalize hg_F_w_eqActS : F_w_eqActS = g_F_w_eqActS
  generalize hg_Q_w_eqActS : Q_w_eqActS = g_Q_w_eqActS
  generalize hR0 : F_w_eqActsResult a b = R0
  generalize Q_w_eqActsResult a b = Q0
  generalize hL : Lg.std = L
  generalize hA : Alg.std = A
  cbv
  subst hL hA
  try dsimp only [Ty.den]
  obtain ⟨f0, f1, ⟨⟩⟩ := a
  obtain ⟨g0, g1, ⟨⟩⟩ := b
  subst hR0 hg_F_w_eqActS hg_Q_w_eqActS
  simp only [Q_w_eqActsResult] at hq
  simp only [Lg.std, Alg.std, List.drop_zero, List.take_length, F_w_eqActS, Q_w_eqActS, F_w_eqActsResult]
  all_goals grind
def con_w_eqActsResult : Con := ⟨true, g2 (pD (.pair (.int .i64) (.pair (.sl (.pair (.int .i64) (.pair (.pair (.int .i64) (.pair (.sl (.int .u8)) .unit)) .unit))) .unit))) (pD (.pair (.int .i64) (.pair (.sl (.pair (.int .i64) (.pair (.pair (.int .i64) (.pair (.sl (.int .u8)) .unit)) .unit))) .unit))) fun a b => ⟨[Q_w_eqActsResult a b], [⟨.bool, .sh, F_w_eqActsResult a b⟩], []⟩, [], false, 0⟩
theorem ok_w_eqActsResult : ConOk pg 35 con_w_eqActsResult := ConOk.g2 (Enters.of (by kernel_rfl)) ct_w_eqActsResult

def F_w_markActsResult (a : (Int) × (List ((Int) × ((Int) × (List (Int)) × Unit) × Unit)) × Unit) (k : Int) : Int := k + cnt false (.pair (.int .i64) (.pair (.sl (.pair (.int .i64) (.pair (.pair (.int .i64) (.pair (.sl (.int .u8)) .unit)) .unit))) .unit)) a
def B_w_markActsResult_a (a : (Int) × (List ((Int) × ((Int) × (List (Int)) × Unit) × Unit)) × Unit) (k : Int) : (Int) × (List ((Int) × ((Int) × (List (Int)) × Unit) × Unit)) × Unit := mk false (.pair (.int .i64) (.pair (.sl (.pair (.int .i64) (.pair (.pair (.int .i64) (.pair (.sl (.int .u8)) .unit)) .unit))) .unit)) a k
def Q_w_markActsResult (a : (Int) × (List ((Int) × ((Int) × (List (Int)) × Unit) × Unit)) × Unit) (k : Int) : Prop := 0 ≤ k ∧ k + cnt false (.pair (.int .i64) (.pair (.sl (.pair (.int .i64) (.pair (.pair (.int .i64) (.pair (.sl (.int .u8)) .unit)) .unit))) .unit)) a ≤ 4611686018427387904
def O_w_markActsResult : Opt := ⟨fun i => false, fun i => [], fun i => .done, fun i => none, fun i => false, fun i => [], fun i => false, fun i => none⟩
def τ_w_markActsResult : Env := Env.of [(3, (.int .i64)), (4, .bool), (69, (.sl (.pair (.int .i64) (.pair (.pair (.int .i64) (.pair (.sl (.int .u8)) .unit)) .unit)))), (71, (.pair (.int .i64) (.pair (.sl (.pair (.int .i64) (.pair (.pair (.int .i64) (.pair (.sl (.int .u8)) .unit)) .unit))) .unit)))] [] []

theorem ct_w_markActsResult (a : (Int) × (List ((Int) × ((Int) × (List (Int)) × Unit) × Unit)) × Unit) (k : Int) : Ct pg 40 [.mv (.pair (.int .i64) (.pair (.sl (.pair (.int .i64) (.pair (.pair (.int .i64) (.pair (.sl (.int .u8)) .unit)) .unit))) .unit)) (.pr .sh (.pr (.ow (.pr .sh (.pr (.pr .sh (.pr (.ow .sh) .sh)) .sh))) .sh)) a, .dat (.int .i64) k] ⟨[Q_w_markActsResult a k], [⟨(.int .i64), .sh, F_w_markActsResult a k⟩], [.mv (.pair (.int .i64) (.pair (.sl (.pair (.int .i64) (.pair (.pair (.int .i64) (.pair (.sl (.int .u8)) .unit)) .unit))) .unit)) (.pr .sh (.pr (.ow (.pr .sh (.pr (.pr .sh (.pr (.ow .sh) .sh)) .sh))) .sh)) (B_w_markActsResult_a a k)]⟩ := by
  refine ct_claim (O := O_w_markActsResult) (τ := τ_w_markActsResult) (EnvOk.of (by kernel_rfl) (by kernel_rfl)) (GOk.of (.cons ok_w_markActS .nil : AllOk pg [(92, con_w_markActS)])) mixed (Enters.of (by kernel_rfl)) (fn := Go.Proofs.Tryz.f40) (by kernel_rfl) rfl (by kernel_rfl) ?_
  intro hp hw
  have hq : Q_w_markActsResult a k := hp _ (List.mem_singleton.2 rfl)
  clear hp
  change claim Lg.std Alg.std τ_w_markActsResult (Gam.of [(92, ⟨true, g2 (pV (.sl (.pair (.int .i64) (.pair (.pair (.int .i64) (.pair (.sl (.int .u8)) .unit)) .unit))) (.ow (.pr .sh (.pr (.pr .sh (.pr (.ow .sh) .sh)) .sh)))) (pD (.int .i64)) fun a k => ⟨[Q_w_markActS a k], [⟨(.int .i64), .sh, F_w_markActS a k⟩], [.mv (.sl (.pair (.int .i64) (.pair (.pair (.int .i64) (.pair (.sl (.int .u8)) .unit)) .unit))) (.ow (.pr .sh (.pr (.pr .sh (.pr (.ow .sh) .sh)) .sh))) (B_w_markActS_a a k)]⟩, [(.ow (.pr .sh (.pr (.pr .sh (.pr (.ow .sh) .sh)) .sh)))], false, 0⟩)]) O_w_markActsResult Go.Proofs.Tryz.f40 [.mv (.pair (.int .i64) (.pair (.sl (.pair (.int .i64) (.pair (.pair (.int .i64) (.pair (.sl (.int .u8)) .unit)) .unit))) .unit)) (.pr .sh (.pr (.ow (.pr .sh (.pr (.pr .sh (.pr (.ow .sh) .sh)) .sh))) .sh)) a, .dat (.int .i64) k] ⟨[Q_w_markActsResult a k], [⟨(.int .i64), .sh, F_w_markActsResult a k⟩], [.mv (.pair (.int .i64) (.pair (.sl (.pair (.int .i64) (.pair (.pair (.int .i64) (.pair (.sl (.int .u8)) .unit)) .unit))) .unit)) (.pr .sh (.pr (.ow (.pr .sh (.pr (.pr .sh (.pr (.ow .sh) .sh)) .sh))) .sh)) (B_w_markActsResult_a a k)]⟩
  generalize hg_F_w_markActS : F_w_markActS = g_F_w_markActS
  generalize hg_B_w_markActS_a : B_w_markActS_a = g_B_w_markActS_a
  generalize hg_Q_w_markActS : Q_w_markActS = g_Q_w_markActS
  generalize hR0 : F_w_markActsResult a k = R0
  generalize hB_a : B_w_markActsResult_a a k = B_a
  generalize Q_w_markActsResult a k = Q0
  generalize hL : Lg.std = L
  generalize hA : Alg.std = A
  cbv
  subst hL hA
  try dsimp only [Ty.den]
  obtain ⟨f0, f1, ⟨⟩⟩ := a
  simp only [Q_w_markActsResult] at hq
  subst hR0 hB_a hg_F_w_markActS hg_B_w_markActS_a hg_Q_w_markActS
  simp only [Lg.std, Alg.std, List.drop_zero, List.take_length, F_w_markActS, B_w_markActS_a, Q_w_markActS, F_w_markActsResult, B_w_markActsResult_a, szf, tot_p, tot_u, tot_i, tot_b, tot_s, cnt_p, cnt_u, cnt_i0, cnt_b0, cnt_s0, cnt_i1, cnt_b1, cnt_s1, cnt_l, mk_p, mk_u, mk_i0, mk_b0, mk_s0, mk_i1, mk_s1, mk_l, hd_p, hd_u, hd_i0, hd_b0, hd_s0, hd_i1, hd_b1, hd_s1, hd_l] at *
  all_goals grind [mk_len]
def con_w_markActsResult : Con := ⟨true, g2 (pV (.pair (.int .i64) (.pair (.sl (.pair (.int .i64) (.pair (.pair (.int .i64) (.pair (.sl (.int .u8)) .unit)) .unit))) .unit)) (.pr .sh (.pr (.ow (.pr .sh (.pr (.pr .sh (.pr (.ow .sh) .sh)) .sh))) .sh))) (pD (.int .i64)) fun a k => ⟨[Q_w_markActsResult a k], [⟨(.int .i64), .sh, F_w_markActsResult a k⟩], [.mv (.pair (.int .i64) (.pair (.sl (.pair (.int .i64) (.pair (.pair (.int .i64) (.pair (.sl (.int .u8)) .unit)) .unit))) .unit)) (.pr .sh (.pr (.ow (.pr .sh (.pr (.pr .sh (.pr (.ow .sh) .sh)) .sh))) .sh)) (B_w_markActsResult_a a k)]⟩, [(.pr .sh (.pr (.ow (.pr .sh (.pr (.pr .sh (.pr (.ow .sh) .sh)) .sh))) .sh))], false, 0⟩
theorem ok_w_markActsResult : ConOk pg 40 con_w_markActsResult := ConOk.g2 (Enters.of (by kernel_rfl)) ct_w_markActsResult

def F_w_heldActsResult (a : (Int) × (List ((Int) × ((Int) × (List (Int)) × Unit) × Unit)) × Unit) (k : Int) : Int := hd false (.pair (.int .i64) (.pair (.sl (.pair (.int .i64) (.pair (.pair (.int .i64) (.pair (.sl (.int .u8)) .unit)) .unit))) .unit)) a k
def Q_w_heldActsResult (a : (Int) × (List ((Int) × ((Int) × (List (Int)) × Unit) × Unit)) × Unit) (k : Int) : Prop := 0 ≤ k ∧ k + cnt false (.pair (.int .i64) (.pair (.sl (.pair (.int .i64) (.pair (.pair (.int .i64) (.pair (.sl (.int .u8)) .unit)) .unit))) .unit)) a ≤ 4611686018427387904
def O_w_heldActsResult : Opt := ⟨fun i => false, fun i => [], fun i => .done, fun i => none, fun i => false, fun i => [], fun i => false, fun i => none⟩
def τ_w_heldActsResult : Env := Env.of [(3, (.int .i64)), (4, .bool), (69, (.sl (.pair (.int .i64) (.pair (.pair (.int .i64) (.pair (.sl (.int .u8)) .unit)) .unit)))), (71, (.pair (.int .i64) (.pair (.sl (.pair (.int .i64) (.pair (.pair (.int .i64) (.pair (.sl (.int .u8)) .unit)) .unit))) .unit)))] [] []

theorem ct_w_heldActsResult (a : (Int) × (List ((Int) × ((Int) × (List (Int)) × Unit) × Unit)) × Unit) (k : Int) : Ct pg 41 [.dat (.pair (.int .i64) (.pair (.sl (.pair (.int .i64) (.pair (.pair (.int .i64) (.pair (.sl (.int .u8)) .unit)) .unit))) .unit)) a, .dat (.int .i64) k] ⟨[Q_w_heldActsResult a k], [⟨(.int .i64), .sh, F_w_heldActsResult a k⟩], []⟩ := by
  refine ct_claim (O := O_w_heldActsResult) (τ := τ_w_heldActsResult) (EnvOk.of (by kernel_rfl) (by kernel_rfl)) (GOk.of (.cons ok_w_heldActS .nil : AllOk pg [(93, con_w_heldActS)])) mixed (Enters.of (by kernel_rfl)) (fn := Go.Proofs.Tryz.f41) (by kernel_rfl) rfl (by kernel_rfl) ?_
  intro hp hw
  have hq : Q_w_heldActsResult a k := hp _ (List.mem_singleton.2 rfl)
  clear hp
  change claim Lg.std Alg.std τ_w_heldActsResult (Gam.of [(93, ⟨true, g2 (pD (.sl (.pair (.int .i64) (.pair (.pair (.int .i64) (.pair (.sl (.int .u8)) .unit)) .unit)))) (pD (.int .i64)) fun a k => ⟨[Q_w_heldActS a k], [⟨(.int .i64), .sh, F_w_heldActS a k⟩], []⟩, [], false, 0⟩)]) O_w_heldActsResult Go.Proofs.Tryz.f41 [.dat (.pair (.int .i64) (.pair (.sl (.pair (.int .i64) (.pair (.pair (.int .i64) (.pair (.sl (.int .u8)) .unit)) .unit))) .unit)) a, .dat (.int .i64) k] ⟨[Q_w_heldActsResult a k], [⟨(.int .i64), .sh, F_w_heldActsResult a k⟩], []⟩
  generalize hg_F_w_heldActS : F_w_heldActS = g_F_w_heldActS
  generalize hg_Q_w_heldActS : Q_w_heldActS = g_Q_w_heldActS
  generalize hR0 : F_w_heldActsResult a k = R0
  generalize Q_w_heldActsResult a k = Q0
  generalize hL : Lg.std = L
  generalize hA : Alg.std = A
  cbv
  subst hL hA
  try dsimp only [Ty.den]
  obtain ⟨f0, f1, ⟨⟩⟩ := a
  have ho1 := fun k h => hd_or false (.sl (.pair (.int .i64) (.pair (.pair (.int .i64) (.pair (.sl (.int .u8)) .unit)) .unit))) f1 k h
  simp only [Q_w_heldActsResult] at hq
  subst hR0 hg_F_w_heldActS hg_Q_w_heldActS
  simp only [Lg.std, Alg.std, List.drop_zero, List.take_length, F_w_heldActS, Q_w_heldActS, F_w_heldActsResult, szf, tot_p, tot_u, tot_i, tot_b, tot_s, cnt_p, cnt_u, cnt_i0, cnt_b0, cnt_s0, cnt_i1, cnt_b1, cnt_s1, cnt_l, mk_p, mk_u, mk_i0, mk_b0, mk_s0, mk_i1, mk_s1, mk_l, hd_p, hd_u, hd_i0, hd_b0, hd_s0, hd_i1, hd_b1, hd_s1, hd_l] at *
  all_goals grind [mk_len]
def con_w_heldActsResult : Con := ⟨true, g2 (pD (.pair (.int .i64) (.pair (.sl (.pair (.int .i64) (.pair (.pair (.int .i64) (.pair (.sl (.int .u8)) .unit)) .unit))) .unit))) (pD (.int .i64)) fun a k => ⟨[Q_w_heldActsResult a k], [⟨(.int .i64), .sh, F_w_heldActsResult a k⟩], []⟩, [], false, 0⟩
theorem ok_w_heldActsResult : ConOk pg 41 con_w_heldActsResult := ConOk.g2 (Enters.of (by kernel_rfl)) ct_w_heldActsResult

def F_i_Draft_acts (d : ((List (List (Int))) × (List ((Int) × (List (Int)) × Unit)) × Unit) × (List (Int)) × (List (Int)) × Unit) : List ((Int) × ((Int) × (List (Int)) × Unit) × Unit) := actsOf d.1.2.1
def Q_i_Draft_acts (d : ((List (List (Int))) × (List ((Int) × (List (Int)) × Unit)) × Unit) × (List (Int)) × (List (Int)) × Unit) : Prop := (tot tDisk d.1 ≤ 1048576 ∧ d.2.1.length ≤ 1048576 ∧ d.2.2.1.length ≤ 1048576) ∧ ∀ i, i < d.1.2.1.length → (d.1.2.1.getD i putD).2.1.length = 96
def O_i_Draft_acts : Opt := ⟨fun i => false, fun i => (match decide (i = 3) with | true => [false, false, false, true, false, false, false, false, false, false, false, false, true, true, true, false, false, false, false, false, false, false, false, false, false, false, false, false] | false => []), fun i => .done, fun i => none, fun i => (match decide (i = 3) with | true => true | false => false), fun i => (match decide (i = 3) with | true => [(12, none, (.pair (.int .i64) (.pair (.sl (.int .u8)) .unit)), (.pr .sh (.pr .no .sh)))] | false => []), fun i => false, fun i => none⟩
def τ_i_Draft_acts : Env := Env.of [(2, (.int .i64)), (3, (.int .i64)), (36, (.sl (.pair (.int .i64) (.pair (.sl (.int .u8)) .unit)))), (38, (.pair (.sl (.sl (.int .u8))) (.pair (.sl (.pair (.int .i64) (.pair (.sl (.int .u8)) .unit))) .unit))), (69, (.sl (.pair (.int .i64) (.pair (.pair (.int .i64) (.pair (.sl (.int .u8)) .unit)) .unit)))), (74, (.pair (.pair (.sl (.sl (.int .u8))) (.pair (.sl (.pair (.int .i64) (.pair (.sl (.int .u8)) .unit))) .unit)) (.pair (.sl (.int .i64)) (.pair (.sl (.int .i64)) .unit)))), (156, (.pair (.int .i64) (.pair (.sl (.int .u8)) .unit))), (195, (.pair (.int .i64) (.pair (.pair (.int .i64) (.pair (.sl (.int .u8)) .unit)) .unit)))] [(129, (.pair (.pair (.sl (.sl (.int .u8))) (.pair (.sl (.pair (.int .i64) (.pair (.sl (.int .u8)) .unit))) .unit)) (.pair (.sl (.int .i64)) (.pair (.sl (.int .i64)) .unit))))] []

theorem ct_i_Draft_acts (d : ((List (List (Int))) × (List ((Int) × (List (Int)) × Unit)) × Unit) × (List (Int)) × (List (Int)) × Unit) : Ct pg 157 [.dptr (.pair (.pair (.sl (.sl (.int .u8))) (.pair (.sl (.pair (.int .i64) (.pair (.sl (.int .u8)) .unit))) .unit)) (.pair (.sl (.int .i64)) (.pair (.sl (.int .i64)) .unit))) d] ⟨[Q_i_Draft_acts d], [⟨(.sl (.pair (.int .i64) (.pair (.pair (.int .i64) (.pair (.sl (.int .u8)) .unit)) .unit))), (.ow (.pr .sh (.pr (.pr .sh (.pr (.ow .sh) .sh)) .sh))), F_i_Draft_acts d⟩], []⟩ := by
  refine ct_claim (O := O_i_Draft_acts) (τ := τ_i_Draft_acts) (EnvOk.of (by kernel_rfl) (by kernel_rfl)) (GOk.of (.cons ok_i_ownPuts .nil : AllOk pg [(202, con_i_ownPuts)])) mixed (Enters.of (by kernel_rfl)) (fn := Go.Proofs.Tryz.f157) (by kernel_rfl) rfl (by kernel_rfl) ?_
  intro hp hw
  have hq : Q_i_Draft_acts d := hp _ (List.mem_singleton.2 rfl)
  clear hp
  change claim Lg.std Alg.std τ_i_Draft_acts (Gam.of [(202, ⟨true, g1 (pD (.sl (.pair (.int .i64) (.pair (.sl (.int .u8)) .unit)))) fun list => ⟨[Q_i_ownPuts list], [⟨(.sl (.pair (.int .i64) (.pair (.sl (.int .u8)) .unit))), (.ow (.pr .sh (.pr (.ow .sh) .sh))), F_i_ownPuts list⟩], []⟩, [], false, 0⟩)]) O_i_Draft_acts Go.Proofs.Tryz.f157 [.dptr (.pair (.pair (.sl (.sl (.int .u8))) (.pair (.sl (.pair (.int .i64) (.pair (.sl (.int .u8)) .unit))) .unit)) (.pair (.sl (.int .i64)) (.pair (.sl (.int .i64)) .unit))) d] ⟨[Q_i_Draft_acts d], [⟨(.sl (.pair (.int .i64) (.pair (.pair (.int .i64) (.pair (.sl (.int .u8)) .unit)) .unit))), (.ow (.pr .sh (.pr (.pr .sh (.pr (.ow .sh) .sh)) .sh))), F_i_Draft_acts d⟩], []⟩
  generalize hg_F_i_ownPuts : F_i_ownPuts = g_F_i_ownPuts
  generalize hg_Q_i_ownPuts : Q_i_ownPuts = g_Q_i_ownPuts
  generalize hR0 : F_i_Draft_acts d = R0
  generalize Q_i_Draft_acts d = Q0
  generalize hL : Lg.std = L
  generalize hA : Alg.std = A
  cbv
  subst hL hA
  try dsimp only [Ty.den]
  obtain ⟨⟨d_0_0, d_0_1, ⟨⟩⟩, d_1, d_2, ⟨⟩⟩ := d
  simp only [Q_i_Draft_acts] at hq
  have hle := tot_len tPut d_0_1
  simp only [tot_p, tot_u] at hq
  repeat' (first | intro _ | apply And.intro)
  all_goals first | trivial | ((fail_if_success (refine lp_v (V := Unit) (fun _ => ⟨[], []⟩) (fun _ => True) (fun _ => 0) () ?_ ?_ ?_)); subst hR0 hg_F_i_ownPuts hg_Q_i_ownPuts; (try simp only [Alg.std, F_i_ownPuts, Q_i_ownPuts, F_i_Draft_acts] at *); all_goals grind) | skip
  refine lp_v (V := (Int) × (Int) × (Nat) × (List ActTy) × (Nat) × (List PutT)) (fun ((i, M, N, xs, K, zs) : (Int) × (Int) × (Nat) × (List ActTy) × (Nat) × (List PutT)) => ⟨[.junk, .junk, .junk, .ref (.pair (.int .i64) (.pair (.pair (.int .i64) (.pair (.sl (.int .u8)) .unit)) .unit)) 0 0 [] 0 N, .junk, .junk, .junk, .junk, .junk, .junk, .junk, .junk, .ref (.pair (.int .i64) (.pair (.sl (.int .u8)) .unit)) 1 0 [] 0 K, .dat (.int .i64) M, .dat (.int .i64) i, .junk, .junk, .junk, .junk, .junk, .junk, .junk, .junk, .junk, .junk, .junk, .junk, .junk], [some (.row 0 (.pair (.int .i64) (.pair (.pair (.int .i64) (.pair (.sl (.int .u8)) .unit)) .unit)) (.pr .sh (.pr (.pr .sh (.pr (.ow .sh) .sh)) .sh)) xs), some (.row 0 (.pair (.int .i64) (.pair (.sl (.int .u8)) .unit)) (.pr .sh (.pr .no .sh)) zs)]⟩) (fun ((i, M, N, xs, K, zs) : (Int) × (Int) × (Nat) × (List ActTy) × (Nat) × (List PutT)) => M = d_0_1.length ∧ N = xs.length ∧ K = d_0_1.length ∧ 0 ≤ i ∧ i ≤ d_0_1.length ∧ xs = (d_0_1.take i.toNat).map actW ∧ zs.drop i.toNat = d_0_1.drop i.toNat) (fun ((i, M, N, xs, K, zs) : (Int) × (Int) × (Nat) × (List ActTy) × (Nat) × (List PutT)) => d_0_1.length - i.toNat) (0, _, _, _, _, _) rfl ?_ ?_
  · subst hR0 hg_F_i_ownPuts hg_Q_i_ownPuts
    (try simp only [Alg.std, F_i_ownPuts, Q_i_ownPuts, F_i_Draft_acts] at *)
    all_goals grind
  rintro ⟨i, M, N, xs, K, zs⟩ hf I hI
  replace hf : M = d_0_1.length ∧ N = xs.length ∧ K = d_0_1.length ∧ 0 ≤ i ∧ i ≤ d_0_1.length ∧ xs = (d_0_1.take i.toNat).map actW ∧ zs.drop i.toNat = d_0_1.drop i.toNat := hf
  generalize hL : Lg.std = L
  generalize hA : Alg.std = A
  cbv
  subst hL hA
  try dsimp only [Ty.den]
  subst hI
  obtain ⟨h1, h2, h3, h4, h5, h6, h7⟩ := hf
  have h5' : i ≤ (d_0_1.length : Int) := h5
  have hsu : (i + 1).toNat = i.toNat + 1 := by omega
  have ha := drop_at (zs := zs) putD h7
  have hn := fun v => drop_next (zs := zs) v h7
  have ht := fun (h : i.toNat < d_0_1.length) => take_map actW d_0_1 putD i.toNat h
  have hb := fun (h : i.toNat < d_0_1.length) => hq.2 i.toNat h
  have hxl : xs.length = i.toNat := by rw [h6, List.length_map, List.length_take]; exact Nat.min_eq_left (by omega)
  have hta := fun (h : d_0_1.length ≤ i.toNat) => List.take_of_length_le h
  try dsimp only [putD] at ha hb ht hn
  repeat' (first | intro _ | apply And.intro)
  all_goals first | (with_reducible exact True.intro) | ((fail_if_success (refine lp_v (V := Unit) (fun _ => ⟨[], []⟩) (fun _ => True) (fun _ => 0) () ?_ ?_ ?_)); (try simp only [Lg.std, Alg.std, List.drop_zero, List.take_length] at *); (try refine ⟨(_, _, _, _, _, _), rfl, ?_, ?_⟩); (all_goals (subst hR0 hg_F_i_ownPuts hg_Q_i_ownPuts; (try simp only [Lg.std, Alg.std, List.drop_zero, List.take_length, F_i_ownPuts, Q_i_ownPuts, F_i_Draft_acts] at *); first | done | ((try simp only [ha] at *); (try generalize d_0_1.getD i.toNat (0, [], ()) = xa at *); (try obtain ⟨xa0, xa1, ⟨⟩⟩ := xa); (try dsimp only [actW] at *); grind [actsOf, actW])))) | skip
def con_i_Draft_acts : Con := ⟨true, g1 (pP (.pair (.pair (.sl (.sl (.int .u8))) (.pair (.sl (.pair (.int .i64) (.pair (.sl (.int .u8)) .unit))) .unit)) (.pair (.sl (.int .i64)) (.pair (.sl (.int .i64)) .unit)))) fun d => ⟨[Q_i_Draft_acts d], [⟨(.sl (.pair (.int .i64) (.pair (.pair (.int .i64) (.pair (.sl (.int .u8)) .unit)) .unit))), (.ow (.pr .sh (.pr (.pr .sh (.pr (.ow .sh) .sh)) .sh))), F_i_Draft_acts d⟩], []⟩, [], false, 0⟩
theorem ok_i_Draft_acts : ConOk pg 157 con_i_Draft_acts := ConOk.g1 (Enters.of (by kernel_rfl)) ct_i_Draft_acts

def F_s_l16Acts (d : ((List (List (Int))) × (List ((Int) × (List (Int)) × Unit)) × Unit) × (List (Int)) × (List (Int)) × Unit) : List ((Int) × ((Int) × (List (Int)) × Unit) × Unit) := actsOf d.1.2.1
def Q_s_l16Acts (d : ((List (List (Int))) × (List ((Int) × (List (Int)) × Unit)) × Unit) × (List (Int)) × (List (Int)) × Unit) : Prop := (tot tDisk d.1 ≤ 1048576 ∧ d.2.1.length ≤ 1048576 ∧ d.2.2.1.length ≤ 1048576) ∧ ∀ i, i < d.1.2.1.length → (d.1.2.1.getD i putD).2.1.length = 96
def O_s_l16Acts : Opt := ⟨fun i => false, fun i => (match decide (i = 3) with | true => [true, false, false, true, true, false, false, false, false, false, false, false, false, false, false, false, false, false, false, false, false, false, false, false, false, false, false, false, false, false, false, false, false, false, false, false, false, false, false] | false => []), fun i => (match decide (i = 6) with | true => (.take 0 (.take 1 (.take 3 (.alt 2 (.alt 4 (.alt 5 (.take 6 (.take 7 (.alt 8 (.alt 9 (.take 10 .done) .no) .no))) .no) .no) (.alt 4 (.alt 2 (.alt 5 (.take 6 (.take 7 (.alt 8 (.alt 9 (.take 10 .done) .no) .no))) .no) (.alt 5 (.alt 2 (.take 6 (.take 7 (.alt 8 (.alt 9 (.take 10 .done) .no) .no))) .no) .no)) .no))))) | false => .done), fun i => (match decide (i = 6) with | true => some [true, false, false, true, true, false, false, false, false, false, false, false, false, false, false, false, false, false, false, false, false, false, false, false, false, false, false, false, false, false, false, false, false, false, false, false, false, false, false] | false => none), fun i => false, fun i => [], fun i => false, fun i => none⟩
def τ_s_l16Acts : Env := Env.of [(2, (.int .i64)), (3, (.int .i64)), (4, .bool), (27, (.sl (.int .u8))), (36, (.sl (.pair (.int .i64) (.pair (.sl (.int .u8)) .unit)))), (38, (.pair (.sl (.sl (.int .u8))) (.pair (.sl (.pair (.int .i64) (.pair (.sl (.int .u8)) .unit))) .unit))), (69, (.sl (.pair (.int .i64) (.pair (.pair (.int .i64) (.pair (.sl (.int .u8)) .unit)) .unit)))), (74, (.pair (.pair (.sl (.sl (.int .u8))) (.pair (.sl (.pair (.int .i64) (.pair (.sl (.int .u8)) .unit))) .unit)) (.pair (.sl (.int .i64)) (.pair (.sl (.int .i64)) .unit)))), (156, (.pair (.int .i64) (.pair (.sl (.int .u8)) .unit))), (195, (.pair (.int .i64) (.pair (.pair (.int .i64) (.pair (.sl (.int .u8)) .unit)) .unit)))] [(129, (.pair (.pair (.sl (.sl (.int .u8))) (.pair (.sl (.pair (.int .i64) (.pair (.sl (.int .u8)) .unit))) .unit)) (.pair (.sl (.int .i64)) (.pair (.sl (.int .i64)) .unit))))] []

theorem ct_s_l16Acts (d : ((List (List (Int))) × (List ((Int) × (List (Int)) × Unit)) × Unit) × (List (Int)) × (List (Int)) × Unit) : Ct pg 145 [.dptr (.pair (.pair (.sl (.sl (.int .u8))) (.pair (.sl (.pair (.int .i64) (.pair (.sl (.int .u8)) .unit))) .unit)) (.pair (.sl (.int .i64)) (.pair (.sl (.int .i64)) .unit))) d] ⟨[Q_s_l16Acts d], [⟨(.sl (.pair (.int .i64) (.pair (.pair (.int .i64) (.pair (.sl (.int .u8)) .unit)) .unit))), (.ow (.pr .sh (.pr (.pr .sh (.pr (.ow .sh) .sh)) .sh))), F_s_l16Acts d⟩], []⟩ := by
  refine ct_claim (O := O_s_l16Acts) (τ := τ_s_l16Acts) (EnvOk.of (by kernel_rfl) (by kernel_rfl)) (GOk.of (.cons ok_s_l1Copy .nil : AllOk pg [(181, con_s_l1Copy)])) mixed (Enters.of (by kernel_rfl)) (fn := Go.Proofs.Tryz.f145) (by kernel_rfl) rfl (by kernel_rfl) ?_
  intro hp hw
  have hq : Q_s_l16Acts d := hp _ (List.mem_singleton.2 rfl)
  clear hp
  change claim Lg.std Alg.std τ_s_l16Acts (Gam.of [(181, ⟨true, g1 (pD (.sl (.int .u8))) fun data => ⟨[Q_s_l1Copy data], [⟨(.sl (.int .u8)), (.ow .sh), F_s_l1Copy data⟩], []⟩, [], false, 0⟩)]) O_s_l16Acts Go.Proofs.Tryz.f145 [.dptr (.pair (.pair (.sl (.sl (.int .u8))) (.pair (.sl (.pair (.int .i64) (.pair (.sl (.int .u8)) .unit))) .unit)) (.pair (.sl (.int .i64)) (.pair (.sl (.int .i64)) .unit))) d] ⟨[Q_s_l16Acts d], [⟨(.sl (.pair (.int .i64) (.pair (.pair (.int .i64) (.pair (.sl (.int .u8)) .unit)) .unit))), (.ow (.pr .sh (.pr (.pr .sh (.pr (.ow .sh) .sh)) .sh))), F_s_l16Acts d⟩], []⟩
  generalize hg_F_s_l1Copy : F_s_l1Copy = g_F_s_l1Copy
  generalize hg_Q_s_l1Copy : Q_s_l1Copy = g_Q_s_l1Copy
  generalize hR0 : F_s_l16Acts d = R0
  generalize Q_s_l16Acts d = Q0
  generalize hL : Lg.std = L
  generalize hA : Alg.std = A
  cbv
  subst hL hA
  try dsimp only [Ty.den]
  obtain ⟨⟨d_0_0, d_0_1, ⟨⟩⟩, d_1, d_2, ⟨⟩⟩ := d
  simp only [Q_s_l16Acts] at hq
  have hle := tot_len tPut d_0_1
  simp only [tot_p, tot_u] at hq
  repeat' (first | intro _ | apply And.intro)
  all_goals first | trivial | ((fail_if_success (refine lp_v (V := Unit) (fun _ => ⟨[], []⟩) (fun _ => True) (fun _ => 0) () ?_ ?_ ?_)); subst hR0 hg_F_s_l1Copy hg_Q_s_l1Copy; (try simp only [Alg.std, F_s_l1Copy, Q_s_l1Copy, F_s_l16Acts] at *); all_goals grind) | skip
  refine lp_v (V := (Int) × (Nat) × (List ActTy)) (fun ((i, N, xs) : (Int) × (Nat) × (List ActTy)) => ⟨[.dptr (.pair (.pair (.sl (.sl (.int .u8))) (.pair (.sl (.pair (.int .i64) (.pair (.sl (.int .u8)) .unit))) .unit)) (.pair (.sl (.int .i64)) (.pair (.sl (.int .i64)) .unit))) ((d_0_0, d_0_1, PUnit.unit), d_1, d_2, PUnit.unit), .junk, .junk, .ref (.pair (.int .i64) (.pair (.pair (.int .i64) (.pair (.sl (.int .u8)) .unit)) .unit)) 0 0 [] 0 N, .dat (.int .i64) i, .junk, .junk, .junk, .junk, .junk, .junk, .junk, .junk, .junk, .junk, .junk, .junk, .junk, .junk, .junk, .junk, .junk, .junk, .junk, .junk, .junk, .junk, .junk, .junk, .junk, .junk, .junk, .junk, .junk, .junk, .junk, .junk, .junk, .junk], [some (.row 0 (.pair (.int .i64) (.pair (.pair (.int .i64) (.pair (.sl (.int .u8)) .unit)) .unit)) (.pr .sh (.pr (.pr .sh (.pr (.ow .sh) .sh)) .sh)) xs)]⟩) (fun ((i, N, xs) : (Int) × (Nat) × (List ActTy)) => N = xs.length ∧ 0 ≤ i ∧ i ≤ d_0_1.length ∧ xs = (d_0_1.take i.toNat).map actW) (fun ((i, N, xs) : (Int) × (Nat) × (List ActTy)) => d_0_1.length - i.toNat) (0, _, _) rfl ?_ ?_
  · subst hR0 hg_F_s_l1Copy hg_Q_s_l1Copy
    (try simp only [Alg.std, F_s_l1Copy, Q_s_l1Copy, F_s_l16Acts] at *)
    all_goals grind
  rintro ⟨i, N, xs⟩ hf I hI
  replace hf : N = xs.length ∧ 0 ≤ i ∧ i ≤ d_0_1.length ∧ xs = (d_0_1.take i.toNat).map actW := hf
  generalize hL : Lg.std = L
  generalize hA : Alg.std = A
  cbv
  subst hL hA
  try dsimp only [Ty.den]
  subst hI
  obtain ⟨h1, h2, h3, h4⟩ := hf
  have h3' : i ≤ (d_0_1.length : Int) := h3
  have hsu : (i + 1).toNat = i.toNat + 1 := by omega
  have ht := fun (h : i.toNat < d_0_1.length) => take_map actW d_0_1 putD i.toNat h
  have hb := fun (h : i.toNat < d_0_1.length) => hq.2 i.toNat h
  have hxl : xs.length = i.toNat := by rw [h4, List.length_map, List.length_take]; exact Nat.min_eq_left (by omega)
  have hta := fun (h : d_0_1.length ≤ i.toNat) => List.take_of_length_le h
  try dsimp only [putD] at hb ht
  repeat' (first | intro _ | apply And.intro)
  all_goals first | (with_reducible exact True.intro) | ((fail_if_success (refine lp_v (V := Unit) (fun _ => ⟨[], []⟩) (fun _ => True) (fun _ => 0) () ?_ ?_ ?_)); (try simp only [Lg.std, Alg.std, List.drop_zero, List.take_length] at *); (try refine ⟨(_, _, _), rfl, ?_, ?_⟩); (all_goals (subst hR0 hg_F_s_l1Copy hg_Q_s_l1Copy; (try simp only [Lg.std, Alg.std, List.drop_zero, List.take_length, F_s_l1Copy, Q_s_l1Copy, F_s_l16Acts] at *); first | done | ((try generalize d_0_1.getD i.toNat (0, [], ()) = xa at *); (try obtain ⟨xa0, xa1, ⟨⟩⟩ := xa); (try dsimp only [actW] at *); grind [actsOf, actW])))) | skip
def con_s_l16Acts : Con := ⟨true, g1 (pP (.pair (.pair (.sl (.sl (.int .u8))) (.pair (.sl (.pair (.int .i64) (.pair (.sl (.int .u8)) .unit))) .unit)) (.pair (.sl (.int .i64)) (.pair (.sl (.int .i64)) .unit)))) fun d => ⟨[Q_s_l16Acts d], [⟨(.sl (.pair (.int .i64) (.pair (.pair (.int .i64) (.pair (.sl (.int .u8)) .unit)) .unit))), (.ow (.pr .sh (.pr (.pr .sh (.pr (.ow .sh) .sh)) .sh))), F_s_l16Acts d⟩], []⟩, [], false, 0⟩
theorem ok_s_l16Acts : ConOk pg 145 con_s_l16Acts := ConOk.g1 (Enters.of (by kernel_rfl)) ct_s_l16Acts
end Go.Vee
