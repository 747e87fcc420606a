/-
  Contracts of functions of the program: what each returns for all arguments that its precondition lets in.
-/
import Derived.Test.YtcdlgemhmmkneaaVK5
set_option linter.unusedSimpArgs false
set_option linter.unusedVariables false
set_option maxRecDepth 100000
set_option maxHeartbeats 4000000
set_option synthInstance.maxHeartbeats 400000
set_option synthInstance.maxSize 2000
namespace Go.Vee
open Go
abbrev zPage : Int × Int × List Int × Unit := (0, 0, [], ())
def rdPage (data : List Int) (id : Int) : Int × Int × List Int × Unit := (data.getD 0 0, id, (data.drop 3).take (data.getD 2 0).toNat, ())
def l15Read (data : List Int) (id : Int) : Int × (Int × Int × List Int × Unit) :=
  if pairOf (sumOf 29 (data.take 94)) ≠ data.drop 94 then (11, zPage) else if data.getD 1 0 ≠ id then (8, zPage) else if data.getD 2 0 > 91 then (5, zPage) else if pageFault (rdPage data id) ≠ 0 ∨ packPage (rdPage data id) ≠ data then (5, zPage) else (0, rdPage data id)
def readPage (data : List Int) (id : Int) : Int × (Int × Int × List Int × Unit) × Unit :=
  if data.length ≠ 96 then (1, zPage, ()) else if ¬ (2 ≤ id ∧ id ≤ 63) then (3, zPage, ()) else ((l15Read data id).1, (l15Read data id).2, ())
theorem readPage_len (data : List Int) (id : Int) (h : ∀ j, j < data.length → 0 ≤ data.getD j 0 ∧ data.getD j 0 ≤ 255) : (readPage data id).2.1.2.2.1.length ≤ 91 := by
  have h2 := h 2
  unfold readPage l15Read rdPage
  repeat' split
  all_goals (try have h2 := h2 (by omega))
  all_goals (simp only [zPage, List.length_nil, List.length_take, List.length_drop]; omega)

def F_w_eqPageResult (a : (Int) × ((Int) × (Int) × (List (Int)) × Unit) × Unit) (b : (Int) × ((Int) × (Int) × (List (Int)) × Unit) × Unit) : Bool := decide (a = b)
def Q_w_eqPageResult (a : (Int) × ((Int) × (Int) × (List (Int)) × Unit) × Unit) (b : (Int) × ((Int) × (Int) × (List (Int)) × Unit) × Unit) : Prop := True
def O_w_eqPageResult : Opt := ⟨fun i => false, fun i => [], fun i => .done, fun i => none⟩
def τ_w_eqPageResult : Env := Env.of [(2, (.int .i64)), (4, .bool), (27, (.pair (.int .i64) (.pair (.int .i64) (.pair (.sl (.int .u8)) .unit)))), (67, (.pair (.int .i64) (.pair (.pair (.int .i64) (.pair (.int .i64) (.pair (.sl (.int .u8)) .unit))) .unit)))] []

theorem ct_w_eqPageResult (a : (Int) × ((Int) × (Int) × (List (Int)) × Unit) × Unit) (b : (Int) × ((Int) × (Int) × (List (Int)) × Unit) × Unit) : Ct pg 44 [.dat (.pair (.int .i64) (.pair (.pair (.int .i64) (.pair (.int .i64) (.pair (.sl (.int .u8)) .unit))) .unit)) a, .dat (.pair (.int .i64) (.pair (.pair (.int .i64) (.pair (.int .i64) (.pair (.sl (.int .u8)) .unit))) .unit)) b] ⟨[Q_w_eqPageResult a b], [⟨.bool, .sh, F_w_eqPageResult a b⟩], []⟩ := by
  refine ct_claim (O := O_w_eqPageResult) (τ := τ_w_eqPageResult) (EnvOk.of (by kernel_rfl)) (GOk.of (.cons ok_w_eqPage .nil : AllOk pg [(19, con_w_eqPage)])) mixed (Enters.of (by kernel_rfl)) (fn := Go.Proofs.Try.f44) (by kernel_rfl) rfl (by kernel_rfl) ?_
  intro hp hw
  have hq : Q_w_eqPageResult a b := hp _ (List.mem_singleton.2 rfl)
  clear hp
  change claim Lg.std Alg.std τ_w_eqPageResult (Gam.of [(19, ⟨true, g2 (pD (.pair (.int .i64) (.pair (.int .i64) (.pair (.sl (.int .u8)) .unit)))) (pD (.pair (.int .i64) (.pair (.int .i64) (.pair (.sl (.int .u8)) .unit)))) fun a b => ⟨[Q_w_eqPage a b], [⟨.bool, .sh, F_w_eqPage a b⟩], []⟩, []⟩)]) O_w_eqPageResult Go.Proofs.Try.f44 [.dat (.pair (.int .i64) (.pair (.pair (.int .i64) (.pair (.int .i64) (.pair (.sl (.int .u8)) .unit))) .unit)) a, .dat (.pair (.int .i64) (.pair (.pair (.int .i64) (.pair (.int .i64) (.pair (.sl (.int .u8)) .unit))) .unit)) b] ⟨[Q_w_eqPageResult a b], [⟨.bool, .sh, F_w_eqPageResult a b⟩], []⟩
  generalize hg_F_w_eqPage : F_w_eqPage = g_F_w_eqPage
  generalize hg_Q_w_eqPage : Q_w_eqPage = g_Q_w_eqPage
  generalize hR0 : F_w_eqPageResult a b = R0
  generalize Q_w_eqPageResult a b = Q0
  generalize hL : Lg.std = L
  generalize hA : Alg.std = A
  cbv
  subst hL hA
  try dsimp only [Ty.den]
  obtain ⟨f0, f1, ⟨⟩⟩ := a
  obtain ⟨g0, g1, ⟨⟩⟩ := b
  subst hR0 hg_F_w_eqPage hg_Q_w_eqPage
  simp only [Q_w_eqPageResult] at hq
  simp only [Lg.std, Alg.std, List.drop_zero, List.take_length, F_w_eqPage, Q_w_eqPage, F_w_eqPageResult]
  all_goals grind
def con_w_eqPageResult : Con := ⟨true, g2 (pD (.pair (.int .i64) (.pair (.pair (.int .i64) (.pair (.int .i64) (.pair (.sl (.int .u8)) .unit))) .unit))) (pD (.pair (.int .i64) (.pair (.pair (.int .i64) (.pair (.int .i64) (.pair (.sl (.int .u8)) .unit))) .unit))) fun a b => ⟨[Q_w_eqPageResult a b], [⟨.bool, .sh, F_w_eqPageResult a b⟩], []⟩, []⟩
theorem ok_w_eqPageResult : ConOk pg 44 con_w_eqPageResult := ConOk.g2 (Enters.of (by kernel_rfl)) ct_w_eqPageResult

def F_w_markPageResult (a : (Int) × ((Int) × (Int) × (List (Int)) × Unit) × Unit) (k : Int) : Int := k + cnt false (.pair (.int .i64) (.pair (.pair (.int .i64) (.pair (.int .i64) (.pair (.sl (.int .u8)) .unit))) .unit)) a
def B_w_markPageResult_a (a : (Int) × ((Int) × (Int) × (List (Int)) × Unit) × Unit) (k : Int) : (Int) × ((Int) × (Int) × (List (Int)) × Unit) × Unit := mk false (.pair (.int .i64) (.pair (.pair (.int .i64) (.pair (.int .i64) (.pair (.sl (.int .u8)) .unit))) .unit)) a k
def Q_w_markPageResult (a : (Int) × ((Int) × (Int) × (List (Int)) × Unit) × Unit) (k : Int) : Prop := 0 ≤ k ∧ k + cnt false (.pair (.int .i64) (.pair (.pair (.int .i64) (.pair (.int .i64) (.pair (.sl (.int .u8)) .unit))) .unit)) a ≤ 4611686018427387904
def O_w_markPageResult : Opt := ⟨fun i => false, fun i => [], fun i => .done, fun i => none⟩
def τ_w_markPageResult : Env := Env.of [(3, (.int .i64)), (4, .bool), (27, (.pair (.int .i64) (.pair (.int .i64) (.pair (.sl (.int .u8)) .unit)))), (67, (.pair (.int .i64) (.pair (.pair (.int .i64) (.pair (.int .i64) (.pair (.sl (.int .u8)) .unit))) .unit)))] []

theorem ct_w_markPageResult (a : (Int) × ((Int) × (Int) × (List (Int)) × Unit) × Unit) (k : Int) : Ct pg 47 [.mv (.pair (.int .i64) (.pair (.pair (.int .i64) (.pair (.int .i64) (.pair (.sl (.int .u8)) .unit))) .unit)) (.pr .sh (.pr (.pr .sh (.pr .sh (.pr (.ow .sh) .sh))) .sh)) a, .dat (.int .i64) k] ⟨[Q_w_markPageResult a k], [⟨(.int .i64), .sh, F_w_markPageResult a k⟩], [.mv (.pair (.int .i64) (.pair (.pair (.int .i64) (.pair (.int .i64) (.pair (.sl (.int .u8)) .unit))) .unit)) (.pr .sh (.pr (.pr .sh (.pr .sh (.pr (.ow .sh) .sh))) .sh)) (B_w_markPageResult_a a k)]⟩ := by
  refine ct_claim (O := O_w_markPageResult) (τ := τ_w_markPageResult) (EnvOk.of (by kernel_rfl)) (GOk.of (.cons ok_w_markPage .nil : AllOk pg [(28, con_w_markPage)])) mixed (Enters.of (by kernel_rfl)) (fn := Go.Proofs.Try.f47) (by kernel_rfl) rfl (by kernel_rfl) ?_
  intro hp hw
  have hq : Q_w_markPageResult a k := hp _ (List.mem_singleton.2 rfl)
  clear hp
  change claim Lg.std Alg.std τ_w_markPageResult (Gam.of [(28, ⟨true, g2 (pV (.pair (.int .i64) (.pair (.int .i64) (.pair (.sl (.int .u8)) .unit))) (.pr .sh (.pr .sh (.pr (.ow .sh) .sh)))) (pD (.int .i64)) fun a k => ⟨[Q_w_markPage a k], [⟨(.int .i64), .sh, F_w_markPage a k⟩], [.mv (.pair (.int .i64) (.pair (.int .i64) (.pair (.sl (.int .u8)) .unit))) (.pr .sh (.pr .sh (.pr (.ow .sh) .sh))) (B_w_markPage_a a k)]⟩, [(.pr .sh (.pr .sh (.pr (.ow .sh) .sh)))]⟩)]) O_w_markPageResult Go.Proofs.Try.f47 [.mv (.pair (.int .i64) (.pair (.pair (.int .i64) (.pair (.int .i64) (.pair (.sl (.int .u8)) .unit))) .unit)) (.pr .sh (.pr (.pr .sh (.pr .sh (.pr (.ow .sh) .sh))) .sh)) a, .dat (.int .i64) k] ⟨[Q_w_markPageResult a k], [⟨(.int .i64), .sh, F_w_markPageResult a k⟩], [.mv (.pair (.int .i64) (.pair (.pair (.int .i64) (.pair (.int .i64) (.pair (.sl (.int .u8)) .unit))) .unit)) (.pr .sh (.pr (.pr .sh (.pr .sh (.pr (.ow .sh) .sh))) .sh)) (B_w_markPageResult_a a k)]⟩
  generalize hg_F_w_markPage : F_w_markPage = g_F_w_markPage
  generalize hg_B_w_markPage_a : B_w_markPage_a = g_B_w_markPage_a
  generalize hg_Q_w_markPage : Q_w_markPage = g_Q_w_markPage
  generalize hR0 : F_w_markPageResult a k = R0
  generalize hB_a : B_w_markPageResult_a a k = B_a
  generalize Q_w_markPageResult a k = Q0
  generalize hL : Lg.std = L
  generalize hA : Alg.std = A
  cbv
  subst hL hA
  try dsimp only [Ty.den]
  obtain ⟨f0, f1, ⟨⟩⟩ := a
  simp only [Q_w_markPageResult] at hq
  subst hR0 hB_a hg_F_w_markPage hg_B_w_markPage_a hg_Q_w_markPage
  simp only [Lg.std, Alg.std, List.drop_zero, List.take_length, F_w_markPage, B_w_markPage_a, Q_w_markPage, F_w_markPageResult, B_w_markPageResult_a, szf, tot_p, tot_u, tot_i, tot_b, tot_s, cnt_p, cnt_u, cnt_i0, cnt_b0, cnt_s0, cnt_i1, cnt_b1, cnt_s1, cnt_l, mk_p, mk_u, mk_i0, mk_b0, mk_s0, mk_i1, mk_s1, mk_l, hd_p, hd_u, hd_i0, hd_b0, hd_s0, hd_i1, hd_b1, hd_s1, hd_l] at *
  all_goals grind [mk_len]
def con_w_markPageResult : Con := ⟨true, g2 (pV (.pair (.int .i64) (.pair (.pair (.int .i64) (.pair (.int .i64) (.pair (.sl (.int .u8)) .unit))) .unit)) (.pr .sh (.pr (.pr .sh (.pr .sh (.pr (.ow .sh) .sh))) .sh))) (pD (.int .i64)) fun a k => ⟨[Q_w_markPageResult a k], [⟨(.int .i64), .sh, F_w_markPageResult a k⟩], [.mv (.pair (.int .i64) (.pair (.pair (.int .i64) (.pair (.int .i64) (.pair (.sl (.int .u8)) .unit))) .unit)) (.pr .sh (.pr (.pr .sh (.pr .sh (.pr (.ow .sh) .sh))) .sh)) (B_w_markPageResult_a a k)]⟩, [(.pr .sh (.pr (.pr .sh (.pr .sh (.pr (.ow .sh) .sh))) .sh))]⟩
theorem ok_w_markPageResult : ConOk pg 47 con_w_markPageResult := ConOk.g2 (Enters.of (by kernel_rfl)) ct_w_markPageResult

def F_w_heldPageResult (a : (Int) × ((Int) × (Int) × (List (Int)) × Unit) × Unit) (k : Int) : Int := hd false (.pair (.int .i64) (.pair (.pair (.int .i64) (.pair (.int .i64) (.pair (.sl (.int .u8)) .unit))) .unit)) a k
def Q_w_heldPageResult (a : (Int) × ((Int) × (Int) × (List (Int)) × Unit) × Unit) (k : Int) : Prop := 0 ≤ k ∧ k + cnt false (.pair (.int .i64) (.pair (.pair (.int .i64) (.pair (.int .i64) (.pair (.sl (.int .u8)) .unit))) .unit)) a ≤ 4611686018427387904
def O_w_heldPageResult : Opt := ⟨fun i => false, fun i => [], fun i => .done, fun i => none⟩
def τ_w_heldPageResult : Env := Env.of [(3, (.int .i64)), (4, .bool), (27, (.pair (.int .i64) (.pair (.int .i64) (.pair (.sl (.int .u8)) .unit)))), (67, (.pair (.int .i64) (.pair (.pair (.int .i64) (.pair (.int .i64) (.pair (.sl (.int .u8)) .unit))) .unit)))] []

theorem ct_w_heldPageResult (a : (Int) × ((Int) × (Int) × (List (Int)) × Unit) × Unit) (k : Int) : Ct pg 48 [.dat (.pair (.int .i64) (.pair (.pair (.int .i64) (.pair (.int .i64) (.pair (.sl (.int .u8)) .unit))) .unit)) a, .dat (.int .i64) k] ⟨[Q_w_heldPageResult a k], [⟨(.int .i64), .sh, F_w_heldPageResult a k⟩], []⟩ := by
  refine ct_claim (O := O_w_heldPageResult) (τ := τ_w_heldPageResult) (EnvOk.of (by kernel_rfl)) (GOk.of (.cons ok_w_heldPage .nil : AllOk pg [(103, con_w_heldPage)])) mixed (Enters.of (by kernel_rfl)) (fn := Go.Proofs.Try.f48) (by kernel_rfl) rfl (by kernel_rfl) ?_
  intro hp hw
  have hq : Q_w_heldPageResult a k := hp _ (List.mem_singleton.2 rfl)
  clear hp
  change claim Lg.std Alg.std τ_w_heldPageResult (Gam.of [(103, ⟨true, g2 (pD (.pair (.int .i64) (.pair (.int .i64) (.pair (.sl (.int .u8)) .unit)))) (pD (.int .i64)) fun a k => ⟨[Q_w_heldPage a k], [⟨(.int .i64), .sh, F_w_heldPage a k⟩], []⟩, []⟩)]) O_w_heldPageResult Go.Proofs.Try.f48 [.dat (.pair (.int .i64) (.pair (.pair (.int .i64) (.pair (.int .i64) (.pair (.sl (.int .u8)) .unit))) .unit)) a, .dat (.int .i64) k] ⟨[Q_w_heldPageResult a k], [⟨(.int .i64), .sh, F_w_heldPageResult a k⟩], []⟩
  generalize hg_F_w_heldPage : F_w_heldPage = g_F_w_heldPage
  generalize hg_Q_w_heldPage : Q_w_heldPage = g_Q_w_heldPage
  generalize hR0 : F_w_heldPageResult a k = R0
  generalize Q_w_heldPageResult a k = Q0
  generalize hL : Lg.std = L
  generalize hA : Alg.std = A
  cbv
  subst hL hA
  try dsimp only [Ty.den]
  obtain ⟨f0, f1, ⟨⟩⟩ := a
  have ho1 := fun k h => hd_or false (.pair (.int .i64) (.pair (.int .i64) (.pair (.sl (.int .u8)) .unit))) f1 k h
  simp only [Q_w_heldPageResult] at hq
  subst hR0 hg_F_w_heldPage hg_Q_w_heldPage
  simp only [Lg.std, Alg.std, List.drop_zero, List.take_length, F_w_heldPage, Q_w_heldPage, F_w_heldPageResult, szf, tot_p, tot_u, tot_i, tot_b, tot_s, cnt_p, cnt_u, cnt_i0, cnt_b0, cnt_s0, cnt_i1, cnt_b1, cnt_s1, cnt_l, mk_p, mk_u, mk_i0, mk_b0, mk_s0, mk_i1, mk_s1, mk_l, hd_p, hd_u, hd_i0, hd_b0, hd_s0, hd_i1, hd_b1, hd_s1, hd_l] at *
  all_goals grind [mk_len]
def con_w_heldPageResult : Con := ⟨true, g2 (pD (.pair (.int .i64) (.pair (.pair (.int .i64) (.pair (.int .i64) (.pair (.sl (.int .u8)) .unit))) .unit))) (pD (.int .i64)) fun a k => ⟨[Q_w_heldPageResult a k], [⟨(.int .i64), .sh, F_w_heldPageResult a k⟩], []⟩, []⟩
theorem ok_w_heldPageResult : ConOk pg 48 con_w_heldPageResult := ConOk.g2 (Enters.of (by kernel_rfl)) ct_w_heldPageResult

def F_s_l1Copy (data : List (Int)) : List (Int) := data
def Q_s_l1Copy (data : List (Int)) : Prop := data.length ≤ 1048576
def O_s_l1Copy : Opt := ⟨fun i => false, fun i => [], fun i => .done, fun i => none⟩
def τ_s_l1Copy : Env := Env.of [(2, (.int .i64)), (22, (.sl (.int .u8)))] []

theorem ct_s_l1Copy (data : List (Int)) : Ct pg 109 [.dat (.sl (.int .u8)) data] ⟨[Q_s_l1Copy data], [⟨(.sl (.int .u8)), (.ow .sh), F_s_l1Copy data⟩], []⟩ := by
  refine ct_claim (O := O_s_l1Copy) (τ := τ_s_l1Copy) (EnvOk.of (by kernel_rfl)) (GOk.of (.nil : AllOk pg [])) mixed (Enters.of (by kernel_rfl)) (fn := Go.Proofs.Try.f109) (by kernel_rfl) rfl (by kernel_rfl) ?_
  intro hp hw
  have hq : Q_s_l1Copy data := hp _ (List.mem_singleton.2 rfl)
  clear hp
  change claim Lg.std Alg.std τ_s_l1Copy (Gam.of []) O_s_l1Copy Go.Proofs.Try.f109 [.dat (.sl (.int .u8)) data] ⟨[Q_s_l1Copy data], [⟨(.sl (.int .u8)), (.ow .sh), F_s_l1Copy data⟩], []⟩
  generalize hR0 : F_s_l1Copy data = R0
  generalize Q_s_l1Copy data = Q0
  generalize hL : Lg.std = L
  generalize hA : Alg.std = A
  cbv
  subst hL hA
  try dsimp only [Ty.den]
  subst hR0
  simp only [Q_s_l1Copy] at hq
  simp only [Lg.std, Alg.std, List.drop_zero, List.take_length, F_s_l1Copy]
  all_goals grind
def con_s_l1Copy : Con := ⟨true, g1 (pD (.sl (.int .u8))) fun data => ⟨[Q_s_l1Copy data], [⟨(.sl (.int .u8)), (.ow .sh), F_s_l1Copy data⟩], []⟩, []⟩
theorem ok_s_l1Copy : ConOk pg 109 con_s_l1Copy := ConOk.g1 (Enters.of (by kernel_rfl)) ct_s_l1Copy

def F_sl_Clone_byte (s : List (Int)) : List (Int) := s
def Q_sl_Clone_byte (s : List (Int)) : Prop := s.length ≤ 1048576
def O_sl_Clone_byte : Opt := ⟨fun i => false, fun i => [], fun i => .done, fun i => none⟩
def τ_sl_Clone_byte : Env := Env.of [(2, (.int .i64)), (4, .bool), (22, (.sl (.int .u8)))] []

theorem ct_sl_Clone_byte (s : List (Int)) : Ct pg 102 [.dat (.sl (.int .u8)) s] ⟨[Q_sl_Clone_byte s], [⟨(.sl (.int .u8)), (.ow .sh), F_sl_Clone_byte s⟩], []⟩ := by
  refine ct_claim (O := O_sl_Clone_byte) (τ := τ_sl_Clone_byte) (EnvOk.of (by kernel_rfl)) (GOk.of (.nil : AllOk pg [])) mixed (Enters.of (by kernel_rfl)) (fn := Go.Proofs.Try.f102) (by kernel_rfl) rfl (by kernel_rfl) ?_
  intro hp hw
  have hq : Q_sl_Clone_byte s := hp _ (List.mem_singleton.2 rfl)
  clear hp
  change claim Lg.std Alg.std τ_sl_Clone_byte (Gam.of []) O_sl_Clone_byte Go.Proofs.Try.f102 [.dat (.sl (.int .u8)) s] ⟨[Q_sl_Clone_byte s], [⟨(.sl (.int .u8)), (.ow .sh), F_sl_Clone_byte s⟩], []⟩
  generalize hR0 : F_sl_Clone_byte s = R0
  generalize Q_sl_Clone_byte s = Q0
  generalize hL : Lg.std = L
  generalize hA : Alg.std = A
  cbv
  subst hL hA
  try dsimp only [Ty.den]
  subst hR0
  simp only [Q_sl_Clone_byte] at hq
  simp only [Lg.std, Alg.std, List.drop_zero, List.take_length, F_sl_Clone_byte]
  all_goals grind
def con_sl_Clone_byte : Con := ⟨true, g1 (pD (.sl (.int .u8))) fun s => ⟨[Q_sl_Clone_byte s], [⟨(.sl (.int .u8)), (.ow .sh), F_sl_Clone_byte s⟩], []⟩, []⟩
theorem ok_sl_Clone_byte : ConOk pg 102 con_sl_Clone_byte := ConOk.g1 (Enters.of (by kernel_rfl)) ct_sl_Clone_byte

def F_s_l15Read (data : List (Int)) (id : Int) : (Int) × (Int) × (List (Int)) × Unit := (l15Read data id).2
def F_s_l15Read_1 (data : List (Int)) (id : Int) : Int := (l15Read data id).1
def Q_s_l15Read (data : List (Int)) (id : Int) : Prop := data.length = 96
def O_s_l15Read : Opt := ⟨fun i => false, fun i => [], fun i => (match decide (i = 10) with | true => (.alt 0 (.alt 1 (.take 2 (.take 3 (.alt 4 (.alt 5 (.alt 6 (.alt 7 (.alt 8 (.take 9 .done) .no) .no) .no) (.alt 6 (.alt 5 (.alt 7 (.alt 8 (.take 9 .done) .no) .no) (.alt 7 (.alt 5 (.alt 8 (.take 9 .done) .no) .no) .no)) .no)) (.alt 6 (.alt 4 (.alt 5 (.alt 7 (.alt 8 (.take 9 .done) .no) .no) (.alt 7 (.alt 5 (.alt 8 (.take 9 .done) .no) .no) .no)) (.alt 7 (.alt 4 (.alt 5 (.alt 8 (.take 9 .done) .no) .no) .no) .no)) .no)))) .no) .no) | false => (match decide (i = 9) with | true => (.take 0 (.take 1 (.take 4 (.take 5 (.take 6 (.take 7 (.alt 2 (.take 3 (.alt 8 (.take 9 (.take 10 (.take 11 (.alt 12 (.take 13 (.alt 14 (.alt 15 .done .no) .no)) (.alt 14 (.alt 12 (.take 13 (.alt 15 .done .no)) .no) .no))))) (.alt 14 (.alt 8 (.take 9 (.take 10 (.take 11 (.alt 12 (.take 13 (.alt 15 .done .no)) .no)))) .no) .no))) (.alt 8 (.take 9 (.take 10 (.take 11 (.alt 2 (.take 3 (.alt 12 (.take 13 (.alt 14 (.alt 15 .done .no) .no)) (.alt 14 (.alt 12 (.take 13 (.alt 15 .done .no)) .no) .no))) (.alt 12 (.alt 2 (.take 3 (.take 13 (.alt 14 (.alt 15 .done .no) .no))) (.alt 14 (.alt 2 (.take 3 (.take 13 (.alt 15 .done .no))) .no) .no)) (.alt 14 (.alt 2 (.take 3 (.alt 12 (.take 13 (.alt 15 .done .no)) .no)) (.alt 12 (.alt 2 (.take 3 (.take 13 (.alt 15 .done .no))) .no) .no)) .no)))))) (.alt 14 (.alt 2 (.take 3 (.alt 8 (.take 9 (.take 10 (.take 11 (.alt 12 (.take 13 (.alt 15 .done .no)) .no)))) .no)) (.alt 8 (.take 9 (.take 10 (.take 11 (.alt 2 (.take 3 (.alt 12 (.take 13 (.alt 15 .done .no)) .no)) (.alt 12 (.alt 2 (.take 3 (.take 13 (.alt 15 .done .no))) .no) .no))))) .no)) .no))))))))) | false => (match decide (i = 3) with | true => (.take 0 (.take 1 (.take 2 (.take 6 (.take 7 (.take 8 (.alt 3 (.alt 4 (.alt 5 (.alt 9 (.take 10 .done) .no) (.alt 9 (.alt 5 (.take 10 .done) .no) .no)) (.alt 9 (.alt 4 (.alt 5 (.take 10 .done) .no) .no) .no)) (.alt 9 (.alt 3 (.alt 4 (.alt 5 (.take 10 .done) .no) .no) .no) .no)))))))) | false => .done))), fun i => (match decide (i = 9) with | true => some [true, false, false, false, true, false, true, false, true, false, false, false, false, false, false, false, false, false, false, false, false, false, false, false, false, false, false, false, false, false, false, false, false, false, false, false, false, false, false, false, false, false, false, false, false, false, false, false, false, false, false, false, false, false, false, false, false, false, false, false] | false => (match decide (i = 3) with | true => some [true, true, false, false, true, false, true, false, false, false, false, false, false, false, false, false, false, false, false, false, true, false, false, false, false, false, false, false, false, false, false, false, false, false, false, false, false, false, false, false, false, false, false, false, false, false, false, false, false, false, false, false, false, false, false, false, false, false, false, false] | false => none))⟩
def τ_s_l15Read : Env := Env.of [(2, (.int .i64)), (3, (.int .i64)), (4, .bool), (5, (.int .u8)), (9, .str), (22, (.sl (.int .u8))), (27, (.pair (.int .i64) (.pair (.int .i64) (.pair (.sl (.int .u8)) .unit))))] [(116, (.pair (.int .i64) (.pair (.int .i64) (.pair (.sl (.int .u8)) .unit))))]

theorem ct_s_l15Read (data : List (Int)) (id : Int) : Ct pg 99 [.dat (.sl (.int .u8)) data, .dat (.int .i64) id] ⟨[Q_s_l15Read data id], [⟨(.pair (.int .i64) (.pair (.int .i64) (.pair (.sl (.int .u8)) .unit))), (.pr .sh (.pr .sh (.pr (.ow .sh) .sh))), F_s_l15Read data id⟩, ⟨(.int .i64), .sh, F_s_l15Read_1 data id⟩], []⟩ := by
  refine ct_claim (O := O_s_l15Read) (τ := τ_s_l15Read) (EnvOk.of (by kernel_rfl)) (GOk.of (.cons ok_s_PageFault (.cons ok_s_l1Sum (.cons ok_s_l1Pair (.cons ok_s_l15Pack (.cons ok_s_l1Copy .nil)))) : AllOk pg [(16, con_s_PageFault), (111, con_s_l1Sum), (110, con_s_l1Pair), (82, con_s_l15Pack), (109, con_s_l1Copy)])) mixed (Enters.of (by kernel_rfl)) (fn := Go.Proofs.Try.f99) (by kernel_rfl) rfl (by kernel_rfl) ?_
  intro hp hw
  have hq : Q_s_l15Read data id := hp _ (List.mem_singleton.2 rfl)
  clear hp
  change claim Lg.std Alg.std τ_s_l15Read (Gam.of [(16, ⟨true, g1 (pD (.pair (.int .i64) (.pair (.int .i64) (.pair (.sl (.int .u8)) .unit)))) fun p => ⟨[Q_s_PageFault p], [⟨(.int .i64), .sh, F_s_PageFault p⟩], []⟩, []⟩), (111, ⟨true, g1 (pD (.sl (.int .u8))) fun a => ⟨[Q_s_l1Sum a], [⟨(.int .i64), .sh, F_s_l1Sum a⟩], []⟩, []⟩), (110, ⟨true, g1 (pD (.int .i64)) fun n => ⟨[Q_s_l1Pair n], [⟨(.sl (.int .u8)), (.ow .sh), F_s_l1Pair n⟩], []⟩, []⟩), (82, ⟨true, g1 (pP (.pair (.int .i64) (.pair (.int .i64) (.pair (.sl (.int .u8)) .unit)))) fun p => ⟨[Q_s_l15Pack p], [⟨(.sl (.int .u8)), (.ow .sh), F_s_l15Pack p⟩], []⟩, []⟩), (109, ⟨true, g1 (pD (.sl (.int .u8))) fun data => ⟨[Q_s_l1Copy data], [⟨(.sl (.int .u8)), (.ow .sh), F_s_l1Copy data⟩], []⟩, []⟩)]) O_s_l15Read Go.Proofs.Try.f99 [.dat (.sl (.int .u8)) data, .dat (.int .i64) id] ⟨[Q_s_l15Read data id], [⟨(.pair (.int .i64) (.pair (.int .i64) (.pair (.sl (.int .u8)) .unit))), (.pr .sh (.pr .sh (.pr (.ow .sh) .sh))), F_s_l15Read data id⟩, ⟨(.int .i64), .sh, F_s_l15Read_1 data id⟩], []⟩
  generalize hg_F_s_PageFault : F_s_PageFault = g_F_s_PageFault
  generalize hg_Q_s_PageFault : Q_s_PageFault = g_Q_s_PageFault
  generalize hg_F_s_l1Sum : F_s_l1Sum = g_F_s_l1Sum
  generalize hg_Q_s_l1Sum : Q_s_l1Sum = g_Q_s_l1Sum
  generalize hg_F_s_l1Pair : F_s_l1Pair = g_F_s_l1Pair
  generalize hg_Q_s_l1Pair : Q_s_l1Pair = g_Q_s_l1Pair
  generalize hg_F_s_l15Pack : F_s_l15Pack = g_F_s_l15Pack
  generalize hg_Q_s_l15Pack : Q_s_l15Pack = g_Q_s_l15Pack
  generalize hg_F_s_l1Copy : F_s_l1Copy = g_F_s_l1Copy
  generalize hg_Q_s_l1Copy : Q_s_l1Copy = g_Q_s_l1Copy
  generalize hR0 : F_s_l15Read data id = R0
  generalize hR1 : F_s_l15Read_1 data id = R1
  generalize Q_s_l15Read data id = Q0
  generalize hL : Lg.std = L
  generalize hA : Alg.std = A
  cbv
  subst hL hA
  try dsimp only [Ty.den]
  simp only [Q_s_l15Read] at hq
  have h2 := u8at hw.1.2 2
  have e1 : (data.drop 94).take (data.length - 94) = data.drop 94 := List.take_of_length_le (by simp)
  have e2 : (3 + data.getD 2 0).toNat - 3 = (data.getD 2 0).toNat := by omega
  have e3 : ((data.drop 3).take (data.getD 2 0).toNat).length ≤ 91 ∨ data.getD 2 0 > 91 := by simp; omega
  have e4 : (pairOf (sumOf 29 (data.take 94))).length = 2 := rfl
  have e5 := sumOf_nonneg 29 (data.take 94) (by omega)
  have e6 : (3 + data.getD 2 0 : Int) ≤ data.length ∨ data.getD 2 0 > 91 := by omega
  subst hR0 hR1 hg_F_s_PageFault hg_Q_s_PageFault hg_F_s_l1Sum hg_Q_s_l1Sum hg_F_s_l1Pair hg_Q_s_l1Pair hg_F_s_l15Pack hg_Q_s_l15Pack hg_F_s_l1Copy hg_Q_s_l1Copy
  simp only [Lg.std, Alg.std, List.drop_zero, List.take_length, F_s_PageFault, F_s_l1Sum, F_s_l1Pair, F_s_l15Pack, F_s_l1Copy, Q_s_PageFault, Q_s_l1Sum, Q_s_l1Pair, Q_s_l15Pack, Q_s_l1Copy, F_s_l15Read, F_s_l15Read_1, l15Read, rdPage, zPage]
  simp [e1, e2, hq]
  all_goals grind
def con_s_l15Read : Con := ⟨true, g2 (pD (.sl (.int .u8))) (pD (.int .i64)) fun data id => ⟨[Q_s_l15Read data id], [⟨(.pair (.int .i64) (.pair (.int .i64) (.pair (.sl (.int .u8)) .unit))), (.pr .sh (.pr .sh (.pr (.ow .sh) .sh))), F_s_l15Read data id⟩, ⟨(.int .i64), .sh, F_s_l15Read_1 data id⟩], []⟩, []⟩
theorem ok_s_l15Read : ConOk pg 99 con_s_l15Read := ConOk.g2 (Enters.of (by kernel_rfl)) ct_s_l15Read

def F_s_ReadPage (data : List (Int)) (id : Int) : (Int) × ((Int) × (Int) × (List (Int)) × Unit) × Unit := readPage data id
def Q_s_ReadPage (data : List (Int)) (id : Int) : Prop := True
def O_s_ReadPage : Opt := ⟨fun i => false, fun i => [], fun i => .done, fun i => none⟩
def τ_s_ReadPage : Env := Env.of [(2, (.int .i64)), (3, (.int .i64)), (4, .bool), (22, (.sl (.int .u8))), (27, (.pair (.int .i64) (.pair (.int .i64) (.pair (.sl (.int .u8)) .unit)))), (67, (.pair (.int .i64) (.pair (.pair (.int .i64) (.pair (.int .i64) (.pair (.sl (.int .u8)) .unit))) .unit)))] []

theorem ct_s_ReadPage (data : List (Int)) (id : Int) : Ct pg 41 [.dat (.sl (.int .u8)) data, .dat (.int .i64) id] ⟨[Q_s_ReadPage data id], [⟨(.pair (.int .i64) (.pair (.pair (.int .i64) (.pair (.int .i64) (.pair (.sl (.int .u8)) .unit))) .unit)), (.pr .sh (.pr (.pr .sh (.pr .sh (.pr (.ow .sh) .sh))) .sh)), F_s_ReadPage data id⟩], []⟩ := by
  refine ct_claim (O := O_s_ReadPage) (τ := τ_s_ReadPage) (EnvOk.of (by kernel_rfl)) (GOk.of (.cons ok_s_l15Id (.cons ok_s_l15Read .nil) : AllOk pg [(73, con_s_l15Id), (99, con_s_l15Read)])) mixed (Enters.of (by kernel_rfl)) (fn := Go.Proofs.Try.f41) (by kernel_rfl) rfl (by kernel_rfl) ?_
  intro hp hw
  have hq : Q_s_ReadPage data id := hp _ (List.mem_singleton.2 rfl)
  clear hp
  change claim Lg.std Alg.std τ_s_ReadPage (Gam.of [(73, ⟨true, g1 (pD (.int .i64)) fun n => ⟨[Q_s_l15Id n], [⟨.bool, .sh, F_s_l15Id n⟩], []⟩, []⟩), (99, ⟨true, g2 (pD (.sl (.int .u8))) (pD (.int .i64)) fun data id => ⟨[Q_s_l15Read data id], [⟨(.pair (.int .i64) (.pair (.int .i64) (.pair (.sl (.int .u8)) .unit))), (.pr .sh (.pr .sh (.pr (.ow .sh) .sh))), F_s_l15Read data id⟩, ⟨(.int .i64), .sh, F_s_l15Read_1 data id⟩], []⟩, []⟩)]) O_s_ReadPage Go.Proofs.Try.f41 [.dat (.sl (.int .u8)) data, .dat (.int .i64) id] ⟨[Q_s_ReadPage data id], [⟨(.pair (.int .i64) (.pair (.pair (.int .i64) (.pair (.int .i64) (.pair (.sl (.int .u8)) .unit))) .unit)), (.pr .sh (.pr (.pr .sh (.pr .sh (.pr (.ow .sh) .sh))) .sh)), F_s_ReadPage data id⟩], []⟩
  generalize hg_F_s_l15Id : F_s_l15Id = g_F_s_l15Id
  generalize hg_Q_s_l15Id : Q_s_l15Id = g_Q_s_l15Id
  generalize hg_F_s_l15Read : F_s_l15Read = g_F_s_l15Read
  generalize hg_F_s_l15Read_1 : F_s_l15Read_1 = g_F_s_l15Read_1
  generalize hg_Q_s_l15Read : Q_s_l15Read = g_Q_s_l15Read
  generalize hR0 : F_s_ReadPage data id = R0
  generalize Q_s_ReadPage data id = Q0
  generalize hL : Lg.std = L
  generalize hA : Alg.std = A
  cbv
  subst hL hA
  try dsimp only [Ty.den]
  subst hR0 hg_F_s_l15Id hg_Q_s_l15Id hg_F_s_l15Read hg_F_s_l15Read_1 hg_Q_s_l15Read
  simp only [Lg.std, Alg.std, List.drop_zero, List.take_length, F_s_l15Id, F_s_l15Read, F_s_l15Read_1, Q_s_l15Id, Q_s_l15Read, F_s_ReadPage, readPage, zPage]
  all_goals grind
def con_s_ReadPage : Con := ⟨true, g2 (pD (.sl (.int .u8))) (pD (.int .i64)) fun data id => ⟨[Q_s_ReadPage data id], [⟨(.pair (.int .i64) (.pair (.pair (.int .i64) (.pair (.int .i64) (.pair (.sl (.int .u8)) .unit))) .unit)), (.pr .sh (.pr (.pr .sh (.pr .sh (.pr (.ow .sh) .sh))) .sh)), F_s_ReadPage data id⟩], []⟩, []⟩
theorem ok_s_ReadPage : ConOk pg 41 con_s_ReadPage := ConOk.g2 (Enters.of (by kernel_rfl)) ct_s_ReadPage

def F_i_ReadPage (data : List (Int)) (id : Int) : (Int) × ((Int) × (Int) × (List (Int)) × Unit) × Unit := readPage data id
def Q_i_ReadPage (data : List (Int)) (id : Int) : Prop := True
def O_i_ReadPage : Opt := ⟨fun i => false, fun i => [], fun i => (match decide (i = 12) with | true => (.take 0 (.take 1 (.take 4 (.take 5 (.take 6 (.take 7 (.take 8 (.alt 2 (.take 3 (.alt 9 (.take 10 (.alt 11 (.alt 12 .done .no) .no)) (.alt 11 (.alt 9 (.take 10 (.alt 12 .done .no)) .no) .no))) (.alt 9 (.alt 2 (.take 3 (.take 10 (.alt 11 (.alt 12 .done .no) .no))) (.alt 11 (.alt 2 (.take 3 (.take 10 (.alt 12 .done .no))) .no) .no)) (.alt 11 (.alt 2 (.take 3 (.alt 9 (.take 10 (.alt 12 .done .no)) .no)) (.alt 9 (.alt 2 (.take 3 (.take 10 (.alt 12 .done .no))) .no) .no)) .no)))))))))) | false => (match decide (i = 5) with | true => (.take 0 (.take 1 (.take 5 (.take 6 (.alt 2 (.take 3 (.alt 4 (.alt 7 (.take 8 .done) .no) .no)) .no))))) | false => .done)), fun i => (match decide (i = 12) with | true => some [true, false, false, false, true, false, true, false, false, false, false, false, false, false, false, false, false, false, false, false, false, false, false, false, false, false, false, false, false, false, false, false, false, false, false, false, false, false, false, false, false, false, false, false, false, false, false, false, false, false, false, false, false, false, false, false, false, false, false, false, false, false, false] | false => none)⟩
def τ_i_ReadPage : Env := Env.of [(2, (.int .i64)), (3, (.int .i64)), (4, .bool), (5, (.int .u8)), (22, (.sl (.int .u8))), (27, (.pair (.int .i64) (.pair (.int .i64) (.pair (.sl (.int .u8)) .unit)))), (67, (.pair (.int .i64) (.pair (.pair (.int .i64) (.pair (.int .i64) (.pair (.sl (.int .u8)) .unit))) .unit))), (132, (.pair (.int .i64) (.pair (.int .i64) .unit)))] []

theorem ct_i_ReadPage (data : List (Int)) (id : Int) : Ct pg 43 [.dat (.sl (.int .u8)) data, .dat (.int .i64) id] ⟨[Q_i_ReadPage data id], [⟨(.pair (.int .i64) (.pair (.pair (.int .i64) (.pair (.int .i64) (.pair (.sl (.int .u8)) .unit))) .unit)), (.pr .sh (.pr (.pr .sh (.pr .sh (.pr (.ow .sh) .sh))) .sh)), F_i_ReadPage data id⟩], []⟩ := by
  refine ct_claim (O := O_i_ReadPage) (τ := τ_i_ReadPage) (EnvOk.of (by kernel_rfl)) (GOk.of (.cons ok_i_isPage (.cons ok_i_PageFault (.cons ok_b_Equal (.cons ok_i_SumOf (.cons ok_i_pair (.cons ok_i_packedPage (.cons ok_sl_Clone_byte .nil)))))) : AllOk pg [(75, con_i_isPage), (18, con_i_PageFault), (80, con_b_Equal), (101, con_i_SumOf), (100, con_i_pair), (83, con_i_packedPage), (102, con_sl_Clone_byte)])) mixed (Enters.of (by kernel_rfl)) (fn := Go.Proofs.Try.f43) (by kernel_rfl) rfl (by kernel_rfl) ?_
  intro hp hw
  have hq : Q_i_ReadPage data id := hp _ (List.mem_singleton.2 rfl)
  clear hp
  change claim Lg.std Alg.std τ_i_ReadPage (Gam.of [(75, ⟨true, g1 (pD (.int .i64)) fun n => ⟨[Q_i_isPage n], [⟨.bool, .sh, F_i_isPage n⟩], []⟩, []⟩), (18, ⟨true, g1 (pD (.pair (.int .i64) (.pair (.int .i64) (.pair (.sl (.int .u8)) .unit)))) fun p => ⟨[Q_i_PageFault p], [⟨(.int .i64), .sh, F_i_PageFault p⟩], []⟩, []⟩), (80, ⟨true, g2 (pD (.sl (.int .u8))) (pD (.sl (.int .u8))) fun a b => ⟨[Q_b_Equal a b], [⟨.bool, .sh, F_b_Equal a b⟩], []⟩, []⟩), (101, ⟨true, g1 (pD (.sl (.int .u8))) fun a => ⟨[Q_i_SumOf a], [⟨(.pair (.int .i64) (.pair (.int .i64) .unit)), .sh, F_i_SumOf a⟩], []⟩, []⟩), (100, ⟨true, g1 (pD (.int .i64)) fun n => ⟨[Q_i_pair n], [⟨(.sl (.int .u8)), (.ow .sh), F_i_pair n⟩], []⟩, []⟩), (83, ⟨true, g1 (pD (.pair (.int .i64) (.pair (.int .i64) (.pair (.sl (.int .u8)) .unit)))) fun p => ⟨[Q_i_packedPage p], [⟨(.sl (.int .u8)), (.ow .sh), F_i_packedPage p⟩], []⟩, []⟩), (102, ⟨true, g1 (pD (.sl (.int .u8))) fun s => ⟨[Q_sl_Clone_byte s], [⟨(.sl (.int .u8)), (.ow .sh), F_sl_Clone_byte s⟩], []⟩, []⟩)]) O_i_ReadPage Go.Proofs.Try.f43 [.dat (.sl (.int .u8)) data, .dat (.int .i64) id] ⟨[Q_i_ReadPage data id], [⟨(.pair (.int .i64) (.pair (.pair (.int .i64) (.pair (.int .i64) (.pair (.sl (.int .u8)) .unit))) .unit)), (.pr .sh (.pr (.pr .sh (.pr .sh (.pr (.ow .sh) .sh))) .sh)), F_i_ReadPage data id⟩], []⟩
  generalize hg_F_i_isPage : F_i_isPage = g_F_i_isPage
  generalize hg_Q_i_isPage : Q_i_isPage = g_Q_i_isPage
  generalize hg_F_i_PageFault : F_i_PageFault = g_F_i_PageFault
  generalize hg_Q_i_PageFault : Q_i_PageFault = g_Q_i_PageFault
  generalize hg_F_b_Equal : F_b_Equal = g_F_b_Equal
  generalize hg_Q_b_Equal : Q_b_Equal = g_Q_b_Equal
  generalize hg_F_i_SumOf : F_i_SumOf = g_F_i_SumOf
  generalize hg_Q_i_SumOf : Q_i_SumOf = g_Q_i_SumOf
  generalize hg_F_i_pair : F_i_pair = g_F_i_pair
  generalize hg_Q_i_pair : Q_i_pair = g_Q_i_pair
  generalize hg_F_i_packedPage : F_i_packedPage = g_F_i_packedPage
  generalize hg_Q_i_packedPage : Q_i_packedPage = g_Q_i_packedPage
  generalize hg_F_sl_Clone_byte : F_sl_Clone_byte = g_F_sl_Clone_byte
  generalize hg_Q_sl_Clone_byte : Q_sl_Clone_byte = g_Q_sl_Clone_byte
  generalize hR0 : F_i_ReadPage data id = R0
  generalize Q_i_ReadPage data id = Q0
  generalize hL : Lg.std = L
  generalize hA : Alg.std = A
  cbv
  subst hL hA
  try dsimp only [Ty.den]
  have h2 := u8at hw.1.2 2
  have e0 := fun (h : data.length = 96) => (List.take_of_length_le (l := data.drop 94) (i := data.length - 94) (by simp) : (data.drop 94).take (data.length - 94) = data.drop 94)
  have e2 : (3 + data.getD 2 0).toNat - 3 = (data.getD 2 0).toNat := by omega
  have e3 : ((data.drop 3).take (data.getD 2 0).toNat).length ≤ 91 ∨ data.getD 2 0 > 91 := by simp; omega
  have e4 : (pairOf (sumOf 29 (data.take 94))).length = 2 := rfl
  have e5 := sumOf_nonneg 29 (data.take 94) (by omega)
  have e6 : data.length = 96 → (3 + data.getD 2 0 : Int) ≤ data.length ∨ data.getD 2 0 > 91 := fun h => by omega
  subst hR0 hg_F_i_isPage hg_Q_i_isPage hg_F_i_PageFault hg_Q_i_PageFault hg_F_b_Equal hg_Q_b_Equal hg_F_i_SumOf hg_Q_i_SumOf hg_F_i_pair hg_Q_i_pair hg_F_i_packedPage hg_Q_i_packedPage hg_F_sl_Clone_byte hg_Q_sl_Clone_byte
  simp only [Lg.std, Alg.std, List.drop_zero, List.take_length, F_i_isPage, F_i_PageFault, F_b_Equal, F_i_SumOf, F_i_pair, F_i_packedPage, F_sl_Clone_byte, Q_i_isPage, Q_i_PageFault, Q_b_Equal, Q_i_SumOf, Q_i_pair, Q_i_packedPage, Q_sl_Clone_byte, F_i_ReadPage, readPage, l15Read, rdPage, zPage]
  try simp only [true_and, and_true, false_implies, implies_true, imp_self]
  repeat' (first | intro _ | apply And.intro)
  all_goals grind
def con_i_ReadPage : Con := ⟨true, g2 (pD (.sl (.int .u8))) (pD (.int .i64)) fun data id => ⟨[Q_i_ReadPage data id], [⟨(.pair (.int .i64) (.pair (.pair (.int .i64) (.pair (.int .i64) (.pair (.sl (.int .u8)) .unit))) .unit)), (.pr .sh (.pr (.pr .sh (.pr .sh (.pr (.ow .sh) .sh))) .sh)), F_i_ReadPage data id⟩], []⟩, []⟩
theorem ok_i_ReadPage : ConOk pg 43 con_i_ReadPage := ConOk.g2 (Enters.of (by kernel_rfl)) ct_i_ReadPage

def F_w_FnExactReadPage (p : List (Int)) (i : Int) : Bool := true
def Q_w_FnExactReadPage (p : List (Int)) (i : Int) : Prop := True
def O_w_FnExactReadPage : Opt := ⟨fun i => false, fun i => [], fun i => .done, fun i => none⟩
def τ_w_FnExactReadPage : Env := Env.of [(2, (.int .i64)), (3, (.int .i64)), (4, .bool), (22, (.sl (.int .u8))), (67, (.pair (.int .i64) (.pair (.pair (.int .i64) (.pair (.int .i64) (.pair (.sl (.int .u8)) .unit))) .unit)))] []

theorem ct_w_FnExactReadPage (p : List (Int)) (i : Int) : Ct pg 8 [.dat (.sl (.int .u8)) p, .dat (.int .i64) i] ⟨[Q_w_FnExactReadPage p i], [⟨.bool, .sh, F_w_FnExactReadPage p i⟩], []⟩ := by
  refine ct_claim (O := O_w_FnExactReadPage) (τ := τ_w_FnExactReadPage) (EnvOk.of (by kernel_rfl)) (GOk.of (.cons ok_w_toByteS (.cons ok_w_eqByteS (.cons ok_w_markByteS (.cons ok_w_eqPageResult (.cons ok_w_markPageResult (.cons ok_w_heldPageResult (.cons ok_s_ReadPage (.cons ok_i_ReadPage .nil))))))) : AllOk pg [(42, con_w_toByteS), (45, con_w_eqByteS), (46, con_w_markByteS), (44, con_w_eqPageResult), (47, con_w_markPageResult), (48, con_w_heldPageResult), (41, con_s_ReadPage), (43, con_i_ReadPage)])) mixed (Enters.of (by kernel_rfl)) (fn := Go.Proofs.Try.f8) (by kernel_rfl) rfl (by kernel_rfl) ?_
  intro hp hw
  have hq : Q_w_FnExactReadPage p i := hp _ (List.mem_singleton.2 rfl)
  clear hp
  change claim Lg.std Alg.std τ_w_FnExactReadPage (Gam.of [(42, ⟨true, g1 (pD (.sl (.int .u8))) fun a => ⟨[Q_w_toByteS a], [⟨(.sl (.int .u8)), (.ow .sh), F_w_toByteS a⟩], []⟩, []⟩), (45, ⟨true, g2 (pD (.sl (.int .u8))) (pD (.sl (.int .u8))) fun a b => ⟨[Q_w_eqByteS a b], [⟨.bool, .sh, F_w_eqByteS a b⟩], []⟩, []⟩), (46, ⟨true, g2 (pV (.sl (.int .u8)) (.ow .sh)) (pD (.int .i64)) fun a k => ⟨[Q_w_markByteS a k], [⟨(.int .i64), .sh, F_w_markByteS a k⟩], [.mv (.sl (.int .u8)) (.ow .sh) (B_w_markByteS_a a k)]⟩, [(.ow .sh)]⟩), (44, ⟨true, g2 (pD (.pair (.int .i64) (.pair (.pair (.int .i64) (.pair (.int .i64) (.pair (.sl (.int .u8)) .unit))) .unit))) (pD (.pair (.int .i64) (.pair (.pair (.int .i64) (.pair (.int .i64) (.pair (.sl (.int .u8)) .unit))) .unit))) fun a b => ⟨[Q_w_eqPageResult a b], [⟨.bool, .sh, F_w_eqPageResult a b⟩], []⟩, []⟩), (47, ⟨true, g2 (pV (.pair (.int .i64) (.pair (.pair (.int .i64) (.pair (.int .i64) (.pair (.sl (.int .u8)) .unit))) .unit)) (.pr .sh (.pr (.pr .sh (.pr .sh (.pr (.ow .sh) .sh))) .sh))) (pD (.int .i64)) fun a k => ⟨[Q_w_markPageResult a k], [⟨(.int .i64), .sh, F_w_markPageResult a k⟩], [.mv (.pair (.int .i64) (.pair (.pair (.int .i64) (.pair (.int .i64) (.pair (.sl (.int .u8)) .unit))) .unit)) (.pr .sh (.pr (.pr .sh (.pr .sh (.pr (.ow .sh) .sh))) .sh)) (B_w_markPageResult_a a k)]⟩, [(.pr .sh (.pr (.pr .sh (.pr .sh (.pr (.ow .sh) .sh))) .sh))]⟩), (48, ⟨true, g2 (pD (.pair (.int .i64) (.pair (.pair (.int .i64) (.pair (.int .i64) (.pair (.sl (.int .u8)) .unit))) .unit))) (pD (.int .i64)) fun a k => ⟨[Q_w_heldPageResult a k], [⟨(.int .i64), .sh, F_w_heldPageResult a k⟩], []⟩, []⟩), (41, ⟨true, g2 (pD (.sl (.int .u8))) (pD (.int .i64)) fun data id => ⟨[Q_s_ReadPage data id], [⟨(.pair (.int .i64) (.pair (.pair (.int .i64) (.pair (.int .i64) (.pair (.sl (.int .u8)) .unit))) .unit)), (.pr .sh (.pr (.pr .sh (.pr .sh (.pr (.ow .sh) .sh))) .sh)), F_s_ReadPage data id⟩], []⟩, []⟩), (43, ⟨true, g2 (pD (.sl (.int .u8))) (pD (.int .i64)) fun data id => ⟨[Q_i_ReadPage data id], [⟨(.pair (.int .i64) (.pair (.pair (.int .i64) (.pair (.int .i64) (.pair (.sl (.int .u8)) .unit))) .unit)), (.pr .sh (.pr (.pr .sh (.pr .sh (.pr (.ow .sh) .sh))) .sh)), F_i_ReadPage data id⟩], []⟩, []⟩)]) O_w_FnExactReadPage Go.Proofs.Try.f8 [.dat (.sl (.int .u8)) p, .dat (.int .i64) i] ⟨[Q_w_FnExactReadPage p i], [⟨.bool, .sh, F_w_FnExactReadPage p i⟩], []⟩
  generalize hg_F_w_toByteS : F_w_toByteS = g_F_w_toByteS
  generalize hg_Q_w_toByteS : Q_w_toByteS = g_Q_w_toByteS
  generalize hg_F_w_eqByteS : F_w_eqByteS = g_F_w_eqByteS
  generalize hg_Q_w_eqByteS : Q_w_eqByteS = g_Q_w_eqByteS
  generalize hg_F_w_markByteS : F_w_markByteS = g_F_w_markByteS
  generalize hg_B_w_markByteS_a : B_w_markByteS_a = g_B_w_markByteS_a
  generalize hg_Q_w_markByteS : Q_w_markByteS = g_Q_w_markByteS
  generalize hg_F_w_eqPageResult : F_w_eqPageResult = g_F_w_eqPageResult
  generalize hg_Q_w_eqPageResult : Q_w_eqPageResult = g_Q_w_eqPageResult
  generalize hg_F_w_markPageResult : F_w_markPageResult = g_F_w_markPageResult
  generalize hg_B_w_markPageResult_a : B_w_markPageResult_a = g_B_w_markPageResult_a
  generalize hg_Q_w_markPageResult : Q_w_markPageResult = g_Q_w_markPageResult
  generalize hg_F_w_heldPageResult : F_w_heldPageResult = g_F_w_heldPageResult
  generalize hg_Q_w_heldPageResult : Q_w_heldPageResult = g_Q_w_heldPageResult
  generalize hg_F_s_ReadPage : F_s_ReadPage = g_F_s_ReadPage
  generalize hg_Q_s_ReadPage : Q_s_ReadPage = g_Q_s_ReadPage
  generalize hg_F_i_ReadPage : F_i_ReadPage = g_F_i_ReadPage
  generalize hg_Q_i_ReadPage : Q_i_ReadPage = g_Q_i_ReadPage
  generalize hR0 : F_w_FnExactReadPage p i = R0
  generalize Q_w_FnExactReadPage p i = Q0
  generalize hL : Lg.std = L
  generalize hA : Alg.std = A
  cbv
  subst hL hA
  try dsimp only [Ty.den]
  have hct_p := cnt_tot (.sl (.int .u8)) p (by decide)
  have hl := readPage_len p i (fun j => u8at hw.1.2 j)
  have hc0 : cnt false (.pair (.int .i64) (.pair (.pair (.int .i64) (.pair (.int .i64) (.pair (.sl (.int .u8)) .unit))) .unit)) (readPage p i) ≤ 96 := by
    simp only [szf, tot_p, tot_u, tot_i, tot_b, tot_s, cnt_p, cnt_u, cnt_i0, cnt_b0, cnt_s0, cnt_i1, cnt_b1, cnt_s1, cnt_l, mk_p, mk_u, mk_i0, mk_b0, mk_s0, mk_i1, mk_s1, mk_l, hd_p, hd_u, hd_i0, hd_b0, hd_s0, hd_i1, hd_b1, hd_s1, hd_l, cnt_int]
    omega
  have htp : tot (.sl (.int .u8)) p = p.length := tot_int .u8 p
  subst hR0 hg_F_w_toByteS hg_Q_w_toByteS hg_F_w_eqByteS hg_Q_w_eqByteS hg_F_w_markByteS hg_B_w_markByteS_a hg_Q_w_markByteS hg_F_w_eqPageResult hg_Q_w_eqPageResult hg_F_w_markPageResult hg_B_w_markPageResult_a hg_Q_w_markPageResult hg_F_w_heldPageResult hg_Q_w_heldPageResult hg_F_s_ReadPage hg_Q_s_ReadPage hg_F_i_ReadPage hg_Q_i_ReadPage
  simp only [Lg.std, Alg.std, List.drop_zero, List.take_length, F_w_toByteS, F_w_eqByteS, F_w_markByteS, F_w_eqPageResult, F_w_markPageResult, F_w_heldPageResult, F_s_ReadPage, F_i_ReadPage, B_w_markByteS_a, B_w_markPageResult_a, Q_w_toByteS, Q_w_eqByteS, Q_w_markByteS, Q_w_eqPageResult, Q_w_markPageResult, Q_w_heldPageResult, Q_s_ReadPage, Q_i_ReadPage, F_w_FnExactReadPage]
  generalize hW : (readPage p i : (Int) × ((Int) × (Int) × (List (Int)) × Unit) × Unit) = w at *
  clear hW
  obtain ⟨w_0, ⟨w_1_0, w_1_1, w_1_2, ⟨⟩⟩, ⟨⟩⟩ := w
  try dsimp only at *
  have hm := hd_mk false (.pair (.int .i64) (.pair (.pair (.int .i64) (.pair (.int .i64) (.pair (.sl (.int .u8)) .unit))) .unit)) (w_0, (w_1_0, w_1_1, w_1_2, PUnit.unit), PUnit.unit) 1 (by omega)

  have mt_w_1_2 := fun k => mk_take false (.int .u8) w_1_2 k
  dsimp only [Ty.den] at mt_w_1_2
  simp only [tot_p, tot_u, tot_i, tot_b, tot_s, cnt_p, cnt_u, cnt_i0, cnt_b0, cnt_s0, cnt_i1, cnt_b1, cnt_s1, cnt_l, mk_p, mk_u, mk_i0, mk_b0, mk_s0, mk_i1, mk_s1, mk_l, hd_p, hd_u, hd_i0, hd_b0, hd_s0, hd_i1, hd_b1, hd_s1, hd_l, mt_w_1_2] at *
  repeat' (first | intro _ | apply And.intro)
  all_goals grind [szf, cnt_mk, hd_mk]
def con_w_FnExactReadPage : Con := ⟨true, g2 (pD (.sl (.int .u8))) (pD (.int .i64)) fun p i => ⟨[Q_w_FnExactReadPage p i], [⟨.bool, .sh, F_w_FnExactReadPage p i⟩], []⟩, []⟩
theorem ok_w_FnExactReadPage : ConOk pg 8 con_w_FnExactReadPage := ConOk.g2 (Enters.of (by kernel_rfl)) ct_w_FnExactReadPage
end Go.Vee
