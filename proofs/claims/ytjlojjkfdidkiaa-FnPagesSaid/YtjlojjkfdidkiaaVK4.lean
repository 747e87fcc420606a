/-
  Contracts of functions of the program: what each returns for all arguments that its precondition lets in.
-/
import Derived.Test.YtjlojjkfdidkiaaVK3
set_option linter.unusedSimpArgs false
set_option linter.unusedVariables false
set_option maxRecDepth 100000
set_option maxHeartbeats 4000000
set_option synthInstance.maxHeartbeats 4000000
set_option synthInstance.maxSize 20000000
namespace Go.Vee
open Go
abbrev zPage : Int × Int × List Int × Unit := (0, 0, [], ())
def rdPage (data : List Int) (id : Int) : Int × Int × List Int × Unit := (data.getD 0 0, id, (data.drop 3).take (data.getD 2 0).toNat, ())
def l15Read (data : List Int) (id : Int) : Int × (Int × Int × List Int × Unit) :=
  if pairOf (sumOf 29 (data.take 94)) ≠ data.drop 94 then (11, zPage) else if data.getD 1 0 ≠ id then (8, zPage) else if data.getD 2 0 > 91 then (5, zPage) else if pageFault (rdPage data id) ≠ 0 ∨ packPage (rdPage data id) ≠ data then (5, zPage) else (0, rdPage data id)
def readPage (data : List Int) (id : Int) : Int × (Int × Int × List Int × Unit) × Unit :=
  if data.length ≠ 96 then (1, zPage, ()) else if ¬ (2 ≤ id ∧ id ≤ 63) then (3, zPage, ()) else ((l15Read data id).1, (l15Read data id).2, ())

def F_s_l1Copy (data : List (Int)) : List (Int) := data
def Q_s_l1Copy (data : List (Int)) : Prop := data.length ≤ 1048576
def O_s_l1Copy : Opt := ⟨fun i => false, fun i => [], fun i => .done, fun i => none, fun i => false, fun i => [], fun i => false, fun i => none, fun i => none⟩
def τ_s_l1Copy : Env := Env.of [(2, (.int .i64)), (34, (.sl (.int .u8)))] [] []

theorem ct_s_l1Copy (data : List (Int)) : Ct pg 77 [.dat (.sl (.int .u8)) data] ⟨[Q_s_l1Copy data], [⟨(.sl (.int .u8)), (.ow .sh), F_s_l1Copy data⟩], []⟩ := by
  refine ct_claim (O := O_s_l1Copy) (τ := τ_s_l1Copy) (EnvOk.of (by kernel_rfl) (by kernel_rfl)) (GOk.of (.nil : AllOk pg [])) mixed (Enters.of (by kernel_rfl)) (fn := Go.Proofs.Try.f77) (by kernel_rfl) rfl (by kernel_rfl) ?_
  intro hp hw
  have hq : Q_s_l1Copy data := hp _ (List.mem_singleton.2 rfl)
  clear hp
  change claim Lg.std Alg.std τ_s_l1Copy (Gam.of []) O_s_l1Copy Go.Proofs.Try.f77 [.dat (.sl (.int .u8)) data] ⟨[Q_s_l1Copy data], [⟨(.sl (.int .u8)), (.ow .sh), F_s_l1Copy data⟩], []⟩
  generalize hR0 : F_s_l1Copy data = R0
  generalize Q_s_l1Copy data = Q0
  generalize hL : Lg.std = L
  generalize hA : Alg.std = A
  cbv
  subst hL hA
  try dsimp only [Ty.den]
  subst hR0
  simp only [Q_s_l1Copy] at hq
  simp only [Lg.std, Alg.std, List.drop_zero, List.take_length, F_s_l1Copy]
  all_goals grind
def con_s_l1Copy : Con := ⟨true, g1 (pD (.sl (.int .u8))) fun data => .one ⟨[Q_s_l1Copy data], [⟨(.sl (.int .u8)), (.ow .sh), F_s_l1Copy data⟩], []⟩, [], false, 0⟩
theorem ok_s_l1Copy : ConOk pg 77 con_s_l1Copy := ConOk.g1 (Enters.of (by kernel_rfl)) ct_s_l1Copy

def F_sl_Clone_byte (s : List (Int)) : List (Int) := s
def Q_sl_Clone_byte (s : List (Int)) : Prop := s.length ≤ 1048576
def O_sl_Clone_byte : Opt := ⟨fun i => false, fun i => [], fun i => .done, fun i => none, fun i => false, fun i => [], fun i => false, fun i => none, fun i => none⟩
def τ_sl_Clone_byte : Env := Env.of [(2, (.int .i64)), (4, .bool), (34, (.sl (.int .u8)))] [] []

theorem ct_sl_Clone_byte (s : List (Int)) : Ct pg 84 [.dat (.sl (.int .u8)) s] ⟨[Q_sl_Clone_byte s], [⟨(.sl (.int .u8)), (.ow .sh), F_sl_Clone_byte s⟩], []⟩ := by
  refine ct_claim (O := O_sl_Clone_byte) (τ := τ_sl_Clone_byte) (EnvOk.of (by kernel_rfl) (by kernel_rfl)) (GOk.of (.nil : AllOk pg [])) mixed (Enters.of (by kernel_rfl)) (fn := Go.Proofs.Try.f84) (by kernel_rfl) rfl (by kernel_rfl) ?_
  intro hp hw
  have hq : Q_sl_Clone_byte s := hp _ (List.mem_singleton.2 rfl)
  clear hp
  change claim Lg.std Alg.std τ_sl_Clone_byte (Gam.of []) O_sl_Clone_byte Go.Proofs.Try.f84 [.dat (.sl (.int .u8)) s] ⟨[Q_sl_Clone_byte s], [⟨(.sl (.int .u8)), (.ow .sh), F_sl_Clone_byte s⟩], []⟩
  generalize hR0 : F_sl_Clone_byte s = R0
  generalize Q_sl_Clone_byte s = Q0
  generalize hL : Lg.std = L
  generalize hA : Alg.std = A
  cbv
  subst hL hA
  try dsimp only [Ty.den]
  subst hR0
  simp only [Q_sl_Clone_byte] at hq
  simp only [Lg.std, Alg.std, List.drop_zero, List.take_length, F_sl_Clone_byte]
  all_goals grind
def con_sl_Clone_byte : Con := ⟨true, g1 (pD (.sl (.int .u8))) fun s => .one ⟨[Q_sl_Clone_byte s], [⟨(.sl (.int .u8)), (.ow .sh), F_sl_Clone_byte s⟩], []⟩, [], false, 0⟩
theorem ok_sl_Clone_byte : ConOk pg 84 con_sl_Clone_byte := ConOk.g1 (Enters.of (by kernel_rfl)) ct_sl_Clone_byte

def F_s_l15Read (data : List (Int)) (id : Int) : (Int) × (Int) × (List (Int)) × Unit := (l15Read data id).2
def F_s_l15Read_1 (data : List (Int)) (id : Int) : Int := (l15Read data id).1
def Q_s_l15Read (data : List (Int)) (id : Int) : Prop := data.length = 96
def O_s_l15Read : Opt := ⟨fun i => false, fun i => [], fun i => (match decide (i = 10) with | true => (.alt 0 (.alt 1 (.take 2 (.take 3 (.take 6 (.alt 4 (.take 5 (.take 7 (.take 8 (.take 9 .done)))) (.alt 7 (.alt 4 (.take 5 (.take 8 (.take 9 .done))) .no) .no))))) .no) .no) | false => (match decide (i = 9) with | true => (.take 0 (.take 1 (.take 4 (.take 5 (.take 6 (.take 7 (.alt 2 (.take 3 (.alt 8 (.take 9 (.take 10 (.take 11 (.alt 12 (.take 13 (.alt 14 (.alt 15 .done .no) .no)) (.alt 14 (.alt 12 (.take 13 (.alt 15 .done .no)) .no) .no))))) (.alt 14 (.alt 8 (.take 9 (.take 10 (.take 11 (.alt 12 (.take 13 (.alt 15 .done .no)) .no)))) .no) .no))) (.alt 8 (.take 9 (.take 10 (.take 11 (.alt 2 (.take 3 (.alt 12 (.take 13 (.alt 14 (.alt 15 .done .no) .no)) (.alt 14 (.alt 12 (.take 13 (.alt 15 .done .no)) .no) .no))) (.alt 12 (.take 2 (.take 3 (.take 13 (.alt 14 (.alt 15 .done .no) .no)))) (.alt 14 (.alt 2 (.take 3 (.alt 12 (.take 13 (.alt 15 .done .no)) .no)) (.alt 12 (.take 2 (.take 3 (.take 13 (.alt 15 .done .no)))) .no)) .no)))))) (.alt 14 (.alt 2 (.take 3 (.alt 8 (.take 9 (.take 10 (.take 11 (.alt 12 (.take 13 (.alt 15 .done .no)) .no)))) .no)) (.alt 8 (.take 9 (.take 10 (.take 11 (.alt 2 (.take 3 (.alt 12 (.take 13 (.alt 15 .done .no)) .no)) (.alt 12 (.take 2 (.take 3 (.take 13 (.alt 15 .done .no)))) .no))))) .no)) .no))))))))) | false => (match decide (i = 3) with | true => (.take 0 (.take 1 (.take 2 (.take 6 (.take 7 (.take 8 (.alt 3 (.alt 4 (.take 5 (.take 9 (.take 10 .done))) (.alt 9 (.alt 4 (.take 5 (.take 10 .done)) .no) .no)) (.alt 9 (.alt 3 (.alt 4 (.take 5 (.take 10 .done)) .no) .no) .no)))))))) | false => .done))), fun i => (match decide (i = 9) with | true => some [true, false, false, false, true, false, true, false, true, false, false, false, false, false, false, false, false, false, false, false, false, false, false, false, false, false, false, false, false, false, false, false, false, false, false, false, false, false, false, false, false, false, false, false, false, false, false, false, false, false, false, false, false, false, false, false, false, false, false, false] | false => (match decide (i = 3) with | true => some [true, true, false, false, true, false, true, false, false, false, false, false, false, false, false, false, false, false, false, false, true, false, false, false, false, false, false, false, false, false, false, false, false, false, false, false, false, false, false, false, false, false, false, false, false, false, false, false, false, false, false, false, false, false, false, false, false, false, false, false] | false => none)), fun i => false, fun i => [], fun i => false, fun i => none, fun i => none⟩
def τ_s_l15Read : Env := Env.of [(2, (.int .i64)), (3, (.int .i64)), (4, .bool), (5, (.int .u8)), (9, .str), (34, (.sl (.int .u8))), (54, (.pair (.int .i64) (.pair (.int .i64) (.pair (.sl (.int .u8)) .unit))))] [(108, (.pair (.int .i64) (.pair (.int .i64) (.pair (.sl (.int .u8)) .unit))))] []

theorem ct_s_l15Read (data : List (Int)) (id : Int) : Ct pg 86 [.dat (.sl (.int .u8)) data, .dat (.int .i64) id] ⟨[Q_s_l15Read data id], [⟨(.pair (.int .i64) (.pair (.int .i64) (.pair (.sl (.int .u8)) .unit))), (.pr .sh (.pr .sh (.pr (.ow .sh) .sh))), F_s_l15Read data id⟩, ⟨(.int .i64), .sh, F_s_l15Read_1 data id⟩], []⟩ := by
  refine ct_claim (O := O_s_l15Read) (τ := τ_s_l15Read) (EnvOk.of (by kernel_rfl) (by kernel_rfl)) (GOk.of (.cons ok_s_PageFault (.cons ok_s_l1Sum (.cons ok_s_l1Pair (.cons ok_s_l15Pack (.cons ok_s_l1Copy .nil)))) : AllOk pg [(72, con_s_PageFault), (79, con_s_l1Sum), (78, con_s_l1Pair), (75, con_s_l15Pack), (77, con_s_l1Copy)])) mixed (Enters.of (by kernel_rfl)) (fn := Go.Proofs.Try.f86) (by kernel_rfl) rfl (by kernel_rfl) ?_
  intro hp hw
  have hq : Q_s_l15Read data id := hp _ (List.mem_singleton.2 rfl)
  clear hp
  change claim Lg.std Alg.std τ_s_l15Read (Gam.of [(72, con_s_PageFault), (79, con_s_l1Sum), (78, con_s_l1Pair), (75, con_s_l15Pack), (77, con_s_l1Copy)]) O_s_l15Read Go.Proofs.Try.f86 [.dat (.sl (.int .u8)) data, .dat (.int .i64) id] ⟨[Q_s_l15Read data id], [⟨(.pair (.int .i64) (.pair (.int .i64) (.pair (.sl (.int .u8)) .unit))), (.pr .sh (.pr .sh (.pr (.ow .sh) .sh))), F_s_l15Read data id⟩, ⟨(.int .i64), .sh, F_s_l15Read_1 data id⟩], []⟩
  delta con_s_PageFault con_s_l1Sum con_s_l1Pair con_s_l15Pack con_s_l1Copy
  generalize hg_F_s_PageFault : F_s_PageFault = g_F_s_PageFault
  generalize hg_Q_s_PageFault : Q_s_PageFault = g_Q_s_PageFault
  generalize hg_F_s_l1Sum : F_s_l1Sum = g_F_s_l1Sum
  generalize hg_Q_s_l1Sum : Q_s_l1Sum = g_Q_s_l1Sum
  generalize hg_F_s_l1Pair : F_s_l1Pair = g_F_s_l1Pair
  generalize hg_Q_s_l1Pair : Q_s_l1Pair = g_Q_s_l1Pair
  generalize hg_F_s_l15Pack : F_s_l15Pack = g_F_s_l15Pack
  generalize hg_Q_s_l15Pack : Q_s_l15Pack = g_Q_s_l15Pack
  generalize hg_F_s_l1Copy : F_s_l1Copy = g_F_s_l1Copy
  generalize hg_Q_s_l1Copy : Q_s_l1Copy = g_Q_s_l1Copy
  generalize hR0 : F_s_l15Read data id = R0
  generalize hR1 : F_s_l15Read_1 data id = R1
  generalize Q_s_l15Read data id = Q0
  generalize hL : Lg.std = L
  generalize hA : Alg.std = A
  cbv
  subst hL hA
  try dsimp only [Ty.den]
  simp only [Q_s_l15Read] at hq
  have h2 := u8at hw.1.2 2
  have e1 : (data.drop 94).take (data.length - 94) = data.drop 94 := List.take_of_length_le (by simp)
  have e2 : (3 + data.getD 2 0).toNat - 3 = (data.getD 2 0).toNat := by omega
  have e3 : ((data.drop 3).take (data.getD 2 0).toNat).length ≤ 91 ∨ data.getD 2 0 > 91 := by simp; omega
  have e4 : (pairOf (sumOf 29 (data.take 94))).length = 2 := rfl
  have e5 := sumOf_nonneg 29 (data.take 94) (by omega)
  have e6 : (3 + data.getD 2 0 : Int) ≤ data.length ∨ data.getD 2 0 > 91 := by omega
  subst hR0 hR1 hg_F_s_PageFault hg_Q_s_PageFault hg_F_s_l1Sum hg_Q_s_l1Sum hg_F_s_l1Pair hg_Q_s_l1Pair hg_F_s_l15Pack hg_Q_s_l15Pack hg_F_s_l1Copy hg_Q_s_l1Copy
  simp only [Lg.std, Alg.std, List.drop_zero, List.take_length, F_s_PageFault, F_s_l1Sum, F_s_l1Pair, F_s_l15Pack, F_s_l1Copy, Q_s_PageFault, Q_s_l1Sum, Q_s_l1Pair, Q_s_l15Pack, Q_s_l1Copy, F_s_l15Read, F_s_l15Read_1, l15Read, rdPage, zPage]
  simp [e1, e2, hq]
  all_goals grind
def con_s_l15Read : Con := ⟨true, g2 (pD (.sl (.int .u8))) (pD (.int .i64)) fun data id => .one ⟨[Q_s_l15Read data id], [⟨(.pair (.int .i64) (.pair (.int .i64) (.pair (.sl (.int .u8)) .unit))), (.pr .sh (.pr .sh (.pr (.ow .sh) .sh))), F_s_l15Read data id⟩, ⟨(.int .i64), .sh, F_s_l15Read_1 data id⟩], []⟩, [], false, 0⟩
theorem ok_s_l15Read : ConOk pg 86 con_s_l15Read := ConOk.g2 (Enters.of (by kernel_rfl)) ct_s_l15Read

def F_s_ReadPage (data : List (Int)) (id : Int) : (Int) × ((Int) × (Int) × (List (Int)) × Unit) × Unit := readPage data id
def Q_s_ReadPage (data : List (Int)) (id : Int) : Prop := True
def O_s_ReadPage : Opt := ⟨fun i => false, fun i => [], fun i => .done, fun i => none, fun i => false, fun i => [], fun i => false, fun i => none, fun i => none⟩
def τ_s_ReadPage : Env := Env.of [(2, (.int .i64)), (3, (.int .i64)), (4, .bool), (34, (.sl (.int .u8))), (54, (.pair (.int .i64) (.pair (.int .i64) (.pair (.sl (.int .u8)) .unit)))), (62, (.pair (.int .i64) (.pair (.pair (.int .i64) (.pair (.int .i64) (.pair (.sl (.int .u8)) .unit))) .unit)))] [] []

theorem ct_s_ReadPage (data : List (Int)) (id : Int) : Ct pg 35 [.dat (.sl (.int .u8)) data, .dat (.int .i64) id] ⟨[Q_s_ReadPage data id], [⟨(.pair (.int .i64) (.pair (.pair (.int .i64) (.pair (.int .i64) (.pair (.sl (.int .u8)) .unit))) .unit)), (.pr .sh (.pr (.pr .sh (.pr .sh (.pr (.ow .sh) .sh))) .sh)), F_s_ReadPage data id⟩], []⟩ := by
  refine ct_claim (O := O_s_ReadPage) (τ := τ_s_ReadPage) (EnvOk.of (by kernel_rfl) (by kernel_rfl)) (GOk.of (.cons ok_s_l15Id (.cons ok_s_l15Read .nil) : AllOk pg [(85, con_s_l15Id), (86, con_s_l15Read)])) mixed (Enters.of (by kernel_rfl)) (fn := Go.Proofs.Try.f35) (by kernel_rfl) rfl (by kernel_rfl) ?_
  intro hp hw
  have hq : Q_s_ReadPage data id := hp _ (List.mem_singleton.2 rfl)
  clear hp
  change claim Lg.std Alg.std τ_s_ReadPage (Gam.of [(85, con_s_l15Id), (86, con_s_l15Read)]) O_s_ReadPage Go.Proofs.Try.f35 [.dat (.sl (.int .u8)) data, .dat (.int .i64) id] ⟨[Q_s_ReadPage data id], [⟨(.pair (.int .i64) (.pair (.pair (.int .i64) (.pair (.int .i64) (.pair (.sl (.int .u8)) .unit))) .unit)), (.pr .sh (.pr (.pr .sh (.pr .sh (.pr (.ow .sh) .sh))) .sh)), F_s_ReadPage data id⟩], []⟩
  delta con_s_l15Id con_s_l15Read
  generalize hg_F_s_l15Id : F_s_l15Id = g_F_s_l15Id
  generalize hg_Q_s_l15Id : Q_s_l15Id = g_Q_s_l15Id
  generalize hg_F_s_l15Read : F_s_l15Read = g_F_s_l15Read
  generalize hg_F_s_l15Read_1 : F_s_l15Read_1 = g_F_s_l15Read_1
  generalize hg_Q_s_l15Read : Q_s_l15Read = g_Q_s_l15Read
  generalize hR0 : F_s_ReadPage data id = R0
  generalize Q_s_ReadPage data id = Q0
  generalize hL : Lg.std = L
  generalize hA : Alg.std = A
  cbv
  subst hL hA
  try dsimp only [Ty.den]
  subst hR0 hg_F_s_l15Id hg_Q_s_l15Id hg_F_s_l15Read hg_F_s_l15Read_1 hg_Q_s_l15Read
  simp only [Lg.std, Alg.std, List.drop_zero, List.take_length, F_s_l15Id, F_s_l15Read, F_s_l15Read_1, Q_s_l15Id, Q_s_l15Read, F_s_ReadPage, readPage, zPage]
  all_goals grind
def con_s_ReadPage : Con := ⟨true, g2 (pD (.sl (.int .u8))) (pD (.int .i64)) fun data id => .one ⟨[Q_s_ReadPage data id], [⟨(.pair (.int .i64) (.pair (.pair (.int .i64) (.pair (.int .i64) (.pair (.sl (.int .u8)) .unit))) .unit)), (.pr .sh (.pr (.pr .sh (.pr .sh (.pr (.ow .sh) .sh))) .sh)), F_s_ReadPage data id⟩], []⟩, [], false, 0⟩
theorem ok_s_ReadPage : ConOk pg 35 con_s_ReadPage := ConOk.g2 (Enters.of (by kernel_rfl)) ct_s_ReadPage

def F_i_ReadPage (data : List (Int)) (id : Int) : (Int) × ((Int) × (Int) × (List (Int)) × Unit) × Unit := readPage data id
def Q_i_ReadPage (data : List (Int)) (id : Int) : Prop := True
def O_i_ReadPage : Opt := ⟨fun i => false, fun i => [], fun i => (match decide (i = 12) with | true => (.take 0 (.take 1 (.take 4 (.take 5 (.take 6 (.take 7 (.take 8 (.alt 2 (.take 3 (.alt 9 (.take 10 (.alt 11 (.alt 12 .done .no) .no)) (.alt 11 (.alt 9 (.take 10 (.alt 12 .done .no)) .no) .no))) (.alt 9 (.take 2 (.take 3 (.take 10 (.alt 11 (.alt 12 .done .no) .no)))) (.alt 11 (.alt 2 (.take 3 (.alt 9 (.take 10 (.alt 12 .done .no)) .no)) (.alt 9 (.take 2 (.take 3 (.take 10 (.alt 12 .done .no)))) .no)) .no)))))))))) | false => (match decide (i = 5) with | true => (.take 0 (.take 1 (.take 5 (.take 6 (.alt 2 (.take 3 (.alt 4 (.alt 7 (.take 8 .done) .no) .no)) .no))))) | false => .done)), fun i => (match decide (i = 12) with | true => some [true, false, false, false, true, false, true, false, false, false, false, false, false, false, false, false, false, false, false, false, false, false, false, false, false, false, false, false, false, false, false, false, false, false, false, false, false, false, false, false, false, false, false, false, false, false, false, false, false, false, false, false, false, false, false, false, false, false, false, false, false, false, false] | false => none), fun i => false, fun i => [], fun i => false, fun i => none, fun i => none⟩
def τ_i_ReadPage : Env := Env.of [(2, (.int .i64)), (3, (.int .i64)), (4, .bool), (5, (.int .u8)), (34, (.sl (.int .u8))), (36, (.pair (.int .i64) (.pair (.int .i64) .unit))), (54, (.pair (.int .i64) (.pair (.int .i64) (.pair (.sl (.int .u8)) .unit)))), (62, (.pair (.int .i64) (.pair (.pair (.int .i64) (.pair (.int .i64) (.pair (.sl (.int .u8)) .unit))) .unit)))] [] []

theorem ct_i_ReadPage (data : List (Int)) (id : Int) : Ct pg 32 [.dat (.sl (.int .u8)) data, .dat (.int .i64) id] ⟨[Q_i_ReadPage data id], [⟨(.pair (.int .i64) (.pair (.pair (.int .i64) (.pair (.int .i64) (.pair (.sl (.int .u8)) .unit))) .unit)), (.pr .sh (.pr (.pr .sh (.pr .sh (.pr (.ow .sh) .sh))) .sh)), F_i_ReadPage data id⟩], []⟩ := by
  refine ct_claim (O := O_i_ReadPage) (τ := τ_i_ReadPage) (EnvOk.of (by kernel_rfl) (by kernel_rfl)) (GOk.of (.cons ok_i_isPage (.cons ok_i_PageFault (.cons ok_b_Equal (.cons ok_i_SumOf (.cons ok_i_pair (.cons ok_i_packedPage (.cons ok_sl_Clone_byte .nil)))))) : AllOk pg [(80, con_i_isPage), (34, con_i_PageFault), (81, con_b_Equal), (83, con_i_SumOf), (82, con_i_pair), (70, con_i_packedPage), (84, con_sl_Clone_byte)])) mixed (Enters.of (by kernel_rfl)) (fn := Go.Proofs.Try.f32) (by kernel_rfl) rfl (by kernel_rfl) ?_
  intro hp hw
  have hq : Q_i_ReadPage data id := hp _ (List.mem_singleton.2 rfl)
  clear hp
  change claim Lg.std Alg.std τ_i_ReadPage (Gam.of [(80, con_i_isPage), (34, con_i_PageFault), (81, con_b_Equal), (83, con_i_SumOf), (82, con_i_pair), (70, con_i_packedPage), (84, con_sl_Clone_byte)]) O_i_ReadPage Go.Proofs.Try.f32 [.dat (.sl (.int .u8)) data, .dat (.int .i64) id] ⟨[Q_i_ReadPage data id], [⟨(.pair (.int .i64) (.pair (.pair (.int .i64) (.pair (.int .i64) (.pair (.sl (.int .u8)) .unit))) .unit)), (.pr .sh (.pr (.pr .sh (.pr .sh (.pr (.ow .sh) .sh))) .sh)), F_i_ReadPage data id⟩], []⟩
  delta con_i_isPage con_i_PageFault con_b_Equal con_i_SumOf con_i_pair con_i_packedPage con_sl_Clone_byte
  generalize hg_F_i_isPage : F_i_isPage = g_F_i_isPage
  generalize hg_Q_i_isPage : Q_i_isPage = g_Q_i_isPage
  generalize hg_F_i_PageFault : F_i_PageFault = g_F_i_PageFault
  generalize hg_Q_i_PageFault : Q_i_PageFault = g_Q_i_PageFault
  generalize hg_F_b_Equal : F_b_Equal = g_F_b_Equal
  generalize hg_Q_b_Equal : Q_b_Equal = g_Q_b_Equal
  generalize hg_F_i_SumOf : F_i_SumOf = g_F_i_SumOf
  generalize hg_Q_i_SumOf : Q_i_SumOf = g_Q_i_SumOf
  generalize hg_F_i_pair : F_i_pair = g_F_i_pair
  generalize hg_Q_i_pair : Q_i_pair = g_Q_i_pair
  generalize hg_F_i_packedPage : F_i_packedPage = g_F_i_packedPage
  generalize hg_Q_i_packedPage : Q_i_packedPage = g_Q_i_packedPage
  generalize hg_F_sl_Clone_byte : F_sl_Clone_byte = g_F_sl_Clone_byte
  generalize hg_Q_sl_Clone_byte : Q_sl_Clone_byte = g_Q_sl_Clone_byte
  generalize hR0 : F_i_ReadPage data id = R0
  generalize Q_i_ReadPage data id = Q0
  generalize hL : Lg.std = L
  generalize hA : Alg.std = A
  cbv
  subst hL hA
  try dsimp only [Ty.den]
  have h2 := u8at hw.1.2 2
  have e0 := fun (h : data.length = 96) => (List.take_of_length_le (l := data.drop 94) (i := data.length - 94) (by simp) : (data.drop 94).take (data.length - 94) = data.drop 94)
  have e2 : (3 + data.getD 2 0).toNat - 3 = (data.getD 2 0).toNat := by omega
  have e3 : ((data.drop 3).take (data.getD 2 0).toNat).length ≤ 91 ∨ data.getD 2 0 > 91 := by simp; omega
  have e4 : (pairOf (sumOf 29 (data.take 94))).length = 2 := rfl
  have e5 := sumOf_nonneg 29 (data.take 94) (by omega)
  have e6 : data.length = 96 → (3 + data.getD 2 0 : Int) ≤ data.length ∨ data.getD 2 0 > 91 := fun h => by omega
  subst hR0 hg_F_i_isPage hg_Q_i_isPage hg_F_i_PageFault hg_Q_i_PageFault hg_F_b_Equal hg_Q_b_Equal hg_F_i_SumOf hg_Q_i_SumOf hg_F_i_pair hg_Q_i_pair hg_F_i_packedPage hg_Q_i_packedPage hg_F_sl_Clone_byte hg_Q_sl_Clone_byte
  simp only [Lg.std, Alg.std, List.drop_zero, List.take_length, F_i_isPage, F_i_PageFault, F_b_Equal, F_i_SumOf, F_i_pair, F_i_packedPage, F_sl_Clone_byte, Q_i_isPage, Q_i_PageFault, Q_b_Equal, Q_i_SumOf, Q_i_pair, Q_i_packedPage, Q_sl_Clone_byte, F_i_ReadPage, readPage, l15Read, rdPage, zPage]
  try simp only [true_and, and_true, false_implies, implies_true, imp_self]
  repeat' (first | intro _ | apply And.intro)
  all_goals grind
def con_i_ReadPage : Con := ⟨true, g2 (pD (.sl (.int .u8))) (pD (.int .i64)) fun data id => .one ⟨[Q_i_ReadPage data id], [⟨(.pair (.int .i64) (.pair (.pair (.int .i64) (.pair (.int .i64) (.pair (.sl (.int .u8)) .unit))) .unit)), (.pr .sh (.pr (.pr .sh (.pr .sh (.pr (.ow .sh) .sh))) .sh)), F_i_ReadPage data id⟩], []⟩, [], false, 0⟩
theorem ok_i_ReadPage : ConOk pg 32 con_i_ReadPage := ConOk.g2 (Enters.of (by kernel_rfl)) ct_i_ReadPage
end Go.Vee
