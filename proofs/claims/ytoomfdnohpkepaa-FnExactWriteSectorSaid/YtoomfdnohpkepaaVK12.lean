/-
  Contracts of functions of the program: what each returns for all arguments that its precondition lets in.
-/
import Derived.Test.YtoomfdnohpkepaaVK11
set_option linter.unusedSimpArgs false
set_option linter.unusedVariables false
set_option maxRecDepth 100000
set_option maxHeartbeats 4000000
set_option synthInstance.maxHeartbeats 4000000
set_option synthInstance.maxSize 20000
namespace Go.Vee
open Go
def F_s_WriteSector (d : (List (List (Int))) × (List ((Int) × (List (Int)) × Unit)) × Unit) (n : Int) (data : List (Int)) : (Int) × ((List (List (Int))) × (List ((Int) × (List (Int)) × Unit)) × Unit) × Unit := writeSector d n data
def Q_s_WriteSector (d : (List (List (Int))) × (List ((Int) × (List (Int)) × Unit)) × Unit) (n : Int) (data : List (Int)) : Prop := tot tDisk d ≤ 1048576
def O_s_WriteSector : Opt := ⟨fun i => false, fun i => [], fun i => .done, fun i => none, fun i => false, fun i => []⟩
def τ_s_WriteSector : Env := Env.of [(2, (.int .i64)), (3, (.int .i64)), (4, .bool), (26, (.sl (.int .u8))), (30, (.pair (.sl (.sl (.int .u8))) (.pair (.sl (.pair (.int .i64) (.pair (.sl (.int .u8)) .unit))) .unit))), (32, (.pair (.int .i64) (.pair (.pair (.sl (.sl (.int .u8))) (.pair (.sl (.pair (.int .i64) (.pair (.sl (.int .u8)) .unit))) .unit)) .unit)))] [(114, (.pair (.sl (.sl (.int .u8))) (.pair (.sl (.pair (.int .i64) (.pair (.sl (.int .u8)) .unit))) .unit)))] []

theorem ct_s_WriteSector (d : (List (List (Int))) × (List ((Int) × (List (Int)) × Unit)) × Unit) (n : Int) (data : List (Int)) : Ct pg 15 [.dat (.pair (.sl (.sl (.int .u8))) (.pair (.sl (.pair (.int .i64) (.pair (.sl (.int .u8)) .unit))) .unit)) d, .dat (.int .i64) n, .dat (.sl (.int .u8)) data] ⟨[Q_s_WriteSector d n data], [⟨(.pair (.int .i64) (.pair (.pair (.sl (.sl (.int .u8))) (.pair (.sl (.pair (.int .i64) (.pair (.sl (.int .u8)) .unit))) .unit)) .unit)), (.pr .sh (.pr (.pr (.ow (.ow .sh)) (.pr (.ow (.pr .sh (.pr (.ow .sh) .sh))) .sh)) .sh)), F_s_WriteSector d n data⟩], []⟩ := by
  refine ct_claim (O := O_s_WriteSector) (τ := τ_s_WriteSector) (EnvOk.of (by kernel_rfl) (by kernel_rfl)) (GOk.of (.cons ok_s_DiskFault (.cons ok_s_l14Copy (.cons ok_s_l14Sector (.cons ok_s_l14Write .nil))) : AllOk pg [(81, con_s_DiskFault), (83, con_s_l14Copy), (82, con_s_l14Sector), (84, con_s_l14Write)])) mixed (Enters.of (by kernel_rfl)) (fn := Go.Proofs.Try.f15) (by kernel_rfl) rfl (by kernel_rfl) ?_
  intro hp hw
  have hq : Q_s_WriteSector d n data := hp _ (List.mem_singleton.2 rfl)
  clear hp
  change claim Lg.std Alg.std τ_s_WriteSector (Gam.of [(81, ⟨true, g1 (pD (.pair (.sl (.sl (.int .u8))) (.pair (.sl (.pair (.int .i64) (.pair (.sl (.int .u8)) .unit))) .unit))) fun d => ⟨[Q_s_DiskFault d], [⟨(.int .i64), .sh, F_s_DiskFault d⟩], []⟩, []⟩), (83, ⟨true, g1 (pP (.pair (.sl (.sl (.int .u8))) (.pair (.sl (.pair (.int .i64) (.pair (.sl (.int .u8)) .unit))) .unit))) fun d => ⟨[Q_s_l14Copy d], [⟨(.pair (.sl (.sl (.int .u8))) (.pair (.sl (.pair (.int .i64) (.pair (.sl (.int .u8)) .unit))) .unit)), (.pr (.ow (.ow .sh)) (.pr (.ow (.pr .sh (.pr (.ow .sh) .sh))) .sh)), F_s_l14Copy d⟩], []⟩, []⟩), (82, ⟨true, g2 (pP (.pair (.sl (.sl (.int .u8))) (.pair (.sl (.pair (.int .i64) (.pair (.sl (.int .u8)) .unit))) .unit))) (pD (.int .i64)) fun d n => ⟨[Q_s_l14Sector d n], [⟨.bool, .sh, F_s_l14Sector d n⟩], []⟩, []⟩), (84, ⟨true, g3 (pW (.pair (.sl (.sl (.int .u8))) (.pair (.sl (.pair (.int .i64) (.pair (.sl (.int .u8)) .unit))) .unit)) (.pr (.ow (.ow .sh)) (.pr (.ow (.pr .sh (.pr (.ow .sh) .sh))) .sh))) (pD (.int .i64)) (pD (.sl (.int .u8))) fun d n data => ⟨[Q_s_l14Write d n data], [], [.mp (.pair (.sl (.sl (.int .u8))) (.pair (.sl (.pair (.int .i64) (.pair (.sl (.int .u8)) .unit))) .unit)) (.pr (.ow (.ow .sh)) (.pr (.ow (.pr .sh (.pr (.ow .sh) .sh))) .sh)) (B_s_l14Write_d d n data)]⟩, [(.pr (.ow (.ow .sh)) (.pr (.ow (.pr .sh (.pr (.ow .sh) .sh))) .sh))]⟩)]) O_s_WriteSector Go.Proofs.Try.f15 [.dat (.pair (.sl (.sl (.int .u8))) (.pair (.sl (.pair (.int .i64) (.pair (.sl (.int .u8)) .unit))) .unit)) d, .dat (.int .i64) n, .dat (.sl (.int .u8)) data] ⟨[Q_s_WriteSector d n data], [⟨(.pair (.int .i64) (.pair (.pair (.sl (.sl (.int .u8))) (.pair (.sl (.pair (.int .i64) (.pair (.sl (.int .u8)) .unit))) .unit)) .unit)), (.pr .sh (.pr (.pr (.ow (.ow .sh)) (.pr (.ow (.pr .sh (.pr (.ow .sh) .sh))) .sh)) .sh)), F_s_WriteSector d n data⟩], []⟩
  generalize hg_F_s_DiskFault : F_s_DiskFault = g_F_s_DiskFault
  generalize hg_Q_s_DiskFault : Q_s_DiskFault = g_Q_s_DiskFault
  generalize hg_F_s_l14Copy : F_s_l14Copy = g_F_s_l14Copy
  generalize hg_Q_s_l14Copy : Q_s_l14Copy = g_Q_s_l14Copy
  generalize hg_F_s_l14Sector : F_s_l14Sector = g_F_s_l14Sector
  generalize hg_Q_s_l14Sector : Q_s_l14Sector = g_Q_s_l14Sector
  generalize hg_B_s_l14Write_d : B_s_l14Write_d = g_B_s_l14Write_d
  generalize hg_Q_s_l14Write : Q_s_l14Write = g_Q_s_l14Write
  generalize hR0 : F_s_WriteSector d n data = R0
  generalize Q_s_WriteSector d n data = Q0
  generalize hL : Lg.std = L
  generalize hA : Alg.std = A
  cbv
  subst hL hA
  try dsimp only [Ty.den]
  obtain ⟨d_0, d_1, ⟨⟩⟩ := d
  have hfn : ∀ a b : Int, firstNZ (List.take 2 [a, b]) = if a ≠ 0 then a else b := fun a b => by
    by_cases ha : a = 0 <;> by_cases hb : b = 0 <;> simp [firstNZ, ha, hb]
  have hgd := fun h => (diskFault_good (d_0, d_1, ()) h)
  have hle1 := tot_len tPut d_1
  subst hR0 hg_F_s_DiskFault hg_Q_s_DiskFault hg_F_s_l14Copy hg_Q_s_l14Copy hg_F_s_l14Sector hg_Q_s_l14Sector hg_B_s_l14Write_d hg_Q_s_l14Write
  simp only [Q_s_WriteSector] at hq
  simp only [Lg.std, Alg.std, List.drop_zero, List.take_length, F_s_DiskFault, F_s_l14Copy, F_s_l14Sector, B_s_l14Write_d, Q_s_DiskFault, Q_s_l14Copy, Q_s_l14Sector, Q_s_l14Write, F_s_WriteSector, writeSector, hfn] at *
  try simp only [true_and, and_true, false_implies, implies_true, imp_self]
  have hqd : tot (.sl (.sl (.int .u8))) d_0 + tot (.sl tPut) d_1 ≤ 1048576 := by simp only [tot_p, tot_u] at hq; omega
  repeat' (first | intro _ | apply And.intro)
  all_goals grind [writeFault]
def con_s_WriteSector : Con := ⟨true, g3 (pD (.pair (.sl (.sl (.int .u8))) (.pair (.sl (.pair (.int .i64) (.pair (.sl (.int .u8)) .unit))) .unit))) (pD (.int .i64)) (pD (.sl (.int .u8))) fun d n data => ⟨[Q_s_WriteSector d n data], [⟨(.pair (.int .i64) (.pair (.pair (.sl (.sl (.int .u8))) (.pair (.sl (.pair (.int .i64) (.pair (.sl (.int .u8)) .unit))) .unit)) .unit)), (.pr .sh (.pr (.pr (.ow (.ow .sh)) (.pr (.ow (.pr .sh (.pr (.ow .sh) .sh))) .sh)) .sh)), F_s_WriteSector d n data⟩], []⟩, []⟩
theorem ok_s_WriteSector : ConOk pg 15 con_s_WriteSector := ConOk.g3 (Enters.of (by kernel_rfl)) ct_s_WriteSector

def F_i_WriteSector (d : (List (List (Int))) × (List ((Int) × (List (Int)) × Unit)) × Unit) (n : Int) (data : List (Int)) : (Int) × ((List (List (Int))) × (List ((Int) × (List (Int)) × Unit)) × Unit) × Unit := writeSector d n data
def Q_i_WriteSector (d : (List (List (Int))) × (List ((Int) × (List (Int)) × Unit)) × Unit) (n : Int) (data : List (Int)) : Prop := tot tDisk d ≤ 1048576
def O_i_WriteSector : Opt := ⟨fun i => false, fun i => [], fun i => (match decide (i = 1) with | true => (.take 3 (.take 4 (.alt 0 (.alt 1 (.alt 2 (.alt 5 (.alt 6 (.alt 7 (.take 8 .done) .no) .no) .no) .no) (.alt 2 (.alt 1 (.alt 5 (.alt 6 (.alt 7 (.take 8 .done) .no) .no) .no) .no) .no)) (.alt 2 (.alt 0 (.alt 1 (.alt 5 (.alt 6 (.alt 7 (.take 8 .done) .no) .no) .no) .no) .no) .no)))) | false => .done), fun i => none, fun i => false, fun i => []⟩
def τ_i_WriteSector : Env := Env.of [(2, (.int .i64)), (4, .bool), (26, (.sl (.int .u8))), (30, (.pair (.sl (.sl (.int .u8))) (.pair (.sl (.pair (.int .i64) (.pair (.sl (.int .u8)) .unit))) .unit))), (32, (.pair (.int .i64) (.pair (.pair (.sl (.sl (.int .u8))) (.pair (.sl (.pair (.int .i64) (.pair (.sl (.int .u8)) .unit))) .unit)) .unit))), (43, (.sl (.int .i64)))] [] []

theorem ct_i_WriteSector (d : (List (List (Int))) × (List ((Int) × (List (Int)) × Unit)) × Unit) (n : Int) (data : List (Int)) : Ct pg 18 [.dat (.pair (.sl (.sl (.int .u8))) (.pair (.sl (.pair (.int .i64) (.pair (.sl (.int .u8)) .unit))) .unit)) d, .dat (.int .i64) n, .dat (.sl (.int .u8)) data] ⟨[Q_i_WriteSector d n data], [⟨(.pair (.int .i64) (.pair (.pair (.sl (.sl (.int .u8))) (.pair (.sl (.pair (.int .i64) (.pair (.sl (.int .u8)) .unit))) .unit)) .unit)), (.pr .sh (.pr (.pr (.ow (.ow .sh)) (.pr (.ow (.pr .sh (.pr (.ow .sh) .sh))) .sh)) .sh)), F_i_WriteSector d n data⟩], []⟩ := by
  refine ct_claim (O := O_i_WriteSector) (τ := τ_i_WriteSector) (EnvOk.of (by kernel_rfl) (by kernel_rfl)) (GOk.of (.cons ok_i_DiskFault (.cons ok_i_ownDisk (.cons ok_i_Disk_writeFault (.cons ok_i_firstCode (.cons ok_i_Disk_write .nil)))) : AllOk pg [(88, con_i_DiskFault), (90, con_i_ownDisk), (89, con_i_Disk_writeFault), (87, con_i_firstCode), (91, con_i_Disk_write)])) mixed (Enters.of (by kernel_rfl)) (fn := Go.Proofs.Try.f18) (by kernel_rfl) rfl (by kernel_rfl) ?_
  intro hp hw
  have hq : Q_i_WriteSector d n data := hp _ (List.mem_singleton.2 rfl)
  clear hp
  change claim Lg.std Alg.std τ_i_WriteSector (Gam.of [(88, ⟨true, g1 (pD (.pair (.sl (.sl (.int .u8))) (.pair (.sl (.pair (.int .i64) (.pair (.sl (.int .u8)) .unit))) .unit))) fun d => ⟨[Q_i_DiskFault d], [⟨(.int .i64), .sh, F_i_DiskFault d⟩], []⟩, []⟩), (90, ⟨true, g1 (pD (.pair (.sl (.sl (.int .u8))) (.pair (.sl (.pair (.int .i64) (.pair (.sl (.int .u8)) .unit))) .unit))) fun d => ⟨[Q_i_ownDisk d], [⟨(.pair (.sl (.sl (.int .u8))) (.pair (.sl (.pair (.int .i64) (.pair (.sl (.int .u8)) .unit))) .unit)), (.pr (.ow (.ow .sh)) (.pr (.ow (.pr .sh (.pr (.ow .sh) .sh))) .sh)), F_i_ownDisk d⟩], []⟩, []⟩), (89, ⟨true, g3 (pD (.pair (.sl (.sl (.int .u8))) (.pair (.sl (.pair (.int .i64) (.pair (.sl (.int .u8)) .unit))) .unit))) (pD (.int .i64)) (pD (.sl (.int .u8))) fun d n data => ⟨[Q_i_Disk_writeFault d n data], [⟨(.int .i64), .sh, F_i_Disk_writeFault d n data⟩], []⟩, []⟩), (87, ⟨true, g1 (pD (.sl (.int .i64))) fun l => ⟨[Q_i_firstCode l], [⟨(.int .i64), .sh, F_i_firstCode l⟩], []⟩, []⟩), (91, ⟨true, g3 (pW (.pair (.sl (.sl (.int .u8))) (.pair (.sl (.pair (.int .i64) (.pair (.sl (.int .u8)) .unit))) .unit)) (.pr (.ow (.ow .sh)) (.pr (.ow (.pr .sh (.pr (.ow .sh) .sh))) .sh))) (pD (.int .i64)) (pD (.sl (.int .u8))) fun d n data => ⟨[Q_i_Disk_write d n data], [], [.mp (.pair (.sl (.sl (.int .u8))) (.pair (.sl (.pair (.int .i64) (.pair (.sl (.int .u8)) .unit))) .unit)) (.pr (.ow (.ow .sh)) (.pr (.ow (.pr .sh (.pr (.ow .sh) .sh))) .sh)) (B_i_Disk_write_d d n data)]⟩, [(.pr (.ow (.ow .sh)) (.pr (.ow (.pr .sh (.pr (.ow .sh) .sh))) .sh))]⟩)]) O_i_WriteSector Go.Proofs.Try.f18 [.dat (.pair (.sl (.sl (.int .u8))) (.pair (.sl (.pair (.int .i64) (.pair (.sl (.int .u8)) .unit))) .unit)) d, .dat (.int .i64) n, .dat (.sl (.int .u8)) data] ⟨[Q_i_WriteSector d n data], [⟨(.pair (.int .i64) (.pair (.pair (.sl (.sl (.int .u8))) (.pair (.sl (.pair (.int .i64) (.pair (.sl (.int .u8)) .unit))) .unit)) .unit)), (.pr .sh (.pr (.pr (.ow (.ow .sh)) (.pr (.ow (.pr .sh (.pr (.ow .sh) .sh))) .sh)) .sh)), F_i_WriteSector d n data⟩], []⟩
  generalize hg_F_i_DiskFault : F_i_DiskFault = g_F_i_DiskFault
  generalize hg_Q_i_DiskFault : Q_i_DiskFault = g_Q_i_DiskFault
  generalize hg_F_i_ownDisk : F_i_ownDisk = g_F_i_ownDisk
  generalize hg_Q_i_ownDisk : Q_i_ownDisk = g_Q_i_ownDisk
  generalize hg_F_i_Disk_writeFault : F_i_Disk_writeFault = g_F_i_Disk_writeFault
  generalize hg_Q_i_Disk_writeFault : Q_i_Disk_writeFault = g_Q_i_Disk_writeFault
  generalize hg_F_i_firstCode : F_i_firstCode = g_F_i_firstCode
  generalize hg_Q_i_firstCode : Q_i_firstCode = g_Q_i_firstCode
  generalize hg_B_i_Disk_write_d : B_i_Disk_write_d = g_B_i_Disk_write_d
  generalize hg_Q_i_Disk_write : Q_i_Disk_write = g_Q_i_Disk_write
  generalize hR0 : F_i_WriteSector d n data = R0
  generalize Q_i_WriteSector d n data = Q0
  generalize hL : Lg.std = L
  generalize hA : Alg.std = A
  cbv
  subst hL hA
  try dsimp only [Ty.den]
  obtain ⟨d_0, d_1, ⟨⟩⟩ := d
  have hfn : ∀ a b : Int, firstNZ (List.take 2 [a, b]) = if a ≠ 0 then a else b := fun a b => by
    by_cases ha : a = 0 <;> by_cases hb : b = 0 <;> simp [firstNZ, ha, hb]
  have hgd := fun h => (diskFault_good (d_0, d_1, ()) h)
  have hle1 := tot_len tPut d_1
  subst hR0 hg_F_i_DiskFault hg_Q_i_DiskFault hg_F_i_ownDisk hg_Q_i_ownDisk hg_F_i_Disk_writeFault hg_Q_i_Disk_writeFault hg_F_i_firstCode hg_Q_i_firstCode hg_B_i_Disk_write_d hg_Q_i_Disk_write
  simp only [Q_i_WriteSector] at hq
  simp only [Lg.std, Alg.std, List.drop_zero, List.take_length, F_i_DiskFault, F_i_ownDisk, F_i_Disk_writeFault, F_i_firstCode, B_i_Disk_write_d, Q_i_DiskFault, Q_i_ownDisk, Q_i_Disk_writeFault, Q_i_firstCode, Q_i_Disk_write, F_i_WriteSector, writeSector, hfn] at *
  try simp only [true_and, and_true, false_implies, implies_true, imp_self]
  have hqd : tot (.sl (.sl (.int .u8))) d_0 + tot (.sl tPut) d_1 ≤ 1048576 := by simp only [tot_p, tot_u] at hq; omega
  repeat' (first | intro _ | apply And.intro)
  all_goals grind [writeFault]
def con_i_WriteSector : Con := ⟨true, g3 (pD (.pair (.sl (.sl (.int .u8))) (.pair (.sl (.pair (.int .i64) (.pair (.sl (.int .u8)) .unit))) .unit))) (pD (.int .i64)) (pD (.sl (.int .u8))) fun d n data => ⟨[Q_i_WriteSector d n data], [⟨(.pair (.int .i64) (.pair (.pair (.sl (.sl (.int .u8))) (.pair (.sl (.pair (.int .i64) (.pair (.sl (.int .u8)) .unit))) .unit)) .unit)), (.pr .sh (.pr (.pr (.ow (.ow .sh)) (.pr (.ow (.pr .sh (.pr (.ow .sh) .sh))) .sh)) .sh)), F_i_WriteSector d n data⟩], []⟩, []⟩
theorem ok_i_WriteSector : ConOk pg 18 con_i_WriteSector := ConOk.g3 (Enters.of (by kernel_rfl)) ct_i_WriteSector

def F_w_FnExactWriteSector (d : (List (List (Int))) × (List ((Int) × (List (Int)) × Unit)) × Unit) (n : Int) (b : List (Int)) : Bool := true
def Q_w_FnExactWriteSector (d : (List (List (Int))) × (List ((Int) × (List (Int)) × Unit)) × Unit) (n : Int) (b : List (Int)) : Prop := True
def O_w_FnExactWriteSector : Opt := ⟨fun i => false, fun i => [], fun i => (match decide (i = 13) with | true => (.alt 0 (.alt 1 (.alt 2 (.alt 3 (.take 4 .done) .no) .no) .no) (.alt 1 (.alt 0 (.alt 2 (.alt 3 (.take 4 .done) .no) .no) (.alt 2 (.alt 0 (.alt 3 (.take 4 .done) .no) .no) .no)) .no)) | false => .done), fun i => (match decide (i = 13) with | true => some [false, true, true, true, false, false, false, false, true, true, true, true, false, false, false, false, false, false, false, false, false, false, false, false, false, false, false, false, false, false, false, false, false, false, false, false, false, false, false, false, false, false, false, false, false, false, true, false, false, false, false, false, false, false, false, false, false, false, false, false, false, false, false, false, false, false, false, false, false, false, false, false, false, false, false, false, false, false, false, false, false, false, false, false, false, false, false, false, false, false, false, false, false, false, false] | false => none), fun i => false, fun i => []⟩
def τ_w_FnExactWriteSector : Env := Env.of [(2, (.int .i64)), (3, (.int .i64)), (4, .bool), (25, (.pair (.sl (.sl (.int .u8))) (.pair (.sl (.pair (.int .i64) (.pair (.sl (.int .u8)) .unit))) .unit))), (26, (.sl (.int .u8))), (30, (.pair (.sl (.sl (.int .u8))) (.pair (.sl (.pair (.int .i64) (.pair (.sl (.int .u8)) .unit))) .unit))), (32, (.pair (.int .i64) (.pair (.pair (.sl (.sl (.int .u8))) (.pair (.sl (.pair (.int .i64) (.pair (.sl (.int .u8)) .unit))) .unit)) .unit)))] [] []

theorem ct_w_FnExactWriteSector (d : (List (List (Int))) × (List ((Int) × (List (Int)) × Unit)) × Unit) (n : Int) (b : List (Int)) : Ct pg 3 [.dat (.pair (.sl (.sl (.int .u8))) (.pair (.sl (.pair (.int .i64) (.pair (.sl (.int .u8)) .unit))) .unit)) d, .dat (.int .i64) n, .dat (.sl (.int .u8)) b] ⟨[Q_w_FnExactWriteSector d n b], [⟨.bool, .sh, F_w_FnExactWriteSector d n b⟩], []⟩ := by
  refine ct_claim (O := O_w_FnExactWriteSector) (τ := τ_w_FnExactWriteSector) (EnvOk.of (by kernel_rfl) (by kernel_rfl)) (GOk.of (.cons ok_w_toByteS (.cons ok_w_eqByteS (.cons ok_w_markByteS (.cons ok_w_toDisk (.cons ok_w_eqDisk (.cons ok_w_szDisk (.cons ok_w_markDisk (.cons ok_w_eqDiskResult (.cons ok_w_markDiskResult (.cons ok_w_heldDiskResult (.cons ok_s_WriteSector (.cons ok_i_WriteSector .nil))))))))))) : AllOk pg [(17, con_w_toByteS), (21, con_w_eqByteS), (23, con_w_markByteS), (16, con_w_toDisk), (20, con_w_eqDisk), (14, con_w_szDisk), (22, con_w_markDisk), (19, con_w_eqDiskResult), (24, con_w_markDiskResult), (25, con_w_heldDiskResult), (15, con_s_WriteSector), (18, con_i_WriteSector)])) mixed (Enters.of (by kernel_rfl)) (fn := Go.Proofs.Try.f3) (by kernel_rfl) rfl (by kernel_rfl) ?_
  intro hp hw
  have hq : Q_w_FnExactWriteSector d n b := hp _ (List.mem_singleton.2 rfl)
  clear hp
  change claim Lg.std Alg.std τ_w_FnExactWriteSector (Gam.of [(17, ⟨true, g1 (pD (.sl (.int .u8))) fun a => ⟨[Q_w_toByteS a], [⟨(.sl (.int .u8)), (.ow .sh), F_w_toByteS a⟩], []⟩, []⟩), (21, ⟨true, g2 (pD (.sl (.int .u8))) (pD (.sl (.int .u8))) fun a b => ⟨[Q_w_eqByteS a b], [⟨.bool, .sh, F_w_eqByteS a b⟩], []⟩, []⟩), (23, ⟨true, g2 (pV (.sl (.int .u8)) (.ow .sh)) (pD (.int .i64)) fun a k => ⟨[Q_w_markByteS a k], [⟨(.int .i64), .sh, F_w_markByteS a k⟩], [.mv (.sl (.int .u8)) (.ow .sh) (B_w_markByteS_a a k)]⟩, [(.ow .sh)]⟩), (16, ⟨true, g1 (pD (.pair (.sl (.sl (.int .u8))) (.pair (.sl (.pair (.int .i64) (.pair (.sl (.int .u8)) .unit))) .unit))) fun a => ⟨[Q_w_toDisk a], [⟨(.pair (.sl (.sl (.int .u8))) (.pair (.sl (.pair (.int .i64) (.pair (.sl (.int .u8)) .unit))) .unit)), (.pr (.ow (.ow .sh)) (.pr (.ow (.pr .sh (.pr (.ow .sh) .sh))) .sh)), F_w_toDisk a⟩], []⟩, []⟩), (20, ⟨true, g2 (pD (.pair (.sl (.sl (.int .u8))) (.pair (.sl (.pair (.int .i64) (.pair (.sl (.int .u8)) .unit))) .unit))) (pD (.pair (.sl (.sl (.int .u8))) (.pair (.sl (.pair (.int .i64) (.pair (.sl (.int .u8)) .unit))) .unit))) fun a b => ⟨[Q_w_eqDisk a b], [⟨.bool, .sh, F_w_eqDisk a b⟩], []⟩, []⟩), (14, ⟨true, g2 (pD (.pair (.sl (.sl (.int .u8))) (.pair (.sl (.pair (.int .i64) (.pair (.sl (.int .u8)) .unit))) .unit))) (pD (.int .i64)) fun a left => ⟨[Q_w_szDisk a left], [⟨(.int .i64), .sh, F_w_szDisk a left⟩], []⟩, []⟩), (22, ⟨true, g2 (pV (.pair (.sl (.sl (.int .u8))) (.pair (.sl (.pair (.int .i64) (.pair (.sl (.int .u8)) .unit))) .unit)) (.pr (.ow (.ow .sh)) (.pr (.ow (.pr .sh (.pr (.ow .sh) .sh))) .sh))) (pD (.int .i64)) fun a k => ⟨[Q_w_markDisk a k], [⟨(.int .i64), .sh, F_w_markDisk a k⟩], [.mv (.pair (.sl (.sl (.int .u8))) (.pair (.sl (.pair (.int .i64) (.pair (.sl (.int .u8)) .unit))) .unit)) (.pr (.ow (.ow .sh)) (.pr (.ow (.pr .sh (.pr (.ow .sh) .sh))) .sh)) (B_w_markDisk_a a k)]⟩, [(.pr (.ow (.ow .sh)) (.pr (.ow (.pr .sh (.pr (.ow .sh) .sh))) .sh))]⟩), (19, ⟨true, g2 (pD (.pair (.int .i64) (.pair (.pair (.sl (.sl (.int .u8))) (.pair (.sl (.pair (.int .i64) (.pair (.sl (.int .u8)) .unit))) .unit)) .unit))) (pD (.pair (.int .i64) (.pair (.pair (.sl (.sl (.int .u8))) (.pair (.sl (.pair (.int .i64) (.pair (.sl (.int .u8)) .unit))) .unit)) .unit))) fun a b => ⟨[Q_w_eqDiskResult a b], [⟨.bool, .sh, F_w_eqDiskResult a b⟩], []⟩, []⟩), (24, ⟨true, g2 (pV (.pair (.int .i64) (.pair (.pair (.sl (.sl (.int .u8))) (.pair (.sl (.pair (.int .i64) (.pair (.sl (.int .u8)) .unit))) .unit)) .unit)) (.pr .sh (.pr (.pr (.ow (.ow .sh)) (.pr (.ow (.pr .sh (.pr (.ow .sh) .sh))) .sh)) .sh))) (pD (.int .i64)) fun a k => ⟨[Q_w_markDiskResult a k], [⟨(.int .i64), .sh, F_w_markDiskResult a k⟩], [.mv (.pair (.int .i64) (.pair (.pair (.sl (.sl (.int .u8))) (.pair (.sl (.pair (.int .i64) (.pair (.sl (.int .u8)) .unit))) .unit)) .unit)) (.pr .sh (.pr (.pr (.ow (.ow .sh)) (.pr (.ow (.pr .sh (.pr (.ow .sh) .sh))) .sh)) .sh)) (B_w_markDiskResult_a a k)]⟩, [(.pr .sh (.pr (.pr (.ow (.ow .sh)) (.pr (.ow (.pr .sh (.pr (.ow .sh) .sh))) .sh)) .sh))]⟩), (25, ⟨true, g2 (pD (.pair (.int .i64) (.pair (.pair (.sl (.sl (.int .u8))) (.pair (.sl (.pair (.int .i64) (.pair (.sl (.int .u8)) .unit))) .unit)) .unit))) (pD (.int .i64)) fun a k => ⟨[Q_w_heldDiskResult a k], [⟨(.int .i64), .sh, F_w_heldDiskResult a k⟩], []⟩, []⟩), (15, ⟨true, g3 (pD (.pair (.sl (.sl (.int .u8))) (.pair (.sl (.pair (.int .i64) (.pair (.sl (.int .u8)) .unit))) .unit))) (pD (.int .i64)) (pD (.sl (.int .u8))) fun d n data => ⟨[Q_s_WriteSector d n data], [⟨(.pair (.int .i64) (.pair (.pair (.sl (.sl (.int .u8))) (.pair (.sl (.pair (.int .i64) (.pair (.sl (.int .u8)) .unit))) .unit)) .unit)), (.pr .sh (.pr (.pr (.ow (.ow .sh)) (.pr (.ow (.pr .sh (.pr (.ow .sh) .sh))) .sh)) .sh)), F_s_WriteSector d n data⟩], []⟩, []⟩), (18, ⟨true, g3 (pD (.pair (.sl (.sl (.int .u8))) (.pair (.sl (.pair (.int .i64) (.pair (.sl (.int .u8)) .unit))) .unit))) (pD (.int .i64)) (pD (.sl (.int .u8))) fun d n data => ⟨[Q_i_WriteSector d n data], [⟨(.pair (.int .i64) (.pair (.pair (.sl (.sl (.int .u8))) (.pair (.sl (.pair (.int .i64) (.pair (.sl (.int .u8)) .unit))) .unit)) .unit)), (.pr .sh (.pr (.pr (.ow (.ow .sh)) (.pr (.ow (.pr .sh (.pr (.ow .sh) .sh))) .sh)) .sh)), F_i_WriteSector d n data⟩], []⟩, []⟩)]) O_w_FnExactWriteSector Go.Proofs.Try.f3 [.dat (.pair (.sl (.sl (.int .u8))) (.pair (.sl (.pair (.int .i64) (.pair (.sl (.int .u8)) .unit))) .unit)) d, .dat (.int .i64) n, .dat (.sl (.int .u8)) b] ⟨[Q_w_FnExactWriteSector d n b], [⟨.bool, .sh, F_w_FnExactWriteSector d n b⟩], []⟩
  generalize hg_F_w_toByteS : F_w_toByteS = g_F_w_toByteS
  generalize hg_Q_w_toByteS : Q_w_toByteS = g_Q_w_toByteS
  generalize hg_F_w_eqByteS : F_w_eqByteS = g_F_w_eqByteS
  generalize hg_Q_w_eqByteS : Q_w_eqByteS = g_Q_w_eqByteS
  generalize hg_F_w_markByteS : F_w_markByteS = g_F_w_markByteS
  generalize hg_B_w_markByteS_a : B_w_markByteS_a = g_B_w_markByteS_a
  generalize hg_Q_w_markByteS : Q_w_markByteS = g_Q_w_markByteS
  generalize hg_F_w_toDisk : F_w_toDisk = g_F_w_toDisk
  generalize hg_Q_w_toDisk : Q_w_toDisk = g_Q_w_toDisk
  generalize hg_F_w_eqDisk : F_w_eqDisk = g_F_w_eqDisk
  generalize hg_Q_w_eqDisk : Q_w_eqDisk = g_Q_w_eqDisk
  generalize hg_F_w_szDisk : F_w_szDisk = g_F_w_szDisk
  generalize hg_Q_w_szDisk : Q_w_szDisk = g_Q_w_szDisk
  generalize hg_F_w_markDisk : F_w_markDisk = g_F_w_markDisk
  generalize hg_B_w_markDisk_a : B_w_markDisk_a = g_B_w_markDisk_a
  generalize hg_Q_w_markDisk : Q_w_markDisk = g_Q_w_markDisk
  generalize hg_F_w_eqDiskResult : F_w_eqDiskResult = g_F_w_eqDiskResult
  generalize hg_Q_w_eqDiskResult : Q_w_eqDiskResult = g_Q_w_eqDiskResult
  generalize hg_F_w_markDiskResult : F_w_markDiskResult = g_F_w_markDiskResult
  generalize hg_B_w_markDiskResult_a : B_w_markDiskResult_a = g_B_w_markDiskResult_a
  generalize hg_Q_w_markDiskResult : Q_w_markDiskResult = g_Q_w_markDiskResult
  generalize hg_F_w_heldDiskResult : F_w_heldDiskResult = g_F_w_heldDiskResult
  generalize hg_Q_w_heldDiskResult : Q_w_heldDiskResult = g_Q_w_heldDiskResult
  generalize hg_F_s_WriteSector : F_s_WriteSector = g_F_s_WriteSector
  generalize hg_Q_s_WriteSector : Q_s_WriteSector = g_Q_s_WriteSector
  generalize hg_F_i_WriteSector : F_i_WriteSector = g_F_i_WriteSector
  generalize hg_Q_i_WriteSector : Q_i_WriteSector = g_Q_i_WriteSector
  generalize hR0 : F_w_FnExactWriteSector d n b = R0
  generalize Q_w_FnExactWriteSector d n b = Q0
  generalize hL : Lg.std = L
  generalize hA : Alg.std = A
  cbv
  subst hL hA
  try dsimp only [Ty.den]
  obtain ⟨d_0, d_1, ⟨⟩⟩ := d
  have hct_d := cnt_tot (.pair (.sl (.sl (.int .u8))) (.pair (.sl (.pair (.int .i64) (.pair (.sl (.int .u8)) .unit))) .unit)) (d_0, d_1, PUnit.unit) (by decide)
  have hct_b := cnt_tot (.sl (.int .u8)) b (by decide)
  rcases Classical.em (b.length ≤ 1048576 ∧ tot tDisk (d_0, d_1, PUnit.unit) ≤ 1048576) with hB | hB
  · have htt := writeSector_tot (d_0, d_1, PUnit.unit) n b
    have hct := cnt_tot (.pair (.int .i64) (.pair (.pair (.sl (.sl (.int .u8))) (.pair (.sl (.pair (.int .i64) (.pair (.sl (.int .u8)) .unit))) .unit)) .unit)) (writeSector (d_0, d_1, PUnit.unit) n b) (by decide)
    have htr : tot (.pair (.int .i64) (.pair (.pair (.sl (.sl (.int .u8))) (.pair (.sl (.pair (.int .i64) (.pair (.sl (.int .u8)) .unit))) .unit)) .unit)) (writeSector (d_0, d_1, PUnit.unit) n b) = tot tDisk (writeSector (d_0, d_1, PUnit.unit) n b).2.1 := by simp only [tot_p, tot_u, tot_i, Nat.zero_add, Nat.add_zero]
    have hc0 : cnt false (.pair (.int .i64) (.pair (.pair (.sl (.sl (.int .u8))) (.pair (.sl (.pair (.int .i64) (.pair (.sl (.int .u8)) .unit))) .unit)) .unit)) (writeSector (d_0, d_1, PUnit.unit) n b) ≤ 4000000000 := by
      have := hct
      omega
    try simp only [tDisk, tPut, tot_int] at *
    subst hR0 hg_F_w_toByteS hg_Q_w_toByteS hg_F_w_eqByteS hg_Q_w_eqByteS hg_F_w_markByteS hg_B_w_markByteS_a hg_Q_w_markByteS hg_F_w_toDisk hg_Q_w_toDisk hg_F_w_eqDisk hg_Q_w_eqDisk hg_F_w_szDisk hg_Q_w_szDisk hg_F_w_markDisk hg_B_w_markDisk_a hg_Q_w_markDisk hg_F_w_eqDiskResult hg_Q_w_eqDiskResult hg_F_w_markDiskResult hg_B_w_markDiskResult_a hg_Q_w_markDiskResult hg_F_w_heldDiskResult hg_Q_w_heldDiskResult hg_F_s_WriteSector hg_Q_s_WriteSector hg_F_i_WriteSector hg_Q_i_WriteSector
    simp only [Lg.std, Alg.std, List.drop_zero, List.take_length, F_w_toByteS, F_w_eqByteS, F_w_markByteS, F_w_toDisk, F_w_eqDisk, F_w_szDisk, F_w_markDisk, F_w_eqDiskResult, F_w_markDiskResult, F_w_heldDiskResult, F_s_WriteSector, F_i_WriteSector, B_w_markByteS_a, B_w_markDisk_a, B_w_markDiskResult_a, Q_w_toByteS, Q_w_eqByteS, Q_w_markByteS, Q_w_toDisk, Q_w_eqDisk, Q_w_szDisk, Q_w_markDisk, Q_w_eqDiskResult, Q_w_markDiskResult, Q_w_heldDiskResult, Q_s_WriteSector, Q_i_WriteSector, F_w_FnExactWriteSector]
    generalize hW : (writeSector (d_0, d_1, PUnit.unit) n b : (Int) × ((List (List (Int))) × (List ((Int) × (List (Int)) × Unit)) × Unit) × Unit) = w at *
    clear hW
    obtain ⟨w_0, ⟨w_1_0, w_1_1, ⟨⟩⟩, ⟨⟩⟩ := w
    try dsimp only at *
    have hm := hd_mk false (.pair (.int .i64) (.pair (.pair (.sl (.sl (.int .u8))) (.pair (.sl (.pair (.int .i64) (.pair (.sl (.int .u8)) .unit))) .unit)) .unit)) (w_0, (w_1_0, w_1_1, PUnit.unit), PUnit.unit) 1 (by omega)
    have mt_w_1_0 := fun k => mk_take false (.sl (.int .u8)) w_1_0 k
    dsimp only [Ty.den] at mt_w_1_0
    have mt_w_1_1 := fun k => mk_take false (.pair (.int .i64) (.pair (.sl (.int .u8)) .unit)) w_1_1 k
    dsimp only [Ty.den] at mt_w_1_1
    simp only [tot_p, tot_u, tot_i, tot_b, tot_s, cnt_p, cnt_u, cnt_i0, cnt_b0, cnt_s0, cnt_i1, cnt_b1, cnt_s1, cnt_l, mk_p, mk_u, mk_i0, mk_b0, mk_s0, mk_i1, mk_s1, mk_l, hd_p, hd_u, hd_i0, hd_b0, hd_s0, hd_i1, hd_b1, hd_s1, hd_l, mt_w_1_0, mt_w_1_1] at *
    try simp only [tDisk, tPut, tot_int] at *
    repeat' (first | intro _ | apply And.intro)
    all_goals grind [szf, cnt_mk, hd_mk]
  · subst hR0 hg_F_w_toByteS hg_Q_w_toByteS hg_F_w_eqByteS hg_Q_w_eqByteS hg_F_w_markByteS hg_B_w_markByteS_a hg_Q_w_markByteS hg_F_w_toDisk hg_Q_w_toDisk hg_F_w_eqDisk hg_Q_w_eqDisk hg_F_w_szDisk hg_Q_w_szDisk hg_F_w_markDisk hg_B_w_markDisk_a hg_Q_w_markDisk hg_F_w_eqDiskResult hg_Q_w_eqDiskResult hg_F_w_markDiskResult hg_B_w_markDiskResult_a hg_Q_w_markDiskResult hg_F_w_heldDiskResult hg_Q_w_heldDiskResult hg_F_s_WriteSector hg_Q_s_WriteSector hg_F_i_WriteSector hg_Q_i_WriteSector
    simp only [Lg.std, Alg.std, List.drop_zero, List.take_length, F_w_toByteS, F_w_eqByteS, F_w_markByteS, F_w_toDisk, F_w_eqDisk, F_w_szDisk, F_w_markDisk, F_w_eqDiskResult, F_w_markDiskResult, F_w_heldDiskResult, F_s_WriteSector, F_i_WriteSector, B_w_markByteS_a, B_w_markDisk_a, B_w_markDiskResult_a, Q_w_toByteS, Q_w_eqByteS, Q_w_markByteS, Q_w_toDisk, Q_w_eqDisk, Q_w_szDisk, Q_w_markDisk, Q_w_eqDiskResult, Q_w_markDiskResult, Q_w_heldDiskResult, Q_s_WriteSector, Q_i_WriteSector, F_w_FnExactWriteSector]
    generalize hW : (writeSector (d_0, d_1, PUnit.unit) n b : (Int) × ((List (List (Int))) × (List ((Int) × (List (Int)) × Unit)) × Unit) × Unit) = w at *
    clear hW
    try simp only [tDisk, tPut, tot_int] at *
    simp only [tot_p, tot_u, tot_i, tot_b, tot_s, szf] at *
    repeat' (first | intro _ | apply And.intro)
    all_goals grind
def con_w_FnExactWriteSector : Con := ⟨true, g3 (pD (.pair (.sl (.sl (.int .u8))) (.pair (.sl (.pair (.int .i64) (.pair (.sl (.int .u8)) .unit))) .unit))) (pD (.int .i64)) (pD (.sl (.int .u8))) fun d n b => ⟨[Q_w_FnExactWriteSector d n b], [⟨.bool, .sh, F_w_FnExactWriteSector d n b⟩], []⟩, []⟩
theorem ok_w_FnExactWriteSector : ConOk pg 3 con_w_FnExactWriteSector := ConOk.g3 (Enters.of (by kernel_rfl)) ct_w_FnExactWriteSector
end Go.Vee
