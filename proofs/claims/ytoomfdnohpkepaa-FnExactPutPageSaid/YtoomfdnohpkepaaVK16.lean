/-
  Contracts of functions of the program: what each returns for all arguments that its precondition lets in.
-/
import Derived.Test.YtoomfdnohpkepaaVK15
set_option linter.unusedSimpArgs false
set_option linter.unusedVariables false
set_option maxRecDepth 100000
set_option maxHeartbeats 4000000
set_option synthInstance.maxHeartbeats 4000000
set_option synthInstance.maxSize 20000
namespace Go.Vee
open Go
theorem packPage_len (p : Int × Int × List Int × Unit) (h : pageFault p = 0) : p.2.2.1.length ≤ 91 ∧ (packPage p).length = 96 := by
  have h1 : p.2.2.1.length ≤ 91 := by
    unfold pageFault at h
    split at h
    · cases h
    split at h
    · cases h
    omega
  obtain ⟨k, i, bs, u⟩ := p
  refine ⟨h1, ?_⟩
  have e3 := padded_length (k, i, bs, u) h1
  simp only [packPage, List.length_append]
  rw [e3]; rfl
def putPage (d : DraftT) (p : Int × Int × List Int × Unit) : Int × DraftT × Unit :=
  if draftFault d ≠ 0 then (draftFault d, zDraft, ()) else if pageFault p ≠ 0 then (pageFault p, zDraft, ()) else if d.2.2.1.contains p.2.1 = false then (8, zDraft, ()) else (0, (writeD d.1 p.2.1 (packPage p), d.2.1, d.2.2.1, ()), ())
theorem putPage_tot (d : DraftT) (p : Int × Int × List Int × Unit) : tot (.pair (.pair (.sl (.sl (.int .u8))) (.pair (.sl (.pair (.int .i64) (.pair (.sl (.int .u8)) .unit))) .unit)) (.pair (.sl (.int .i64)) (.pair (.sl (.int .i64)) .unit))) (putPage d p).2.1 ≤ tot (.pair (.pair (.sl (.sl (.int .u8))) (.pair (.sl (.pair (.int .i64) (.pair (.sl (.int .u8)) .unit))) .unit)) (.pair (.sl (.int .i64)) (.pair (.sl (.int .i64)) .unit))) d + 97 := by
  unfold putPage
  split
  · simp [tot, totL]
  split
  · simp [tot, totL]
  split
  · simp [tot, totL]
  · rename_i h1 h2 h3
    have hl := (packPage_len p (by simpa using h2)).2
    have hw := writeD_tot d.1 p.2.1 (packPage p)
    simp only [tDisk, tPut, tot_p, tot_u] at hw ⊢
    omega

def F_s_PutPage (d : ((List (List (Int))) × (List ((Int) × (List (Int)) × Unit)) × Unit) × (List (Int)) × (List (Int)) × Unit) (p : (Int) × (Int) × (List (Int)) × Unit) : (Int) × (((List (List (Int))) × (List ((Int) × (List (Int)) × Unit)) × Unit) × (List (Int)) × (List (Int)) × Unit) × Unit := putPage d p
def Q_s_PutPage (d : ((List (List (Int))) × (List ((Int) × (List (Int)) × Unit)) × Unit) × (List (Int)) × (List (Int)) × Unit) (p : (Int) × (Int) × (List (Int)) × Unit) : Prop := tot tDisk d.1 ≤ 1048576 ∧ d.2.1.length ≤ 1048576 ∧ d.2.2.1.length ≤ 1048576
def O_s_PutPage : Opt := ⟨fun i => false, fun i => [], fun i => (match decide (i = 10) with | true => (.take 0 (.take 1 (.alt 2 (.alt 3 (.alt 4 .done .no) .no) (.alt 3 (.alt 2 (.alt 4 .done .no) .no) .no)))) | false => .done), fun i => (match decide (i = 10) with | true => some [false, false, false, false, true, false, false, true, false, false, false, false, false, false, false, false, false, false, false, false, false, false, false, false, false, false, false, false, false, false, false, false, false, false, false] | false => none), fun i => false, fun i => []⟩
def τ_s_PutPage : Env := Env.of [(2, (.int .i64)), (4, .bool), (26, (.sl (.int .u8))), (43, (.sl (.int .i64))), (56, (.pair (.pair (.sl (.sl (.int .u8))) (.pair (.sl (.pair (.int .i64) (.pair (.sl (.int .u8)) .unit))) .unit)) (.pair (.sl (.int .i64)) (.pair (.sl (.int .i64)) .unit)))), (64, (.pair (.int .i64) (.pair (.pair (.pair (.sl (.sl (.int .u8))) (.pair (.sl (.pair (.int .i64) (.pair (.sl (.int .u8)) .unit))) .unit)) (.pair (.sl (.int .i64)) (.pair (.sl (.int .i64)) .unit))) .unit))), (105, (.pair (.int .i64) (.pair (.int .i64) (.pair (.sl (.int .u8)) .unit))))] [(114, (.pair (.sl (.sl (.int .u8))) (.pair (.sl (.pair (.int .i64) (.pair (.sl (.int .u8)) .unit))) .unit))), (135, (.pair (.pair (.sl (.sl (.int .u8))) (.pair (.sl (.pair (.int .i64) (.pair (.sl (.int .u8)) .unit))) .unit)) (.pair (.sl (.int .i64)) (.pair (.sl (.int .i64)) .unit)))), (169, (.pair (.int .i64) (.pair (.int .i64) (.pair (.sl (.int .u8)) .unit))))] []

theorem ct_s_PutPage (d : ((List (List (Int))) × (List ((Int) × (List (Int)) × Unit)) × Unit) × (List (Int)) × (List (Int)) × Unit) (p : (Int) × (Int) × (List (Int)) × Unit) : Ct pg 74 [.dat (.pair (.pair (.sl (.sl (.int .u8))) (.pair (.sl (.pair (.int .i64) (.pair (.sl (.int .u8)) .unit))) .unit)) (.pair (.sl (.int .i64)) (.pair (.sl (.int .i64)) .unit))) d, .dat (.pair (.int .i64) (.pair (.int .i64) (.pair (.sl (.int .u8)) .unit))) p] ⟨[Q_s_PutPage d p], [⟨(.pair (.int .i64) (.pair (.pair (.pair (.sl (.sl (.int .u8))) (.pair (.sl (.pair (.int .i64) (.pair (.sl (.int .u8)) .unit))) .unit)) (.pair (.sl (.int .i64)) (.pair (.sl (.int .i64)) .unit))) .unit)), (.pr .sh (.pr (.pr (.pr (.ow (.ow .sh)) (.pr (.ow (.pr .sh (.pr (.ow .sh) .sh))) .sh)) (.pr (.ow .sh) (.pr (.ow .sh) .sh))) .sh)), F_s_PutPage d p⟩], []⟩ := by
  refine ct_claim (O := O_s_PutPage) (τ := τ_s_PutPage) (EnvOk.of (by kernel_rfl) (by kernel_rfl)) (GOk.of (.cons ok_s_PageFault (.cons ok_s_l15Pack (.cons ok_s_l1Has (.cons ok_s_DraftFault (.cons ok_s_l14Write (.cons ok_s_l16Copy .nil))))) : AllOk pg [(138, con_s_PageFault), (139, con_s_l15Pack), (131, con_s_l1Has), (105, con_s_DraftFault), (84, con_s_l14Write), (110, con_s_l16Copy)])) mixed (Enters.of (by kernel_rfl)) (fn := Go.Proofs.Try.f74) (by kernel_rfl) rfl (by kernel_rfl) ?_
  intro hp hw
  have hq : Q_s_PutPage d p := hp _ (List.mem_singleton.2 rfl)
  clear hp
  change claim Lg.std Alg.std τ_s_PutPage (Gam.of [(138, ⟨true, g1 (pD (.pair (.int .i64) (.pair (.int .i64) (.pair (.sl (.int .u8)) .unit)))) fun p => ⟨[Q_s_PageFault p], [⟨(.int .i64), .sh, F_s_PageFault p⟩], []⟩, []⟩), (139, ⟨true, g1 (pP (.pair (.int .i64) (.pair (.int .i64) (.pair (.sl (.int .u8)) .unit)))) fun p => ⟨[Q_s_l15Pack p], [⟨(.sl (.int .u8)), (.ow .sh), F_s_l15Pack p⟩], []⟩, []⟩), (131, ⟨true, g2 (pD (.sl (.int .i64))) (pD (.int .i64)) fun a n => ⟨[Q_s_l1Has a n], [⟨.bool, .sh, F_s_l1Has a n⟩], []⟩, []⟩), (105, ⟨true, g1 (pD (.pair (.pair (.sl (.sl (.int .u8))) (.pair (.sl (.pair (.int .i64) (.pair (.sl (.int .u8)) .unit))) .unit)) (.pair (.sl (.int .i64)) (.pair (.sl (.int .i64)) .unit)))) fun d => ⟨[Q_s_DraftFault d], [⟨(.int .i64), .sh, F_s_DraftFault d⟩], []⟩, []⟩), (84, ⟨true, g3 (pW (.pair (.sl (.sl (.int .u8))) (.pair (.sl (.pair (.int .i64) (.pair (.sl (.int .u8)) .unit))) .unit)) (.pr (.ow (.ow .sh)) (.pr (.ow (.pr .sh (.pr (.ow .sh) .sh))) .sh))) (pD (.int .i64)) (pD (.sl (.int .u8))) fun d n data => ⟨[Q_s_l14Write d n data], [], [.mp (.pair (.sl (.sl (.int .u8))) (.pair (.sl (.pair (.int .i64) (.pair (.sl (.int .u8)) .unit))) .unit)) (.pr (.ow (.ow .sh)) (.pr (.ow (.pr .sh (.pr (.ow .sh) .sh))) .sh)) (B_s_l14Write_d d n data)]⟩, [(.pr (.ow (.ow .sh)) (.pr (.ow (.pr .sh (.pr (.ow .sh) .sh))) .sh))]⟩), (110, ⟨true, g1 (pP (.pair (.pair (.sl (.sl (.int .u8))) (.pair (.sl (.pair (.int .i64) (.pair (.sl (.int .u8)) .unit))) .unit)) (.pair (.sl (.int .i64)) (.pair (.sl (.int .i64)) .unit)))) fun d => ⟨[Q_s_l16Copy d], [⟨(.pair (.pair (.sl (.sl (.int .u8))) (.pair (.sl (.pair (.int .i64) (.pair (.sl (.int .u8)) .unit))) .unit)) (.pair (.sl (.int .i64)) (.pair (.sl (.int .i64)) .unit))), (.pr (.pr (.ow (.ow .sh)) (.pr (.ow (.pr .sh (.pr (.ow .sh) .sh))) .sh)) (.pr (.ow .sh) (.pr (.ow .sh) .sh))), F_s_l16Copy d⟩], []⟩, []⟩)]) O_s_PutPage Go.Proofs.Try.f74 [.dat (.pair (.pair (.sl (.sl (.int .u8))) (.pair (.sl (.pair (.int .i64) (.pair (.sl (.int .u8)) .unit))) .unit)) (.pair (.sl (.int .i64)) (.pair (.sl (.int .i64)) .unit))) d, .dat (.pair (.int .i64) (.pair (.int .i64) (.pair (.sl (.int .u8)) .unit))) p] ⟨[Q_s_PutPage d p], [⟨(.pair (.int .i64) (.pair (.pair (.pair (.sl (.sl (.int .u8))) (.pair (.sl (.pair (.int .i64) (.pair (.sl (.int .u8)) .unit))) .unit)) (.pair (.sl (.int .i64)) (.pair (.sl (.int .i64)) .unit))) .unit)), (.pr .sh (.pr (.pr (.pr (.ow (.ow .sh)) (.pr (.ow (.pr .sh (.pr (.ow .sh) .sh))) .sh)) (.pr (.ow .sh) (.pr (.ow .sh) .sh))) .sh)), F_s_PutPage d p⟩], []⟩
  generalize hg_F_s_PageFault : F_s_PageFault = g_F_s_PageFault
  generalize hg_Q_s_PageFault : Q_s_PageFault = g_Q_s_PageFault
  generalize hg_F_s_l15Pack : F_s_l15Pack = g_F_s_l15Pack
  generalize hg_Q_s_l15Pack : Q_s_l15Pack = g_Q_s_l15Pack
  generalize hg_F_s_l1Has : F_s_l1Has = g_F_s_l1Has
  generalize hg_Q_s_l1Has : Q_s_l1Has = g_Q_s_l1Has
  generalize hg_F_s_DraftFault : F_s_DraftFault = g_F_s_DraftFault
  generalize hg_Q_s_DraftFault : Q_s_DraftFault = g_Q_s_DraftFault
  generalize hg_B_s_l14Write_d : B_s_l14Write_d = g_B_s_l14Write_d
  generalize hg_Q_s_l14Write : Q_s_l14Write = g_Q_s_l14Write
  generalize hg_F_s_l16Copy : F_s_l16Copy = g_F_s_l16Copy
  generalize hg_Q_s_l16Copy : Q_s_l16Copy = g_Q_s_l16Copy
  generalize hR0 : F_s_PutPage d p = R0
  generalize Q_s_PutPage d p = Q0
  generalize hL : Lg.std = L
  generalize hA : Alg.std = A
  cbv
  subst hL hA
  try dsimp only [Ty.den]
  obtain ⟨⟨d_0_0, d_0_1, ⟨⟩⟩, d_1, d_2, ⟨⟩⟩ := d
  obtain ⟨p_0, p_1, p_2, ⟨⟩⟩ := p
  have hfn : ∀ a b : Int, firstNZ (List.take 2 [a, b]) = if a ≠ 0 then a else b := fun a b => by
    by_cases ha : a = 0 <;> by_cases hb : b = 0 <;> simp [firstNZ, ha, hb]
  have hle1 := tot_len tPut d_0_1
  have hpk := packPage_len (p_0, p_1, p_2, PUnit.unit)
  have hdk := draftFault_disk ((d_0_0, d_0_1, PUnit.unit), d_1, d_2, PUnit.unit)
  subst hR0 hg_F_s_PageFault hg_Q_s_PageFault hg_F_s_l15Pack hg_Q_s_l15Pack hg_F_s_l1Has hg_Q_s_l1Has hg_F_s_DraftFault hg_Q_s_DraftFault hg_B_s_l14Write_d hg_Q_s_l14Write hg_F_s_l16Copy hg_Q_s_l16Copy
  simp only [Q_s_PutPage] at hq
  simp only [tot_p, tot_u, tot_int] at hq
  simp only [Lg.std, Alg.std, List.drop_zero, List.take_length, F_s_PageFault, F_s_l15Pack, F_s_l1Has, F_s_DraftFault, F_s_l16Copy, B_s_l14Write_d, Q_s_PageFault, Q_s_l15Pack, Q_s_l1Has, Q_s_DraftFault, Q_s_l14Write, Q_s_l16Copy, F_s_PutPage, putPage, hfn] at *
  try simp only [true_and, and_true, false_implies, implies_true, imp_self]
  try simp only [tot_p, tot_u, tot_int, List.length_nil]
  repeat' (first | intro _ | apply And.intro)
  all_goals grind
def con_s_PutPage : Con := ⟨true, g2 (pD (.pair (.pair (.sl (.sl (.int .u8))) (.pair (.sl (.pair (.int .i64) (.pair (.sl (.int .u8)) .unit))) .unit)) (.pair (.sl (.int .i64)) (.pair (.sl (.int .i64)) .unit)))) (pD (.pair (.int .i64) (.pair (.int .i64) (.pair (.sl (.int .u8)) .unit)))) fun d p => ⟨[Q_s_PutPage d p], [⟨(.pair (.int .i64) (.pair (.pair (.pair (.sl (.sl (.int .u8))) (.pair (.sl (.pair (.int .i64) (.pair (.sl (.int .u8)) .unit))) .unit)) (.pair (.sl (.int .i64)) (.pair (.sl (.int .i64)) .unit))) .unit)), (.pr .sh (.pr (.pr (.pr (.ow (.ow .sh)) (.pr (.ow (.pr .sh (.pr (.ow .sh) .sh))) .sh)) (.pr (.ow .sh) (.pr (.ow .sh) .sh))) .sh)), F_s_PutPage d p⟩], []⟩, []⟩
theorem ok_s_PutPage : ConOk pg 74 con_s_PutPage := ConOk.g2 (Enters.of (by kernel_rfl)) ct_s_PutPage

def F_i_PutPage (d : ((List (List (Int))) × (List ((Int) × (List (Int)) × Unit)) × Unit) × (List (Int)) × (List (Int)) × Unit) (p : (Int) × (Int) × (List (Int)) × Unit) : (Int) × (((List (List (Int))) × (List ((Int) × (List (Int)) × Unit)) × Unit) × (List (Int)) × (List (Int)) × Unit) × Unit := putPage d p
def Q_i_PutPage (d : ((List (List (Int))) × (List ((Int) × (List (Int)) × Unit)) × Unit) × (List (Int)) × (List (Int)) × Unit) (p : (Int) × (Int) × (List (Int)) × Unit) : Prop := tot tDisk d.1 ≤ 1048576 ∧ d.2.1.length ≤ 1048576 ∧ d.2.2.1.length ≤ 1048576
def O_i_PutPage : Opt := ⟨fun i => false, fun i => [], fun i => (match decide (i = 7) with | true => (.take 0 (.take 1 (.take 2 (.take 3 (.alt 4 (.alt 5 (.alt 6 (.alt 7 .done .no) .no) .no) (.alt 5 (.alt 4 (.alt 6 (.alt 7 .done .no) .no) (.alt 6 (.alt 4 (.alt 7 .done .no) .no) .no)) .no)))))) | false => (match decide (i = 1) with | true => (.alt 0 (.alt 1 (.alt 2 (.alt 3 (.alt 4 (.alt 5 (.take 6 .done) .no) .no) .no) .no) (.alt 2 (.alt 1 (.alt 3 (.alt 4 (.alt 5 (.take 6 .done) .no) .no) .no) .no) .no)) (.alt 2 (.alt 0 (.alt 1 (.alt 3 (.alt 4 (.alt 5 (.take 6 .done) .no) .no) .no) .no) .no) .no)) | false => .done)), fun i => (match decide (i = 7) with | true => some [false, false, false, false, true, false, true, false, false, false, false, false, false, false, false, false, false, false, false, false, false, false, false, false, false, false, false, false, false, false, false, false, false, false, false, false, false, false] | false => (match decide (i = 1) with | true => some [false, false, true, true, true, true, false, false, false, false, false, false, false, false, false, false, false, false, false, false, false, false, false, false, false, false, false, false, false, false, false, false, false, false, false, false, false, false] | false => none)), fun i => false, fun i => []⟩
def τ_i_PutPage : Env := Env.of [(2, (.int .i64)), (4, .bool), (26, (.sl (.int .u8))), (30, (.pair (.sl (.sl (.int .u8))) (.pair (.sl (.pair (.int .i64) (.pair (.sl (.int .u8)) .unit))) .unit))), (43, (.sl (.int .i64))), (56, (.pair (.pair (.sl (.sl (.int .u8))) (.pair (.sl (.pair (.int .i64) (.pair (.sl (.int .u8)) .unit))) .unit)) (.pair (.sl (.int .i64)) (.pair (.sl (.int .i64)) .unit)))), (64, (.pair (.int .i64) (.pair (.pair (.pair (.sl (.sl (.int .u8))) (.pair (.sl (.pair (.int .i64) (.pair (.sl (.int .u8)) .unit))) .unit)) (.pair (.sl (.int .i64)) (.pair (.sl (.int .i64)) .unit))) .unit))), (105, (.pair (.int .i64) (.pair (.int .i64) (.pair (.sl (.int .u8)) .unit))))] [(135, (.pair (.pair (.sl (.sl (.int .u8))) (.pair (.sl (.pair (.int .i64) (.pair (.sl (.int .u8)) .unit))) .unit)) (.pair (.sl (.int .i64)) (.pair (.sl (.int .i64)) .unit))))] []

theorem ct_i_PutPage (d : ((List (List (Int))) × (List ((Int) × (List (Int)) × Unit)) × Unit) × (List (Int)) × (List (Int)) × Unit) (p : (Int) × (Int) × (List (Int)) × Unit) : Ct pg 76 [.dat (.pair (.pair (.sl (.sl (.int .u8))) (.pair (.sl (.pair (.int .i64) (.pair (.sl (.int .u8)) .unit))) .unit)) (.pair (.sl (.int .i64)) (.pair (.sl (.int .i64)) .unit))) d, .dat (.pair (.int .i64) (.pair (.int .i64) (.pair (.sl (.int .u8)) .unit))) p] ⟨[Q_i_PutPage d p], [⟨(.pair (.int .i64) (.pair (.pair (.pair (.sl (.sl (.int .u8))) (.pair (.sl (.pair (.int .i64) (.pair (.sl (.int .u8)) .unit))) .unit)) (.pair (.sl (.int .i64)) (.pair (.sl (.int .i64)) .unit))) .unit)), (.pr .sh (.pr (.pr (.pr (.ow (.ow .sh)) (.pr (.ow (.pr .sh (.pr (.ow .sh) .sh))) .sh)) (.pr (.ow .sh) (.pr (.ow .sh) .sh))) .sh)), F_i_PutPage d p⟩], []⟩ := by
  refine ct_claim (O := O_i_PutPage) (τ := τ_i_PutPage) (EnvOk.of (by kernel_rfl) (by kernel_rfl)) (GOk.of (.cons ok_i_PageFault (.cons ok_i_packedPage (.cons ok_sl_Contains_int64 (.cons ok_i_DraftFault (.cons ok_i_firstCode (.cons ok_i_Disk_write (.cons ok_i_ownDraft .nil)))))) : AllOk pg [(140, con_i_PageFault), (141, con_i_packedPage), (123, con_sl_Contains_int64), (107, con_i_DraftFault), (87, con_i_firstCode), (91, con_i_Disk_write), (111, con_i_ownDraft)])) mixed (Enters.of (by kernel_rfl)) (fn := Go.Proofs.Try.f76) (by kernel_rfl) rfl (by kernel_rfl) ?_
  intro hp hw
  have hq : Q_i_PutPage d p := hp _ (List.mem_singleton.2 rfl)
  clear hp
  change claim Lg.std Alg.std τ_i_PutPage (Gam.of [(140, ⟨true, g1 (pD (.pair (.int .i64) (.pair (.int .i64) (.pair (.sl (.int .u8)) .unit)))) fun p => ⟨[Q_i_PageFault p], [⟨(.int .i64), .sh, F_i_PageFault p⟩], []⟩, []⟩), (141, ⟨true, g1 (pD (.pair (.int .i64) (.pair (.int .i64) (.pair (.sl (.int .u8)) .unit)))) fun p => ⟨[Q_i_packedPage p], [⟨(.sl (.int .u8)), (.ow .sh), F_i_packedPage p⟩], []⟩, []⟩), (123, ⟨true, g2 (pD (.sl (.int .i64))) (pD (.int .i64)) fun a n => ⟨[Q_sl_Contains_int64 a n], [⟨.bool, .sh, F_sl_Contains_int64 a n⟩], []⟩, []⟩), (107, ⟨true, g1 (pD (.pair (.pair (.sl (.sl (.int .u8))) (.pair (.sl (.pair (.int .i64) (.pair (.sl (.int .u8)) .unit))) .unit)) (.pair (.sl (.int .i64)) (.pair (.sl (.int .i64)) .unit)))) fun d => ⟨[Q_i_DraftFault d], [⟨(.int .i64), .sh, F_i_DraftFault d⟩], []⟩, []⟩), (87, ⟨true, g1 (pD (.sl (.int .i64))) fun l => ⟨[Q_i_firstCode l], [⟨(.int .i64), .sh, F_i_firstCode l⟩], []⟩, []⟩), (91, ⟨true, g3 (pW (.pair (.sl (.sl (.int .u8))) (.pair (.sl (.pair (.int .i64) (.pair (.sl (.int .u8)) .unit))) .unit)) (.pr (.ow (.ow .sh)) (.pr (.ow (.pr .sh (.pr (.ow .sh) .sh))) .sh))) (pD (.int .i64)) (pD (.sl (.int .u8))) fun d n data => ⟨[Q_i_Disk_write d n data], [], [.mp (.pair (.sl (.sl (.int .u8))) (.pair (.sl (.pair (.int .i64) (.pair (.sl (.int .u8)) .unit))) .unit)) (.pr (.ow (.ow .sh)) (.pr (.ow (.pr .sh (.pr (.ow .sh) .sh))) .sh)) (B_i_Disk_write_d d n data)]⟩, [(.pr (.ow (.ow .sh)) (.pr (.ow (.pr .sh (.pr (.ow .sh) .sh))) .sh))]⟩), (111, ⟨true, g1 (pD (.pair (.pair (.sl (.sl (.int .u8))) (.pair (.sl (.pair (.int .i64) (.pair (.sl (.int .u8)) .unit))) .unit)) (.pair (.sl (.int .i64)) (.pair (.sl (.int .i64)) .unit)))) fun d => ⟨[Q_i_ownDraft d], [⟨(.pair (.pair (.sl (.sl (.int .u8))) (.pair (.sl (.pair (.int .i64) (.pair (.sl (.int .u8)) .unit))) .unit)) (.pair (.sl (.int .i64)) (.pair (.sl (.int .i64)) .unit))), (.np (.pr (.pr (.ow (.ow .sh)) (.pr (.ow (.pr .sh (.pr (.ow .sh) .sh))) .sh)) (.pr (.ow .sh) (.pr (.ow .sh) .sh)))), F_i_ownDraft d⟩], []⟩, []⟩)]) O_i_PutPage Go.Proofs.Try.f76 [.dat (.pair (.pair (.sl (.sl (.int .u8))) (.pair (.sl (.pair (.int .i64) (.pair (.sl (.int .u8)) .unit))) .unit)) (.pair (.sl (.int .i64)) (.pair (.sl (.int .i64)) .unit))) d, .dat (.pair (.int .i64) (.pair (.int .i64) (.pair (.sl (.int .u8)) .unit))) p] ⟨[Q_i_PutPage d p], [⟨(.pair (.int .i64) (.pair (.pair (.pair (.sl (.sl (.int .u8))) (.pair (.sl (.pair (.int .i64) (.pair (.sl (.int .u8)) .unit))) .unit)) (.pair (.sl (.int .i64)) (.pair (.sl (.int .i64)) .unit))) .unit)), (.pr .sh (.pr (.pr (.pr (.ow (.ow .sh)) (.pr (.ow (.pr .sh (.pr (.ow .sh) .sh))) .sh)) (.pr (.ow .sh) (.pr (.ow .sh) .sh))) .sh)), F_i_PutPage d p⟩], []⟩
  generalize hg_F_i_PageFault : F_i_PageFault = g_F_i_PageFault
  generalize hg_Q_i_PageFault : Q_i_PageFault = g_Q_i_PageFault
  generalize hg_F_i_packedPage : F_i_packedPage = g_F_i_packedPage
  generalize hg_Q_i_packedPage : Q_i_packedPage = g_Q_i_packedPage
  generalize hg_F_sl_Contains_int64 : F_sl_Contains_int64 = g_F_sl_Contains_int64
  generalize hg_Q_sl_Contains_int64 : Q_sl_Contains_int64 = g_Q_sl_Contains_int64
  generalize hg_F_i_DraftFault : F_i_DraftFault = g_F_i_DraftFault
  generalize hg_Q_i_DraftFault : Q_i_DraftFault = g_Q_i_DraftFault
  generalize hg_F_i_firstCode : F_i_firstCode = g_F_i_firstCode
  generalize hg_Q_i_firstCode : Q_i_firstCode = g_Q_i_firstCode
  generalize hg_B_i_Disk_write_d : B_i_Disk_write_d = g_B_i_Disk_write_d
  generalize hg_Q_i_Disk_write : Q_i_Disk_write = g_Q_i_Disk_write
  generalize hg_F_i_ownDraft : F_i_ownDraft = g_F_i_ownDraft
  generalize hg_Q_i_ownDraft : Q_i_ownDraft = g_Q_i_ownDraft
  generalize hR0 : F_i_PutPage d p = R0
  generalize Q_i_PutPage d p = Q0
  generalize hL : Lg.std = L
  generalize hA : Alg.std = A
  cbv
  subst hL hA
  try dsimp only [Ty.den]
  obtain ⟨⟨d_0_0, d_0_1, ⟨⟩⟩, d_1, d_2, ⟨⟩⟩ := d
  obtain ⟨p_0, p_1, p_2, ⟨⟩⟩ := p
  have hfn : ∀ a b : Int, firstNZ (List.take 2 [a, b]) = if a ≠ 0 then a else b := fun a b => by
    by_cases ha : a = 0 <;> by_cases hb : b = 0 <;> simp [firstNZ, ha, hb]
  have hle1 := tot_len tPut d_0_1
  have hpk := packPage_len (p_0, p_1, p_2, PUnit.unit)
  have hdk := draftFault_disk ((d_0_0, d_0_1, PUnit.unit), d_1, d_2, PUnit.unit)
  subst hR0 hg_F_i_PageFault hg_Q_i_PageFault hg_F_i_packedPage hg_Q_i_packedPage hg_F_sl_Contains_int64 hg_Q_sl_Contains_int64 hg_F_i_DraftFault hg_Q_i_DraftFault hg_F_i_firstCode hg_Q_i_firstCode hg_B_i_Disk_write_d hg_Q_i_Disk_write hg_F_i_ownDraft hg_Q_i_ownDraft
  simp only [Q_i_PutPage] at hq
  simp only [tot_p, tot_u, tot_int] at hq
  simp only [Lg.std, Alg.std, List.drop_zero, List.take_length, F_i_PageFault, F_i_packedPage, F_sl_Contains_int64, F_i_DraftFault, F_i_firstCode, F_i_ownDraft, B_i_Disk_write_d, Q_i_PageFault, Q_i_packedPage, Q_sl_Contains_int64, Q_i_DraftFault, Q_i_firstCode, Q_i_Disk_write, Q_i_ownDraft, F_i_PutPage, putPage, hfn] at *
  try simp only [true_and, and_true, false_implies, implies_true, imp_self]
  try simp only [tot_p, tot_u, tot_int, List.length_nil]
  repeat' (first | intro _ | apply And.intro)
  all_goals grind
def con_i_PutPage : Con := ⟨true, g2 (pD (.pair (.pair (.sl (.sl (.int .u8))) (.pair (.sl (.pair (.int .i64) (.pair (.sl (.int .u8)) .unit))) .unit)) (.pair (.sl (.int .i64)) (.pair (.sl (.int .i64)) .unit)))) (pD (.pair (.int .i64) (.pair (.int .i64) (.pair (.sl (.int .u8)) .unit)))) fun d p => ⟨[Q_i_PutPage d p], [⟨(.pair (.int .i64) (.pair (.pair (.pair (.sl (.sl (.int .u8))) (.pair (.sl (.pair (.int .i64) (.pair (.sl (.int .u8)) .unit))) .unit)) (.pair (.sl (.int .i64)) (.pair (.sl (.int .i64)) .unit))) .unit)), (.pr .sh (.pr (.pr (.pr (.ow (.ow .sh)) (.pr (.ow (.pr .sh (.pr (.ow .sh) .sh))) .sh)) (.pr (.ow .sh) (.pr (.ow .sh) .sh))) .sh)), F_i_PutPage d p⟩], []⟩, []⟩
theorem ok_i_PutPage : ConOk pg 76 con_i_PutPage := ConOk.g2 (Enters.of (by kernel_rfl)) ct_i_PutPage

def F_w_FnExactPutPage (d : ((List (List (Int))) × (List ((Int) × (List (Int)) × Unit)) × Unit) × (List (Int)) × (List (Int)) × Unit) (p : (Int) × (Int) × (List (Int)) × Unit) : Bool := true
def Q_w_FnExactPutPage (d : ((List (List (Int))) × (List ((Int) × (List (Int)) × Unit)) × Unit) × (List (Int)) × (List (Int)) × Unit) (p : (Int) × (Int) × (List (Int)) × Unit) : Prop := True
def O_w_FnExactPutPage : Opt := ⟨fun i => false, fun i => [], fun i => (match decide (i = 31) with | true => (.alt 0 (.alt 1 (.alt 2 (.alt 3 (.alt 4 (.alt 5 (.alt 6 .done .no) .no) (.alt 5 (.alt 4 (.alt 6 .done .no) .no) .no)) (.alt 5 (.alt 3 (.alt 4 (.alt 6 .done .no) .no) .no) .no)) (.alt 5 (.alt 2 (.alt 3 (.alt 4 (.alt 6 .done .no) .no) .no) .no) .no)) (.alt 2 (.alt 1 (.alt 3 (.alt 4 (.alt 5 (.alt 6 .done .no) .no) (.alt 5 (.alt 4 (.alt 6 .done .no) .no) .no)) (.alt 5 (.alt 3 (.alt 4 (.alt 6 .done .no) .no) .no) .no)) (.alt 5 (.alt 1 (.alt 3 (.alt 4 (.alt 6 .done .no) .no) .no) .no) .no)) (.alt 5 (.alt 1 (.alt 2 (.alt 3 (.alt 4 (.alt 6 .done .no) .no) .no) .no) (.alt 2 (.alt 1 (.alt 3 (.alt 4 (.alt 6 .done .no) .no) .no) .no) .no)) .no))) (.alt 2 (.alt 0 (.alt 1 (.alt 3 (.alt 4 (.alt 5 (.alt 6 .done .no) .no) (.alt 5 (.alt 4 (.alt 6 .done .no) .no) .no)) (.alt 5 (.alt 3 (.alt 4 (.alt 6 .done .no) .no) .no) .no)) (.alt 5 (.alt 1 (.alt 3 (.alt 4 (.alt 6 .done .no) .no) .no) .no) .no)) (.alt 5 (.alt 0 (.alt 1 (.alt 3 (.alt 4 (.alt 6 .done .no) .no) .no) .no) .no) .no)) (.alt 5 (.alt 0 (.alt 1 (.alt 2 (.alt 3 (.alt 4 (.alt 6 .done .no) .no) .no) .no) (.alt 2 (.alt 1 (.alt 3 (.alt 4 (.alt 6 .done .no) .no) .no) .no) .no)) (.alt 2 (.alt 0 (.alt 1 (.alt 3 (.alt 4 (.alt 6 .done .no) .no) .no) .no) .no) .no)) .no))) | false => (match decide (i = 16) with | true => (.alt 0 (.alt 1 (.alt 2 (.alt 3 (.take 4 .done) .no) .no) .no) (.alt 1 (.alt 0 (.alt 2 (.alt 3 (.take 4 .done) .no) .no) (.alt 2 (.alt 0 (.alt 3 (.take 4 .done) .no) .no) .no)) .no)) | false => (match decide (i = 14) with | true => (.alt 0 (.alt 1 (.alt 2 (.alt 3 (.take 4 .done) .no) .no) .no) (.alt 1 (.alt 0 (.alt 2 (.alt 3 (.take 4 .done) .no) .no) (.alt 2 (.alt 0 (.alt 3 (.take 4 .done) .no) .no) .no)) .no)) | false => (match decide (i = 8) with | true => (.alt 0 (.alt 1 (.alt 2 (.alt 3 (.alt 4 (.alt 5 (.alt 6 .done .no) .no) (.alt 5 (.alt 4 (.alt 6 .done .no) .no) .no)) (.alt 5 (.alt 3 (.alt 4 (.alt 6 .done .no) .no) .no) .no)) (.alt 5 (.alt 2 (.alt 3 (.alt 4 (.alt 6 .done .no) .no) .no) .no) .no)) (.alt 2 (.alt 1 (.alt 3 (.alt 4 (.alt 5 (.alt 6 .done .no) .no) (.alt 5 (.alt 4 (.alt 6 .done .no) .no) .no)) (.alt 5 (.alt 3 (.alt 4 (.alt 6 .done .no) .no) .no) .no)) (.alt 5 (.alt 1 (.alt 3 (.alt 4 (.alt 6 .done .no) .no) .no) .no) .no)) (.alt 5 (.alt 1 (.alt 2 (.alt 3 (.alt 4 (.alt 6 .done .no) .no) .no) .no) (.alt 2 (.alt 1 (.alt 3 (.alt 4 (.alt 6 .done .no) .no) .no) .no) .no)) .no))) (.alt 2 (.alt 0 (.alt 1 (.alt 3 (.alt 4 (.alt 5 (.alt 6 .done .no) .no) (.alt 5 (.alt 4 (.alt 6 .done .no) .no) .no)) (.alt 5 (.alt 3 (.alt 4 (.alt 6 .done .no) .no) .no) .no)) (.alt 5 (.alt 1 (.alt 3 (.alt 4 (.alt 6 .done .no) .no) .no) .no) .no)) (.alt 5 (.alt 0 (.alt 1 (.alt 3 (.alt 4 (.alt 6 .done .no) .no) .no) .no) .no) .no)) (.alt 5 (.alt 0 (.alt 1 (.alt 2 (.alt 3 (.alt 4 (.alt 6 .done .no) .no) .no) .no) (.alt 2 (.alt 1 (.alt 3 (.alt 4 (.alt 6 .done .no) .no) .no) .no) .no)) (.alt 2 (.alt 0 (.alt 1 (.alt 3 (.alt 4 (.alt 6 .done .no) .no) .no) .no) .no) .no)) .no))) | false => .done)))), fun i => (match decide (i = 31) with | true => some [false, false, false, false, false, false, true, false, false, true, false, true, false, true, false, false, false, false, false, false, false, false, false, false, false, false, false, false, false, false, false, false, false, false, false, false, false, false, false, false, false, false, false, false, false, false, false, false, false, false, false, false, false, false, false, false, false, false, false, false, false, false, false, false, false, false, false, false, false, false, false, false, false, false, false, false, false, false, false, false, false, false, false, false, false, false, false, false, false, false, false, false] | false => (match decide (i = 16) with | true => some [false, false, true, true, false, false, true, true, true, true, false, false, false, false, false, false, false, false, false, false, false, false, false, false, false, false, false, false, false, false, false, false, false, false, false, false, false, false, false, false, false, false, false, false, false, false, false, false, false, true, false, false, false, false, false, false, false, false, false, false, false, false, false, false, false, false, false, false, false, false, false, false, false, false, false, false, false, false, false, false, false, false, false, false, false, false, false, false, false, false, false, false] | false => (match decide (i = 14) with | true => some [false, false, true, true, false, false, true, true, true, true, false, false, false, false, false, false, false, false, false, false, false, false, false, false, false, false, false, false, false, false, false, false, false, false, false, false, false, false, false, false, false, false, false, false, true, false, false, false, false, false, false, false, false, false, false, false, false, false, false, false, false, false, false, false, false, false, false, false, false, false, false, false, false, false, false, false, false, false, false, false, false, false, false, false, false, false, false, false, false, false, false, false] | false => (match decide (i = 8) with | true => some [false, false, true, true, false, false, true, false, false, false, false, false, false, false, false, false, false, false, false, false, false, false, false, false, false, false, false, false, false, false, false, false, false, false, false, false, false, false, false, false, false, false, false, false, false, false, false, false, false, false, false, false, false, false, false, false, false, false, false, false, false, false, false, false, false, false, false, false, false, false, false, false, false, false, false, false, false, false, false, false, false, false, false, false, false, false, false, false, false, false, false, false] | false => none)))), fun i => false, fun i => []⟩
def τ_w_FnExactPutPage : Env := Env.of [(3, (.int .i64)), (4, .bool), (50, (.pair (.pair (.sl (.sl (.int .u8))) (.pair (.sl (.pair (.int .i64) (.pair (.sl (.int .u8)) .unit))) .unit)) (.pair (.sl (.int .i64)) (.pair (.sl (.int .i64)) .unit)))), (56, (.pair (.pair (.sl (.sl (.int .u8))) (.pair (.sl (.pair (.int .i64) (.pair (.sl (.int .u8)) .unit))) .unit)) (.pair (.sl (.int .i64)) (.pair (.sl (.int .i64)) .unit)))), (64, (.pair (.int .i64) (.pair (.pair (.pair (.sl (.sl (.int .u8))) (.pair (.sl (.pair (.int .i64) (.pair (.sl (.int .u8)) .unit))) .unit)) (.pair (.sl (.int .i64)) (.pair (.sl (.int .i64)) .unit))) .unit))), (102, (.pair (.int .i64) (.pair (.int .i64) (.pair (.sl (.int .u8)) .unit)))), (105, (.pair (.int .i64) (.pair (.int .i64) (.pair (.sl (.int .u8)) .unit))))] [] []

theorem ct_w_FnExactPutPage (d : ((List (List (Int))) × (List ((Int) × (List (Int)) × Unit)) × Unit) × (List (Int)) × (List (Int)) × Unit) (p : (Int) × (Int) × (List (Int)) × Unit) : Ct pg 13 [.dat (.pair (.pair (.sl (.sl (.int .u8))) (.pair (.sl (.pair (.int .i64) (.pair (.sl (.int .u8)) .unit))) .unit)) (.pair (.sl (.int .i64)) (.pair (.sl (.int .i64)) .unit))) d, .dat (.pair (.int .i64) (.pair (.int .i64) (.pair (.sl (.int .u8)) .unit))) p] ⟨[Q_w_FnExactPutPage d p], [⟨.bool, .sh, F_w_FnExactPutPage d p⟩], []⟩ := by
  refine ct_claim (O := O_w_FnExactPutPage) (τ := τ_w_FnExactPutPage) (EnvOk.of (by kernel_rfl) (by kernel_rfl)) (GOk.of (.cons ok_w_toPage (.cons ok_w_eqPage (.cons ok_w_szPage (.cons ok_w_markPage (.cons ok_w_toDraft (.cons ok_w_eqDraft (.cons ok_w_szDraft (.cons ok_w_markDraft (.cons ok_w_eqDraftResult (.cons ok_w_markDraftResult (.cons ok_w_heldDraftResult (.cons ok_s_PutPage (.cons ok_i_PutPage .nil)))))))))))) : AllOk pg [(75, con_w_toPage), (77, con_w_eqPage), (73, con_w_szPage), (78, con_w_markPage), (33, con_w_toDraft), (36, con_w_eqDraft), (31, con_w_szDraft), (37, con_w_markDraft), (42, con_w_eqDraftResult), (43, con_w_markDraftResult), (44, con_w_heldDraftResult), (74, con_s_PutPage), (76, con_i_PutPage)])) mixed (Enters.of (by kernel_rfl)) (fn := Go.Proofs.Try.f13) (by kernel_rfl) rfl (by kernel_rfl) ?_
  intro hp hw
  have hq : Q_w_FnExactPutPage d p := hp _ (List.mem_singleton.2 rfl)
  clear hp
  change claim Lg.std Alg.std τ_w_FnExactPutPage (Gam.of [(75, ⟨true, g1 (pD (.pair (.int .i64) (.pair (.int .i64) (.pair (.sl (.int .u8)) .unit)))) fun a => ⟨[Q_w_toPage a], [⟨(.pair (.int .i64) (.pair (.int .i64) (.pair (.sl (.int .u8)) .unit))), (.pr .sh (.pr .sh (.pr (.ow .sh) .sh))), F_w_toPage a⟩], []⟩, []⟩), (77, ⟨true, g2 (pD (.pair (.int .i64) (.pair (.int .i64) (.pair (.sl (.int .u8)) .unit)))) (pD (.pair (.int .i64) (.pair (.int .i64) (.pair (.sl (.int .u8)) .unit)))) fun a b => ⟨[Q_w_eqPage a b], [⟨.bool, .sh, F_w_eqPage a b⟩], []⟩, []⟩), (73, ⟨true, g2 (pD (.pair (.int .i64) (.pair (.int .i64) (.pair (.sl (.int .u8)) .unit)))) (pD (.int .i64)) fun a left => ⟨[Q_w_szPage a left], [⟨(.int .i64), .sh, F_w_szPage a left⟩], []⟩, []⟩), (78, ⟨true, g2 (pV (.pair (.int .i64) (.pair (.int .i64) (.pair (.sl (.int .u8)) .unit))) (.pr .sh (.pr .sh (.pr (.ow .sh) .sh)))) (pD (.int .i64)) fun a k => ⟨[Q_w_markPage a k], [⟨(.int .i64), .sh, F_w_markPage a k⟩], [.mv (.pair (.int .i64) (.pair (.int .i64) (.pair (.sl (.int .u8)) .unit))) (.pr .sh (.pr .sh (.pr (.ow .sh) .sh))) (B_w_markPage_a a k)]⟩, [(.pr .sh (.pr .sh (.pr (.ow .sh) .sh)))]⟩), (33, ⟨true, g1 (pD (.pair (.pair (.sl (.sl (.int .u8))) (.pair (.sl (.pair (.int .i64) (.pair (.sl (.int .u8)) .unit))) .unit)) (.pair (.sl (.int .i64)) (.pair (.sl (.int .i64)) .unit)))) fun a => ⟨[Q_w_toDraft a], [⟨(.pair (.pair (.sl (.sl (.int .u8))) (.pair (.sl (.pair (.int .i64) (.pair (.sl (.int .u8)) .unit))) .unit)) (.pair (.sl (.int .i64)) (.pair (.sl (.int .i64)) .unit))), (.pr (.pr (.ow (.ow .sh)) (.pr (.ow (.pr .sh (.pr (.ow .sh) .sh))) .sh)) (.pr (.ow .sh) (.pr (.ow .sh) .sh))), F_w_toDraft a⟩], []⟩, []⟩), (36, ⟨true, g2 (pD (.pair (.pair (.sl (.sl (.int .u8))) (.pair (.sl (.pair (.int .i64) (.pair (.sl (.int .u8)) .unit))) .unit)) (.pair (.sl (.int .i64)) (.pair (.sl (.int .i64)) .unit)))) (pD (.pair (.pair (.sl (.sl (.int .u8))) (.pair (.sl (.pair (.int .i64) (.pair (.sl (.int .u8)) .unit))) .unit)) (.pair (.sl (.int .i64)) (.pair (.sl (.int .i64)) .unit)))) fun a b => ⟨[Q_w_eqDraft a b], [⟨.bool, .sh, F_w_eqDraft a b⟩], []⟩, []⟩), (31, ⟨true, g2 (pD (.pair (.pair (.sl (.sl (.int .u8))) (.pair (.sl (.pair (.int .i64) (.pair (.sl (.int .u8)) .unit))) .unit)) (.pair (.sl (.int .i64)) (.pair (.sl (.int .i64)) .unit)))) (pD (.int .i64)) fun a left => ⟨[Q_w_szDraft a left], [⟨(.int .i64), .sh, F_w_szDraft a left⟩], []⟩, []⟩), (37, ⟨true, g2 (pV (.pair (.pair (.sl (.sl (.int .u8))) (.pair (.sl (.pair (.int .i64) (.pair (.sl (.int .u8)) .unit))) .unit)) (.pair (.sl (.int .i64)) (.pair (.sl (.int .i64)) .unit))) (.pr (.pr (.ow (.ow .sh)) (.pr (.ow (.pr .sh (.pr (.ow .sh) .sh))) .sh)) (.pr (.ow .sh) (.pr (.ow .sh) .sh)))) (pD (.int .i64)) fun a k => ⟨[Q_w_markDraft a k], [⟨(.int .i64), .sh, F_w_markDraft a k⟩], [.mv (.pair (.pair (.sl (.sl (.int .u8))) (.pair (.sl (.pair (.int .i64) (.pair (.sl (.int .u8)) .unit))) .unit)) (.pair (.sl (.int .i64)) (.pair (.sl (.int .i64)) .unit))) (.pr (.pr (.ow (.ow .sh)) (.pr (.ow (.pr .sh (.pr (.ow .sh) .sh))) .sh)) (.pr (.ow .sh) (.pr (.ow .sh) .sh))) (B_w_markDraft_a a k)]⟩, [(.pr (.pr (.ow (.ow .sh)) (.pr (.ow (.pr .sh (.pr (.ow .sh) .sh))) .sh)) (.pr (.ow .sh) (.pr (.ow .sh) .sh)))]⟩), (42, ⟨true, g2 (pD (.pair (.int .i64) (.pair (.pair (.pair (.sl (.sl (.int .u8))) (.pair (.sl (.pair (.int .i64) (.pair (.sl (.int .u8)) .unit))) .unit)) (.pair (.sl (.int .i64)) (.pair (.sl (.int .i64)) .unit))) .unit))) (pD (.pair (.int .i64) (.pair (.pair (.pair (.sl (.sl (.int .u8))) (.pair (.sl (.pair (.int .i64) (.pair (.sl (.int .u8)) .unit))) .unit)) (.pair (.sl (.int .i64)) (.pair (.sl (.int .i64)) .unit))) .unit))) fun a b => ⟨[Q_w_eqDraftResult a b], [⟨.bool, .sh, F_w_eqDraftResult a b⟩], []⟩, []⟩), (43, ⟨true, g2 (pV (.pair (.int .i64) (.pair (.pair (.pair (.sl (.sl (.int .u8))) (.pair (.sl (.pair (.int .i64) (.pair (.sl (.int .u8)) .unit))) .unit)) (.pair (.sl (.int .i64)) (.pair (.sl (.int .i64)) .unit))) .unit)) (.pr .sh (.pr (.pr (.pr (.ow (.ow .sh)) (.pr (.ow (.pr .sh (.pr (.ow .sh) .sh))) .sh)) (.pr (.ow .sh) (.pr (.ow .sh) .sh))) .sh))) (pD (.int .i64)) fun a k => ⟨[Q_w_markDraftResult a k], [⟨(.int .i64), .sh, F_w_markDraftResult a k⟩], [.mv (.pair (.int .i64) (.pair (.pair (.pair (.sl (.sl (.int .u8))) (.pair (.sl (.pair (.int .i64) (.pair (.sl (.int .u8)) .unit))) .unit)) (.pair (.sl (.int .i64)) (.pair (.sl (.int .i64)) .unit))) .unit)) (.pr .sh (.pr (.pr (.pr (.ow (.ow .sh)) (.pr (.ow (.pr .sh (.pr (.ow .sh) .sh))) .sh)) (.pr (.ow .sh) (.pr (.ow .sh) .sh))) .sh)) (B_w_markDraftResult_a a k)]⟩, [(.pr .sh (.pr (.pr (.pr (.ow (.ow .sh)) (.pr (.ow (.pr .sh (.pr (.ow .sh) .sh))) .sh)) (.pr (.ow .sh) (.pr (.ow .sh) .sh))) .sh))]⟩), (44, ⟨true, g2 (pD (.pair (.int .i64) (.pair (.pair (.pair (.sl (.sl (.int .u8))) (.pair (.sl (.pair (.int .i64) (.pair (.sl (.int .u8)) .unit))) .unit)) (.pair (.sl (.int .i64)) (.pair (.sl (.int .i64)) .unit))) .unit))) (pD (.int .i64)) fun a k => ⟨[Q_w_heldDraftResult a k], [⟨(.int .i64), .sh, F_w_heldDraftResult a k⟩], []⟩, []⟩), (74, ⟨true, g2 (pD (.pair (.pair (.sl (.sl (.int .u8))) (.pair (.sl (.pair (.int .i64) (.pair (.sl (.int .u8)) .unit))) .unit)) (.pair (.sl (.int .i64)) (.pair (.sl (.int .i64)) .unit)))) (pD (.pair (.int .i64) (.pair (.int .i64) (.pair (.sl (.int .u8)) .unit)))) fun d p => ⟨[Q_s_PutPage d p], [⟨(.pair (.int .i64) (.pair (.pair (.pair (.sl (.sl (.int .u8))) (.pair (.sl (.pair (.int .i64) (.pair (.sl (.int .u8)) .unit))) .unit)) (.pair (.sl (.int .i64)) (.pair (.sl (.int .i64)) .unit))) .unit)), (.pr .sh (.pr (.pr (.pr (.ow (.ow .sh)) (.pr (.ow (.pr .sh (.pr (.ow .sh) .sh))) .sh)) (.pr (.ow .sh) (.pr (.ow .sh) .sh))) .sh)), F_s_PutPage d p⟩], []⟩, []⟩), (76, ⟨true, g2 (pD (.pair (.pair (.sl (.sl (.int .u8))) (.pair (.sl (.pair (.int .i64) (.pair (.sl (.int .u8)) .unit))) .unit)) (.pair (.sl (.int .i64)) (.pair (.sl (.int .i64)) .unit)))) (pD (.pair (.int .i64) (.pair (.int .i64) (.pair (.sl (.int .u8)) .unit)))) fun d p => ⟨[Q_i_PutPage d p], [⟨(.pair (.int .i64) (.pair (.pair (.pair (.sl (.sl (.int .u8))) (.pair (.sl (.pair (.int .i64) (.pair (.sl (.int .u8)) .unit))) .unit)) (.pair (.sl (.int .i64)) (.pair (.sl (.int .i64)) .unit))) .unit)), (.pr .sh (.pr (.pr (.pr (.ow (.ow .sh)) (.pr (.ow (.pr .sh (.pr (.ow .sh) .sh))) .sh)) (.pr (.ow .sh) (.pr (.ow .sh) .sh))) .sh)), F_i_PutPage d p⟩], []⟩, []⟩)]) O_w_FnExactPutPage Go.Proofs.Try.f13 [.dat (.pair (.pair (.sl (.sl (.int .u8))) (.pair (.sl (.pair (.int .i64) (.pair (.sl (.int .u8)) .unit))) .unit)) (.pair (.sl (.int .i64)) (.pair (.sl (.int .i64)) .unit))) d, .dat (.pair (.int .i64) (.pair (.int .i64) (.pair (.sl (.int .u8)) .unit))) p] ⟨[Q_w_FnExactPutPage d p], [⟨.bool, .sh, F_w_FnExactPutPage d p⟩], []⟩
  generalize hg_F_w_toPage : F_w_toPage = g_F_w_toPage
  generalize hg_Q_w_toPage : Q_w_toPage = g_Q_w_toPage
  generalize hg_F_w_eqPage : F_w_eqPage = g_F_w_eqPage
  generalize hg_Q_w_eqPage : Q_w_eqPage = g_Q_w_eqPage
  generalize hg_F_w_szPage : F_w_szPage = g_F_w_szPage
  generalize hg_Q_w_szPage : Q_w_szPage = g_Q_w_szPage
  generalize hg_F_w_markPage : F_w_markPage = g_F_w_markPage
  generalize hg_B_w_markPage_a : B_w_markPage_a = g_B_w_markPage_a
  generalize hg_Q_w_markPage : Q_w_markPage = g_Q_w_markPage
  generalize hg_F_w_toDraft : F_w_toDraft = g_F_w_toDraft
  generalize hg_Q_w_toDraft : Q_w_toDraft = g_Q_w_toDraft
  generalize hg_F_w_eqDraft : F_w_eqDraft = g_F_w_eqDraft
  generalize hg_Q_w_eqDraft : Q_w_eqDraft = g_Q_w_eqDraft
  generalize hg_F_w_szDraft : F_w_szDraft = g_F_w_szDraft
  generalize hg_Q_w_szDraft : Q_w_szDraft = g_Q_w_szDraft
  generalize hg_F_w_markDraft : F_w_markDraft = g_F_w_markDraft
  generalize hg_B_w_markDraft_a : B_w_markDraft_a = g_B_w_markDraft_a
  generalize hg_Q_w_markDraft : Q_w_markDraft = g_Q_w_markDraft
  generalize hg_F_w_eqDraftResult : F_w_eqDraftResult = g_F_w_eqDraftResult
  generalize hg_Q_w_eqDraftResult : Q_w_eqDraftResult = g_Q_w_eqDraftResult
  generalize hg_F_w_markDraftResult : F_w_markDraftResult = g_F_w_markDraftResult
  generalize hg_B_w_markDraftResult_a : B_w_markDraftResult_a = g_B_w_markDraftResult_a
  generalize hg_Q_w_markDraftResult : Q_w_markDraftResult = g_Q_w_markDraftResult
  generalize hg_F_w_heldDraftResult : F_w_heldDraftResult = g_F_w_heldDraftResult
  generalize hg_Q_w_heldDraftResult : Q_w_heldDraftResult = g_Q_w_heldDraftResult
  generalize hg_F_s_PutPage : F_s_PutPage = g_F_s_PutPage
  generalize hg_Q_s_PutPage : Q_s_PutPage = g_Q_s_PutPage
  generalize hg_F_i_PutPage : F_i_PutPage = g_F_i_PutPage
  generalize hg_Q_i_PutPage : Q_i_PutPage = g_Q_i_PutPage
  generalize hR0 : F_w_FnExactPutPage d p = R0
  generalize Q_w_FnExactPutPage d p = Q0
  generalize hL : Lg.std = L
  generalize hA : Alg.std = A
  cbv
  subst hL hA
  try dsimp only [Ty.den]
  obtain ⟨⟨d_0_0, d_0_1, ⟨⟩⟩, d_1, d_2, ⟨⟩⟩ := d
  have hct_d := cnt_tot (.pair (.pair (.sl (.sl (.int .u8))) (.pair (.sl (.pair (.int .i64) (.pair (.sl (.int .u8)) .unit))) .unit)) (.pair (.sl (.int .i64)) (.pair (.sl (.int .i64)) .unit))) ((d_0_0, d_0_1, PUnit.unit), d_1, d_2, PUnit.unit) (by decide)
  obtain ⟨p_0, p_1, p_2, ⟨⟩⟩ := p
  have hct_p := cnt_tot (.pair (.int .i64) (.pair (.int .i64) (.pair (.sl (.int .u8)) .unit))) (p_0, p_1, p_2, PUnit.unit) (by decide)
  rcases Classical.em (tot (.pair (.pair (.sl (.sl (.int .u8))) (.pair (.sl (.pair (.int .i64) (.pair (.sl (.int .u8)) .unit))) .unit)) (.pair (.sl (.int .i64)) (.pair (.sl (.int .i64)) .unit))) ((d_0_0, d_0_1, PUnit.unit), d_1, d_2, PUnit.unit) + tot (.pair (.int .i64) (.pair (.int .i64) (.pair (.sl (.int .u8)) .unit))) (p_0, p_1, p_2, PUnit.unit) ≤ 1048576) with hB | hB
  · have htt := putPage_tot ((d_0_0, d_0_1, PUnit.unit), d_1, d_2, PUnit.unit) (p_0, p_1, p_2, PUnit.unit)
    have hct := cnt_tot (.pair (.int .i64) (.pair (.pair (.pair (.sl (.sl (.int .u8))) (.pair (.sl (.pair (.int .i64) (.pair (.sl (.int .u8)) .unit))) .unit)) (.pair (.sl (.int .i64)) (.pair (.sl (.int .i64)) .unit))) .unit)) (putPage ((d_0_0, d_0_1, PUnit.unit), d_1, d_2, PUnit.unit) (p_0, p_1, p_2, PUnit.unit)) (by decide)
    have htr : tot (.pair (.int .i64) (.pair (.pair (.pair (.sl (.sl (.int .u8))) (.pair (.sl (.pair (.int .i64) (.pair (.sl (.int .u8)) .unit))) .unit)) (.pair (.sl (.int .i64)) (.pair (.sl (.int .i64)) .unit))) .unit)) (putPage ((d_0_0, d_0_1, PUnit.unit), d_1, d_2, PUnit.unit) (p_0, p_1, p_2, PUnit.unit)) = tot (.pair (.pair (.sl (.sl (.int .u8))) (.pair (.sl (.pair (.int .i64) (.pair (.sl (.int .u8)) .unit))) .unit)) (.pair (.sl (.int .i64)) (.pair (.sl (.int .i64)) .unit))) (putPage ((d_0_0, d_0_1, PUnit.unit), d_1, d_2, PUnit.unit) (p_0, p_1, p_2, PUnit.unit)).2.1 := by simp only [tot_p, tot_u, tot_i, Nat.zero_add, Nat.add_zero]
    have hc0 : cnt false (.pair (.int .i64) (.pair (.pair (.pair (.sl (.sl (.int .u8))) (.pair (.sl (.pair (.int .i64) (.pair (.sl (.int .u8)) .unit))) .unit)) (.pair (.sl (.int .i64)) (.pair (.sl (.int .i64)) .unit))) .unit)) (putPage ((d_0_0, d_0_1, PUnit.unit), d_1, d_2, PUnit.unit) (p_0, p_1, p_2, PUnit.unit)) ≤ 4000000000 := by
      have := hct
      omega
    try simp only [tDisk, tPut, tot_int] at *
    subst hR0 hg_F_w_toPage hg_Q_w_toPage hg_F_w_eqPage hg_Q_w_eqPage hg_F_w_szPage hg_Q_w_szPage hg_F_w_markPage hg_B_w_markPage_a hg_Q_w_markPage hg_F_w_toDraft hg_Q_w_toDraft hg_F_w_eqDraft hg_Q_w_eqDraft hg_F_w_szDraft hg_Q_w_szDraft hg_F_w_markDraft hg_B_w_markDraft_a hg_Q_w_markDraft hg_F_w_eqDraftResult hg_Q_w_eqDraftResult hg_F_w_markDraftResult hg_B_w_markDraftResult_a hg_Q_w_markDraftResult hg_F_w_heldDraftResult hg_Q_w_heldDraftResult hg_F_s_PutPage hg_Q_s_PutPage hg_F_i_PutPage hg_Q_i_PutPage
    simp only [Lg.std, Alg.std, List.drop_zero, List.take_length, F_w_toPage, F_w_eqPage, F_w_szPage, F_w_markPage, F_w_toDraft, F_w_eqDraft, F_w_szDraft, F_w_markDraft, F_w_eqDraftResult, F_w_markDraftResult, F_w_heldDraftResult, F_s_PutPage, F_i_PutPage, B_w_markPage_a, B_w_markDraft_a, B_w_markDraftResult_a, Q_w_toPage, Q_w_eqPage, Q_w_szPage, Q_w_markPage, Q_w_toDraft, Q_w_eqDraft, Q_w_szDraft, Q_w_markDraft, Q_w_eqDraftResult, Q_w_markDraftResult, Q_w_heldDraftResult, Q_s_PutPage, Q_i_PutPage, F_w_FnExactPutPage]
    generalize hW : (putPage ((d_0_0, d_0_1, PUnit.unit), d_1, d_2, PUnit.unit) (p_0, p_1, p_2, PUnit.unit) : (Int) × (((List (List (Int))) × (List ((Int) × (List (Int)) × Unit)) × Unit) × (List (Int)) × (List (Int)) × Unit) × Unit) = w at *
    clear hW
    obtain ⟨w_0, ⟨⟨w_1_0_0, w_1_0_1, ⟨⟩⟩, w_1_1, w_1_2, ⟨⟩⟩, ⟨⟩⟩ := w
    try dsimp only at *
    have hm := hd_mk false (.pair (.int .i64) (.pair (.pair (.pair (.sl (.sl (.int .u8))) (.pair (.sl (.pair (.int .i64) (.pair (.sl (.int .u8)) .unit))) .unit)) (.pair (.sl (.int .i64)) (.pair (.sl (.int .i64)) .unit))) .unit)) (w_0, ((w_1_0_0, w_1_0_1, PUnit.unit), w_1_1, w_1_2, PUnit.unit), PUnit.unit) 1 (by omega)
    have mt_w_1_0_0 := fun k => mk_take false (.sl (.int .u8)) w_1_0_0 k
    dsimp only [Ty.den] at mt_w_1_0_0
    have mt_w_1_0_1 := fun k => mk_take false (.pair (.int .i64) (.pair (.sl (.int .u8)) .unit)) w_1_0_1 k
    dsimp only [Ty.den] at mt_w_1_0_1
    have mt_w_1_1 := fun k => mk_take false (.int .i64) w_1_1 k
    dsimp only [Ty.den] at mt_w_1_1
    have mt_w_1_2 := fun k => mk_take false (.int .i64) w_1_2 k
    dsimp only [Ty.den] at mt_w_1_2
    simp only [tot_p, tot_u, tot_i, tot_b, tot_s, cnt_p, cnt_u, cnt_i0, cnt_b0, cnt_s0, cnt_i1, cnt_b1, cnt_s1, cnt_l, mk_p, mk_u, mk_i0, mk_b0, mk_s0, mk_i1, mk_s1, mk_l, hd_p, hd_u, hd_i0, hd_b0, hd_s0, hd_i1, hd_b1, hd_s1, hd_l, mt_w_1_0_0, mt_w_1_0_1, mt_w_1_1, mt_w_1_2] at *
    try simp only [tDisk, tPut, tot_int] at *
    repeat' (first | intro _ | apply And.intro)
    all_goals grind [szf, cnt_mk, hd_mk]
  · subst hR0 hg_F_w_toPage hg_Q_w_toPage hg_F_w_eqPage hg_Q_w_eqPage hg_F_w_szPage hg_Q_w_szPage hg_F_w_markPage hg_B_w_markPage_a hg_Q_w_markPage hg_F_w_toDraft hg_Q_w_toDraft hg_F_w_eqDraft hg_Q_w_eqDraft hg_F_w_szDraft hg_Q_w_szDraft hg_F_w_markDraft hg_B_w_markDraft_a hg_Q_w_markDraft hg_F_w_eqDraftResult hg_Q_w_eqDraftResult hg_F_w_markDraftResult hg_B_w_markDraftResult_a hg_Q_w_markDraftResult hg_F_w_heldDraftResult hg_Q_w_heldDraftResult hg_F_s_PutPage hg_Q_s_PutPage hg_F_i_PutPage hg_Q_i_PutPage
    simp only [Lg.std, Alg.std, List.drop_zero, List.take_length, F_w_toPage, F_w_eqPage, F_w_szPage, F_w_markPage, F_w_toDraft, F_w_eqDraft, F_w_szDraft, F_w_markDraft, F_w_eqDraftResult, F_w_markDraftResult, F_w_heldDraftResult, F_s_PutPage, F_i_PutPage, B_w_markPage_a, B_w_markDraft_a, B_w_markDraftResult_a, Q_w_toPage, Q_w_eqPage, Q_w_szPage, Q_w_markPage, Q_w_toDraft, Q_w_eqDraft, Q_w_szDraft, Q_w_markDraft, Q_w_eqDraftResult, Q_w_markDraftResult, Q_w_heldDraftResult, Q_s_PutPage, Q_i_PutPage, F_w_FnExactPutPage]
    generalize hW : (putPage ((d_0_0, d_0_1, PUnit.unit), d_1, d_2, PUnit.unit) (p_0, p_1, p_2, PUnit.unit) : (Int) × (((List (List (Int))) × (List ((Int) × (List (Int)) × Unit)) × Unit) × (List (Int)) × (List (Int)) × Unit) × Unit) = w at *
    clear hW
    try simp only [tDisk, tPut, tot_int] at *
    simp only [tot_p, tot_u, tot_i, tot_b, tot_s, szf] at *
    repeat' (first | intro _ | apply And.intro)
    all_goals grind
def con_w_FnExactPutPage : Con := ⟨true, g2 (pD (.pair (.pair (.sl (.sl (.int .u8))) (.pair (.sl (.pair (.int .i64) (.pair (.sl (.int .u8)) .unit))) .unit)) (.pair (.sl (.int .i64)) (.pair (.sl (.int .i64)) .unit)))) (pD (.pair (.int .i64) (.pair (.int .i64) (.pair (.sl (.int .u8)) .unit)))) fun d p => ⟨[Q_w_FnExactPutPage d p], [⟨.bool, .sh, F_w_FnExactPutPage d p⟩], []⟩, []⟩
theorem ok_w_FnExactPutPage : ConOk pg 13 con_w_FnExactPutPage := ConOk.g2 (Enters.of (by kernel_rfl)) ct_w_FnExactPutPage
end Go.Vee
