/-
  Contracts of functions of the program: what each returns for all arguments that its precondition lets in.
-/
import Derived.Test.YtoomfdnohpkepaaVK13
set_option linter.unusedSimpArgs false
set_option linter.unusedVariables false
set_option maxRecDepth 100000
set_option maxHeartbeats 4000000
set_option synthInstance.maxHeartbeats 4000000
set_option synthInstance.maxSize 20000
namespace Go.Vee
open Go
abbrev zDraft : DraftT := (zDisk, [], [], ())
def startDraft (d : DiskT) (kept : List Int) : Int × DraftT × Unit := if draftFault (d, kept, [], ()) ≠ 0 then (draftFault (d, kept, [], ()), zDraft, ()) else (0, (d, kept, [], ()), ())
def freeL (k t : List Int) : Nat → Int → List Int
  | 0, _ => []
  | m + 1, n => if k.contains n = false ∧ t.contains n = false then n :: freeL k t m (n + 1) else freeL k t m (n + 1)
def freeOf (d : DraftT) : List Int := freeL d.2.1 d.2.2.1 (d.1.1.length - 2) 2
def freeIn (d : DraftT) : Int × List Int × Unit := if draftFault d ≠ 0 then (draftFault d, [], ()) else (0, freeOf d, ())
theorem freeL_step (k t : List Int) (L : Nat) (n : Int) (h0 : 0 ≤ n) (h : n < L) : freeL k t (L - n.toNat) n = if k.contains n = false ∧ t.contains n = false then n :: freeL k t (L - (n.toNat + 1)) (n + 1) else freeL k t (L - (n.toNat + 1)) (n + 1) := by
  have : L - n.toNat = (L - (n.toNat + 1)) + 1 := by omega
  rw [this]; rfl
theorem freeL_end (k t : List Int) (L : Nat) (n : Int) (h : (L : Int) ≤ n) : freeL k t (L - n.toNat) n = [] := by
  have : L - n.toNat = 0 := by omega
  rw [this]; rfl
theorem freeL_len (k t : List Int) : ∀ (m : Nat) (n : Int), (freeL k t m n).length ≤ m
  | 0, n => by simp [freeL]
  | m + 1, n => by
    have := freeL_len k t m (n + 1)
    unfold freeL
    split
    · simp; omega
    · omega
theorem draftFault_disk (d : DraftT) (h : draftFault d = 0) : diskFault d.1 = 0 := by
  unfold draftFault at h
  split at h
  · rename_i e; exact absurd h e
  · rename_i e; simpa using e
theorem startDraft_tot (d : DiskT) (kept : List Int) : tot (.pair (.pair (.sl (.sl (.int .u8))) (.pair (.sl (.pair (.int .i64) (.pair (.sl (.int .u8)) .unit))) .unit)) (.pair (.sl (.int .i64)) (.pair (.sl (.int .i64)) .unit))) (startDraft d kept).2.1 ≤ tot tDisk d + kept.length := by
  unfold startDraft
  split
  · simp [tot, totL]
  · simp only [tDisk, tPut, tot_p, tot_u, tot_int, List.length_nil]; omega
theorem freeIn_tot (d : DraftT) : (freeIn d).2.1.length ≤ tot (.pair (.pair (.sl (.sl (.int .u8))) (.pair (.sl (.pair (.int .i64) (.pair (.sl (.int .u8)) .unit))) .unit)) (.pair (.sl (.int .i64)) (.pair (.sl (.int .i64)) .unit))) d := by
  have hle : d.1.1.length ≤ tot (.sl (.sl (.int .u8))) d.1.1 := tot_len (.sl (.int .u8)) d.1.1
  simp only [tot_p, tot_u]
  refine Nat.le_trans (?_ : _ ≤ d.1.1.length) (by omega)
  unfold freeIn
  split
  · simp
  · have := freeL_len d.2.1 d.2.2.1 (d.1.1.length - 2) 2
    show (freeL _ _ _ _).length ≤ _
    omega

def F_s_l1Ints (l : List (Int)) : List (Int) := l
def Q_s_l1Ints (l : List (Int)) : Prop := l.length ≤ 1048576
def O_s_l1Ints : Opt := ⟨fun i => false, fun i => [], fun i => .done, fun i => none, fun i => false, fun i => []⟩
def τ_s_l1Ints : Env := Env.of [(2, (.int .i64)), (43, (.sl (.int .i64)))] [] []

theorem ct_s_l1Ints (l : List (Int)) : Ct pg 163 [.dat (.sl (.int .i64)) l] ⟨[Q_s_l1Ints l], [⟨(.sl (.int .i64)), (.ow .sh), F_s_l1Ints l⟩], []⟩ := by
  refine ct_claim (O := O_s_l1Ints) (τ := τ_s_l1Ints) (EnvOk.of (by kernel_rfl) (by kernel_rfl)) (GOk.of (.nil : AllOk pg [])) mixed (Enters.of (by kernel_rfl)) (fn := Go.Proofs.Try.f163) (by kernel_rfl) rfl (by kernel_rfl) ?_
  intro hp hw
  have hq : Q_s_l1Ints l := hp _ (List.mem_singleton.2 rfl)
  clear hp
  change claim Lg.std Alg.std τ_s_l1Ints (Gam.of []) O_s_l1Ints Go.Proofs.Try.f163 [.dat (.sl (.int .i64)) l] ⟨[Q_s_l1Ints l], [⟨(.sl (.int .i64)), (.ow .sh), F_s_l1Ints l⟩], []⟩
  generalize hR0 : F_s_l1Ints l = R0
  generalize Q_s_l1Ints l = Q0
  generalize hL : Lg.std = L
  generalize hA : Alg.std = A
  cbv
  subst hL hA
  try dsimp only [Ty.den]
  subst hR0
  simp only [Q_s_l1Ints] at hq
  simp only [Lg.std, Alg.std, List.drop_zero, List.take_length, F_s_l1Ints]
  all_goals grind
def con_s_l1Ints : Con := ⟨true, g1 (pD (.sl (.int .i64))) fun l => ⟨[Q_s_l1Ints l], [⟨(.sl (.int .i64)), (.ow .sh), F_s_l1Ints l⟩], []⟩, [], false, 0⟩
theorem ok_s_l1Ints : ConOk pg 163 con_s_l1Ints := ConOk.g1 (Enters.of (by kernel_rfl)) ct_s_l1Ints

def F_i_ownDraft (d : ((List (List (Int))) × (List ((Int) × (List (Int)) × Unit)) × Unit) × (List (Int)) × (List (Int)) × Unit) : ((List (List (Int))) × (List ((Int) × (List (Int)) × Unit)) × Unit) × (List (Int)) × (List (Int)) × Unit := d
def Q_i_ownDraft (d : ((List (List (Int))) × (List ((Int) × (List (Int)) × Unit)) × Unit) × (List (Int)) × (List (Int)) × Unit) : Prop := tot tDisk d.1 ≤ 1048576 ∧ d.2.1.length ≤ 1048576 ∧ d.2.2.1.length ≤ 1048576
def O_i_ownDraft : Opt := ⟨fun i => false, fun i => [], fun i => (match decide (i = 1) with | true => (.take 0 (.take 3 (.take 6 (.alt 1 (.alt 2 (.alt 4 (.alt 5 (.alt 7 (.alt 8 (.take 9 (.alt 10 (.take 11 .done) .no)) .no) .no) (.alt 7 (.alt 5 (.alt 8 (.take 9 (.alt 10 (.take 11 .done) .no)) .no) .no) .no)) (.alt 7 (.alt 4 (.alt 5 (.alt 8 (.take 9 (.alt 10 (.take 11 .done) .no)) .no) .no) .no) .no)) (.alt 4 (.alt 2 (.alt 5 (.alt 7 (.alt 8 (.take 9 (.alt 10 (.take 11 .done) .no)) .no) .no) (.alt 7 (.alt 5 (.alt 8 (.take 9 (.alt 10 (.take 11 .done) .no)) .no) .no) .no)) (.alt 7 (.alt 2 (.alt 5 (.alt 8 (.take 9 (.alt 10 (.take 11 .done) .no)) .no) .no) .no) .no)) (.alt 7 (.alt 2 (.alt 4 (.alt 5 (.alt 8 (.take 9 (.alt 10 (.take 11 .done) .no)) .no) .no) .no) (.alt 4 (.alt 2 (.alt 5 (.alt 8 (.take 9 (.alt 10 (.take 11 .done) .no)) .no) .no) .no) .no)) .no))) (.alt 4 (.alt 1 (.alt 2 (.alt 5 (.alt 7 (.alt 8 (.take 9 (.alt 10 (.take 11 .done) .no)) .no) .no) (.alt 7 (.alt 5 (.alt 8 (.take 9 (.alt 10 (.take 11 .done) .no)) .no) .no) .no)) (.alt 7 (.alt 2 (.alt 5 (.alt 8 (.take 9 (.alt 10 (.take 11 .done) .no)) .no) .no) .no) .no)) (.alt 7 (.alt 1 (.alt 2 (.alt 5 (.alt 8 (.take 9 (.alt 10 (.take 11 .done) .no)) .no) .no) .no) .no) .no)) (.alt 7 (.alt 1 (.alt 2 (.alt 4 (.alt 5 (.alt 8 (.take 9 (.alt 10 (.take 11 .done) .no)) .no) .no) .no) (.alt 4 (.alt 2 (.alt 5 (.alt 8 (.take 9 (.alt 10 (.take 11 .done) .no)) .no) .no) .no) .no)) (.alt 4 (.alt 1 (.alt 2 (.alt 5 (.alt 8 (.take 9 (.alt 10 (.take 11 .done) .no)) .no) .no) .no) .no) .no)) .no)))))) | false => .done), fun i => (match decide (i = 1) with | true => some [false, false, true, false, false, false, false, false, false, false, false, false, false, false] | false => none), fun i => false, fun i => []⟩
def τ_i_ownDraft : Env := Env.of [(2, (.int .i64)), (30, (.pair (.sl (.sl (.int .u8))) (.pair (.sl (.pair (.int .i64) (.pair (.sl (.int .u8)) .unit))) .unit))), (43, (.sl (.int .i64))), (56, (.pair (.pair (.sl (.sl (.int .u8))) (.pair (.sl (.pair (.int .i64) (.pair (.sl (.int .u8)) .unit))) .unit)) (.pair (.sl (.int .i64)) (.pair (.sl (.int .i64)) .unit))))] [(135, (.pair (.pair (.sl (.sl (.int .u8))) (.pair (.sl (.pair (.int .i64) (.pair (.sl (.int .u8)) .unit))) .unit)) (.pair (.sl (.int .i64)) (.pair (.sl (.int .i64)) .unit))))] []

theorem ct_i_ownDraft (d : ((List (List (Int))) × (List ((Int) × (List (Int)) × Unit)) × Unit) × (List (Int)) × (List (Int)) × Unit) : Ct pg 111 [.dat (.pair (.pair (.sl (.sl (.int .u8))) (.pair (.sl (.pair (.int .i64) (.pair (.sl (.int .u8)) .unit))) .unit)) (.pair (.sl (.int .i64)) (.pair (.sl (.int .i64)) .unit))) d] ⟨[Q_i_ownDraft d], [⟨(.pair (.pair (.sl (.sl (.int .u8))) (.pair (.sl (.pair (.int .i64) (.pair (.sl (.int .u8)) .unit))) .unit)) (.pair (.sl (.int .i64)) (.pair (.sl (.int .i64)) .unit))), (.np (.pr (.pr (.ow (.ow .sh)) (.pr (.ow (.pr .sh (.pr (.ow .sh) .sh))) .sh)) (.pr (.ow .sh) (.pr (.ow .sh) .sh)))), F_i_ownDraft d⟩], []⟩ := by
  refine ct_claim (O := O_i_ownDraft) (τ := τ_i_ownDraft) (EnvOk.of (by kernel_rfl) (by kernel_rfl)) (GOk.of (.cons ok_sl_Clone_int64 (.cons ok_i_ownDisk .nil) : AllOk pg [(159, con_sl_Clone_int64), (90, con_i_ownDisk)])) mixed (Enters.of (by kernel_rfl)) (fn := Go.Proofs.Try.f111) (by kernel_rfl) rfl (by kernel_rfl) ?_
  intro hp hw
  have hq : Q_i_ownDraft d := hp _ (List.mem_singleton.2 rfl)
  clear hp
  change claim Lg.std Alg.std τ_i_ownDraft (Gam.of [(159, ⟨true, g1 (pD (.sl (.int .i64))) fun s => ⟨[Q_sl_Clone_int64 s], [⟨(.sl (.int .i64)), (.ow .sh), F_sl_Clone_int64 s⟩], []⟩, [], false, 0⟩), (90, ⟨true, g1 (pD (.pair (.sl (.sl (.int .u8))) (.pair (.sl (.pair (.int .i64) (.pair (.sl (.int .u8)) .unit))) .unit))) fun d => ⟨[Q_i_ownDisk d], [⟨(.pair (.sl (.sl (.int .u8))) (.pair (.sl (.pair (.int .i64) (.pair (.sl (.int .u8)) .unit))) .unit)), (.pr (.ow (.ow .sh)) (.pr (.ow (.pr .sh (.pr (.ow .sh) .sh))) .sh)), F_i_ownDisk d⟩], []⟩, [], false, 0⟩)]) O_i_ownDraft Go.Proofs.Try.f111 [.dat (.pair (.pair (.sl (.sl (.int .u8))) (.pair (.sl (.pair (.int .i64) (.pair (.sl (.int .u8)) .unit))) .unit)) (.pair (.sl (.int .i64)) (.pair (.sl (.int .i64)) .unit))) d] ⟨[Q_i_ownDraft d], [⟨(.pair (.pair (.sl (.sl (.int .u8))) (.pair (.sl (.pair (.int .i64) (.pair (.sl (.int .u8)) .unit))) .unit)) (.pair (.sl (.int .i64)) (.pair (.sl (.int .i64)) .unit))), (.np (.pr (.pr (.ow (.ow .sh)) (.pr (.ow (.pr .sh (.pr (.ow .sh) .sh))) .sh)) (.pr (.ow .sh) (.pr (.ow .sh) .sh)))), F_i_ownDraft d⟩], []⟩
  generalize hg_F_sl_Clone_int64 : F_sl_Clone_int64 = g_F_sl_Clone_int64
  generalize hg_Q_sl_Clone_int64 : Q_sl_Clone_int64 = g_Q_sl_Clone_int64
  generalize hg_F_i_ownDisk : F_i_ownDisk = g_F_i_ownDisk
  generalize hg_Q_i_ownDisk : Q_i_ownDisk = g_Q_i_ownDisk
  generalize hR0 : F_i_ownDraft d = R0
  generalize Q_i_ownDraft d = Q0
  generalize hL : Lg.std = L
  generalize hA : Alg.std = A
  cbv
  subst hL hA
  try dsimp only [Ty.den]
  obtain ⟨⟨d_0_0, d_0_1, ⟨⟩⟩, d_1, d_2, ⟨⟩⟩ := d
  have hle1 := tot_len tPut d_0_1
  subst hR0 hg_F_sl_Clone_int64 hg_Q_sl_Clone_int64 hg_F_i_ownDisk hg_Q_i_ownDisk
  simp only [Q_i_ownDraft] at hq
  simp only [tot_p, tot_u, tot_int] at hq
  simp only [Lg.std, Alg.std, List.drop_zero, List.take_length, F_sl_Clone_int64, F_i_ownDisk, Q_sl_Clone_int64, Q_i_ownDisk, F_i_ownDraft] at *
  try simp only [true_and, and_true, false_implies, implies_true, imp_self]
  simp only [tot_p, tot_u, tot_int]
  repeat' (first | intro _ | apply And.intro)
  all_goals grind
def con_i_ownDraft : Con := ⟨true, g1 (pD (.pair (.pair (.sl (.sl (.int .u8))) (.pair (.sl (.pair (.int .i64) (.pair (.sl (.int .u8)) .unit))) .unit)) (.pair (.sl (.int .i64)) (.pair (.sl (.int .i64)) .unit)))) fun d => ⟨[Q_i_ownDraft d], [⟨(.pair (.pair (.sl (.sl (.int .u8))) (.pair (.sl (.pair (.int .i64) (.pair (.sl (.int .u8)) .unit))) .unit)) (.pair (.sl (.int .i64)) (.pair (.sl (.int .i64)) .unit))), (.np (.pr (.pr (.ow (.ow .sh)) (.pr (.ow (.pr .sh (.pr (.ow .sh) .sh))) .sh)) (.pr (.ow .sh) (.pr (.ow .sh) .sh)))), F_i_ownDraft d⟩], []⟩, [], false, 0⟩
theorem ok_i_ownDraft : ConOk pg 111 con_i_ownDraft := ConOk.g1 (Enters.of (by kernel_rfl)) ct_i_ownDraft

def F_s_l16Copy (d : ((List (List (Int))) × (List ((Int) × (List (Int)) × Unit)) × Unit) × (List (Int)) × (List (Int)) × Unit) : ((List (List (Int))) × (List ((Int) × (List (Int)) × Unit)) × Unit) × (List (Int)) × (List (Int)) × Unit := d
def Q_s_l16Copy (d : ((List (List (Int))) × (List ((Int) × (List (Int)) × Unit)) × Unit) × (List (Int)) × (List (Int)) × Unit) : Prop := tot tDisk d.1 ≤ 1048576 ∧ d.2.1.length ≤ 1048576 ∧ d.2.2.1.length ≤ 1048576
def O_s_l16Copy : Opt := ⟨fun i => false, fun i => [], fun i => (match decide (i = 1) with | true => (.take 0 (.take 1 (.take 2 (.take 4 (.take 5 (.take 6 (.take 9 (.take 10 (.take 11 (.alt 3 (.alt 7 (.alt 8 (.alt 12 (.alt 13 (.take 14 (.alt 15 .done .no)) .no) .no) (.alt 12 (.alt 8 (.alt 13 (.take 14 (.alt 15 .done .no)) .no) .no) .no)) (.alt 12 (.alt 7 (.alt 8 (.alt 13 (.take 14 (.alt 15 .done .no)) .no) .no) .no) .no)) (.alt 7 (.alt 3 (.alt 8 (.alt 12 (.alt 13 (.take 14 (.alt 15 .done .no)) .no) .no) (.alt 12 (.alt 8 (.alt 13 (.take 14 (.alt 15 .done .no)) .no) .no) .no)) (.alt 12 (.alt 3 (.alt 8 (.alt 13 (.take 14 (.alt 15 .done .no)) .no) .no) .no) .no)) (.alt 12 (.alt 3 (.alt 7 (.alt 8 (.alt 13 (.take 14 (.alt 15 .done .no)) .no) .no) .no) (.alt 7 (.alt 3 (.alt 8 (.alt 13 (.take 14 (.alt 15 .done .no)) .no) .no) .no) .no)) .no)))))))))))) | false => .done), fun i => (match decide (i = 1) with | true => some [false, false, true, false, false, false, false, false, false, false, false, false, false, false, false, false, false, false] | false => none), fun i => false, fun i => []⟩
def τ_s_l16Copy : Env := Env.of [(2, (.int .i64)), (30, (.pair (.sl (.sl (.int .u8))) (.pair (.sl (.pair (.int .i64) (.pair (.sl (.int .u8)) .unit))) .unit))), (43, (.sl (.int .i64))), (56, (.pair (.pair (.sl (.sl (.int .u8))) (.pair (.sl (.pair (.int .i64) (.pair (.sl (.int .u8)) .unit))) .unit)) (.pair (.sl (.int .i64)) (.pair (.sl (.int .i64)) .unit))))] [(114, (.pair (.sl (.sl (.int .u8))) (.pair (.sl (.pair (.int .i64) (.pair (.sl (.int .u8)) .unit))) .unit))), (135, (.pair (.pair (.sl (.sl (.int .u8))) (.pair (.sl (.pair (.int .i64) (.pair (.sl (.int .u8)) .unit))) .unit)) (.pair (.sl (.int .i64)) (.pair (.sl (.int .i64)) .unit))))] []

theorem ct_s_l16Copy (d : ((List (List (Int))) × (List ((Int) × (List (Int)) × Unit)) × Unit) × (List (Int)) × (List (Int)) × Unit) : Ct pg 110 [.dptr (.pair (.pair (.sl (.sl (.int .u8))) (.pair (.sl (.pair (.int .i64) (.pair (.sl (.int .u8)) .unit))) .unit)) (.pair (.sl (.int .i64)) (.pair (.sl (.int .i64)) .unit))) d] ⟨[Q_s_l16Copy d], [⟨(.pair (.pair (.sl (.sl (.int .u8))) (.pair (.sl (.pair (.int .i64) (.pair (.sl (.int .u8)) .unit))) .unit)) (.pair (.sl (.int .i64)) (.pair (.sl (.int .i64)) .unit))), (.pr (.pr (.ow (.ow .sh)) (.pr (.ow (.pr .sh (.pr (.ow .sh) .sh))) .sh)) (.pr (.ow .sh) (.pr (.ow .sh) .sh))), F_s_l16Copy d⟩], []⟩ := by
  refine ct_claim (O := O_s_l16Copy) (τ := τ_s_l16Copy) (EnvOk.of (by kernel_rfl) (by kernel_rfl)) (GOk.of (.cons ok_s_l14Copy (.cons ok_s_l1Ints .nil) : AllOk pg [(83, con_s_l14Copy), (163, con_s_l1Ints)])) mixed (Enters.of (by kernel_rfl)) (fn := Go.Proofs.Try.f110) (by kernel_rfl) rfl (by kernel_rfl) ?_
  intro hp hw
  have hq : Q_s_l16Copy d := hp _ (List.mem_singleton.2 rfl)
  clear hp
  change claim Lg.std Alg.std τ_s_l16Copy (Gam.of [(83, ⟨true, g1 (pP (.pair (.sl (.sl (.int .u8))) (.pair (.sl (.pair (.int .i64) (.pair (.sl (.int .u8)) .unit))) .unit))) fun d => ⟨[Q_s_l14Copy d], [⟨(.pair (.sl (.sl (.int .u8))) (.pair (.sl (.pair (.int .i64) (.pair (.sl (.int .u8)) .unit))) .unit)), (.pr (.ow (.ow .sh)) (.pr (.ow (.pr .sh (.pr (.ow .sh) .sh))) .sh)), F_s_l14Copy d⟩], []⟩, [], false, 0⟩), (163, ⟨true, g1 (pD (.sl (.int .i64))) fun l => ⟨[Q_s_l1Ints l], [⟨(.sl (.int .i64)), (.ow .sh), F_s_l1Ints l⟩], []⟩, [], false, 0⟩)]) O_s_l16Copy Go.Proofs.Try.f110 [.dptr (.pair (.pair (.sl (.sl (.int .u8))) (.pair (.sl (.pair (.int .i64) (.pair (.sl (.int .u8)) .unit))) .unit)) (.pair (.sl (.int .i64)) (.pair (.sl (.int .i64)) .unit))) d] ⟨[Q_s_l16Copy d], [⟨(.pair (.pair (.sl (.sl (.int .u8))) (.pair (.sl (.pair (.int .i64) (.pair (.sl (.int .u8)) .unit))) .unit)) (.pair (.sl (.int .i64)) (.pair (.sl (.int .i64)) .unit))), (.pr (.pr (.ow (.ow .sh)) (.pr (.ow (.pr .sh (.pr (.ow .sh) .sh))) .sh)) (.pr (.ow .sh) (.pr (.ow .sh) .sh))), F_s_l16Copy d⟩], []⟩
  generalize hg_F_s_l14Copy : F_s_l14Copy = g_F_s_l14Copy
  generalize hg_Q_s_l14Copy : Q_s_l14Copy = g_Q_s_l14Copy
  generalize hg_F_s_l1Ints : F_s_l1Ints = g_F_s_l1Ints
  generalize hg_Q_s_l1Ints : Q_s_l1Ints = g_Q_s_l1Ints
  generalize hR0 : F_s_l16Copy d = R0
  generalize Q_s_l16Copy d = Q0
  generalize hL : Lg.std = L
  generalize hA : Alg.std = A
  cbv
  subst hL hA
  try dsimp only [Ty.den]
  obtain ⟨⟨d_0_0, d_0_1, ⟨⟩⟩, d_1, d_2, ⟨⟩⟩ := d
  have hle1 := tot_len tPut d_0_1
  subst hR0 hg_F_s_l14Copy hg_Q_s_l14Copy hg_F_s_l1Ints hg_Q_s_l1Ints
  simp only [Q_s_l16Copy] at hq
  simp only [tot_p, tot_u, tot_int] at hq
  simp only [Lg.std, Alg.std, List.drop_zero, List.take_length, F_s_l14Copy, F_s_l1Ints, Q_s_l14Copy, Q_s_l1Ints, F_s_l16Copy] at *
  try simp only [true_and, and_true, false_implies, implies_true, imp_self]
  simp only [tot_p, tot_u, tot_int]
  repeat' (first | intro _ | apply And.intro)
  all_goals grind
def con_s_l16Copy : Con := ⟨true, g1 (pP (.pair (.pair (.sl (.sl (.int .u8))) (.pair (.sl (.pair (.int .i64) (.pair (.sl (.int .u8)) .unit))) .unit)) (.pair (.sl (.int .i64)) (.pair (.sl (.int .i64)) .unit)))) fun d => ⟨[Q_s_l16Copy d], [⟨(.pair (.pair (.sl (.sl (.int .u8))) (.pair (.sl (.pair (.int .i64) (.pair (.sl (.int .u8)) .unit))) .unit)) (.pair (.sl (.int .i64)) (.pair (.sl (.int .i64)) .unit))), (.pr (.pr (.ow (.ow .sh)) (.pr (.ow (.pr .sh (.pr (.ow .sh) .sh))) .sh)) (.pr (.ow .sh) (.pr (.ow .sh) .sh))), F_s_l16Copy d⟩], []⟩, [], false, 0⟩
theorem ok_s_l16Copy : ConOk pg 110 con_s_l16Copy := ConOk.g1 (Enters.of (by kernel_rfl)) ct_s_l16Copy

def F_i_Draft_free (d : ((List (List (Int))) × (List ((Int) × (List (Int)) × Unit)) × Unit) × (List (Int)) × (List (Int)) × Unit) : List (Int) := freeOf d
def Q_i_Draft_free (d : ((List (List (Int))) × (List ((Int) × (List (Int)) × Unit)) × Unit) × (List (Int)) × (List (Int)) × Unit) : Prop := d.1.1.length ≤ 1048576
def O_i_Draft_free : Opt := ⟨fun i => false, fun i => (match decide (i = 3) with | true => [true, false, false, true, true, false, false, false, false, false, false, false, false, false, false, false, false, false, false, false, false, false, false, false, false, false, false, false, false, false, false, false, false, false, false] | false => []), fun i => .done, fun i => none, fun i => (match decide (i = 3) with | true => true | false => false), fun i => []⟩
def τ_i_Draft_free : Env := Env.of [(2, (.int .i64)), (4, .bool), (30, (.pair (.sl (.sl (.int .u8))) (.pair (.sl (.pair (.int .i64) (.pair (.sl (.int .u8)) .unit))) .unit))), (43, (.sl (.int .i64))), (56, (.pair (.pair (.sl (.sl (.int .u8))) (.pair (.sl (.pair (.int .i64) (.pair (.sl (.int .u8)) .unit))) .unit)) (.pair (.sl (.int .i64)) (.pair (.sl (.int .i64)) .unit))))] [(135, (.pair (.pair (.sl (.sl (.int .u8))) (.pair (.sl (.pair (.int .i64) (.pair (.sl (.int .u8)) .unit))) .unit)) (.pair (.sl (.int .i64)) (.pair (.sl (.int .i64)) .unit))))] []

theorem ct_i_Draft_free (d : ((List (List (Int))) × (List ((Int) × (List (Int)) × Unit)) × Unit) × (List (Int)) × (List (Int)) × Unit) : Ct pg 108 [.dptr (.pair (.pair (.sl (.sl (.int .u8))) (.pair (.sl (.pair (.int .i64) (.pair (.sl (.int .u8)) .unit))) .unit)) (.pair (.sl (.int .i64)) (.pair (.sl (.int .i64)) .unit))) d] ⟨[Q_i_Draft_free d], [⟨(.sl (.int .i64)), (.ow .sh), F_i_Draft_free d⟩], []⟩ := by
  refine ct_claim (O := O_i_Draft_free) (τ := τ_i_Draft_free) (EnvOk.of (by kernel_rfl) (by kernel_rfl)) (GOk.of (.cons ok_sl_Contains_int64 (.cons ok_i_Disk_has .nil) : AllOk pg [(123, con_sl_Contains_int64), (122, con_i_Disk_has)])) mixed (Enters.of (by kernel_rfl)) (fn := Go.Proofs.Try.f108) (by kernel_rfl) rfl (by kernel_rfl) ?_
  intro hp hw
  have hq : Q_i_Draft_free d := hp _ (List.mem_singleton.2 rfl)
  clear hp
  change claim Lg.std Alg.std τ_i_Draft_free (Gam.of [(123, ⟨true, g2 (pD (.sl (.int .i64))) (pD (.int .i64)) fun a n => ⟨[Q_sl_Contains_int64 a n], [⟨.bool, .sh, F_sl_Contains_int64 a n⟩], []⟩, [], false, 0⟩), (122, ⟨true, g2 (pD (.pair (.sl (.sl (.int .u8))) (.pair (.sl (.pair (.int .i64) (.pair (.sl (.int .u8)) .unit))) .unit))) (pD (.int .i64)) fun d n => ⟨[Q_i_Disk_has d n], [⟨.bool, .sh, F_i_Disk_has d n⟩], []⟩, [], false, 0⟩)]) O_i_Draft_free Go.Proofs.Try.f108 [.dptr (.pair (.pair (.sl (.sl (.int .u8))) (.pair (.sl (.pair (.int .i64) (.pair (.sl (.int .u8)) .unit))) .unit)) (.pair (.sl (.int .i64)) (.pair (.sl (.int .i64)) .unit))) d] ⟨[Q_i_Draft_free d], [⟨(.sl (.int .i64)), (.ow .sh), F_i_Draft_free d⟩], []⟩
  generalize hg_F_sl_Contains_int64 : F_sl_Contains_int64 = g_F_sl_Contains_int64
  generalize hg_Q_sl_Contains_int64 : Q_sl_Contains_int64 = g_Q_sl_Contains_int64
  generalize hg_F_i_Disk_has : F_i_Disk_has = g_F_i_Disk_has
  generalize hg_Q_i_Disk_has : Q_i_Disk_has = g_Q_i_Disk_has
  generalize hR0 : F_i_Draft_free d = R0
  generalize Q_i_Draft_free d = Q0
  generalize hL : Lg.std = L
  generalize hA : Alg.std = A
  cbv
  subst hL hA
  try dsimp only [Ty.den]
  obtain ⟨⟨d_0_0, d_0_1, ⟨⟩⟩, d_1, d_2, ⟨⟩⟩ := d
  simp only [Q_i_Draft_free] at hq
  have hl0 := hw.1.1.1.1
  repeat' (first | intro _ | apply And.intro)
  all_goals first | trivial | ((fail_if_success (refine lp_v (V := Unit) (fun _ => ⟨[], []⟩) (fun _ => True) (fun _ => 0) () ?_ ?_ ?_)); subst hR0 hg_F_sl_Contains_int64 hg_Q_sl_Contains_int64 hg_F_i_Disk_has hg_Q_i_Disk_has; (try simp only [Alg.std, F_sl_Contains_int64, F_i_Disk_has, Q_sl_Contains_int64, Q_i_Disk_has, F_i_Draft_free] at *); all_goals grind) | skip
  refine lp_v (V := (Int) × (Nat) × (List Int)) (fun ((i, N, xs) : (Int) × (Nat) × (List Int)) => ⟨[.dptr (.pair (.pair (.sl (.sl (.int .u8))) (.pair (.sl (.pair (.int .i64) (.pair (.sl (.int .u8)) .unit))) .unit)) (.pair (.sl (.int .i64)) (.pair (.sl (.int .i64)) .unit))) ((d_0_0, d_0_1, PUnit.unit), d_1, d_2, PUnit.unit), .junk, .junk, .ref (.int .i64) 0 0 [] 0 N, .dat (.int .i64) i, .junk, .junk, .junk, .junk, .junk, .junk, .junk, .junk, .junk, .junk, .junk, .junk, .junk, .junk, .junk, .junk, .junk, .junk, .junk, .junk, .junk, .junk, .junk, .junk, .junk, .junk, .junk, .junk, .junk, .junk], [some (.row 0 (.int .i64) .sh xs)]⟩) (fun ((i, N, xs) : (Int) × (Nat) × (List Int)) => N = xs.length ∧ xs.length ≤ i ∧ 2 ≤ i ∧ (i ≤ d_0_0.length ∨ i = 2) ∧ xs ++ freeL d_1 d_2 (d_0_0.length - i.toNat) i = freeL d_1 d_2 (d_0_0.length - 2) 2) (fun ((i, N, xs) : (Int) × (Nat) × (List Int)) => d_0_0.length - i.toNat) (2, _, _) rfl ?_ ?_
  · subst hR0 hg_F_sl_Contains_int64 hg_Q_sl_Contains_int64 hg_F_i_Disk_has hg_Q_i_Disk_has
    (try simp only [Alg.std, F_sl_Contains_int64, F_i_Disk_has, Q_sl_Contains_int64, Q_i_Disk_has, F_i_Draft_free] at *)
    all_goals grind
  rintro ⟨i, N, xs⟩ hf I hI
  replace hf : N = xs.length ∧ xs.length ≤ i ∧ 2 ≤ i ∧ (i ≤ d_0_0.length ∨ i = 2) ∧ xs ++ freeL d_1 d_2 (d_0_0.length - i.toNat) i = freeL d_1 d_2 (d_0_0.length - 2) 2 := hf
  generalize hL : Lg.std = L
  generalize hA : Alg.std = A
  cbv
  subst hL hA
  try dsimp only [Ty.den]
  subst hI
  obtain ⟨h1, h2, h3, h4, h5⟩ := hf
  have hsp := fun (h : i < d_0_0.length) => freeL_step d_1 d_2 d_0_0.length i (by omega) h
  have hen := fun (h : (d_0_0.length : Int) ≤ i) => freeL_end d_1 d_2 d_0_0.length i h
  have hsu : (i + 1).toNat = i.toNat + 1 := by omega
  repeat' (first | intro _ | apply And.intro)
  all_goals first | (with_reducible exact True.intro) | ((fail_if_success (refine lp_v (V := Unit) (fun _ => ⟨[], []⟩) (fun _ => True) (fun _ => 0) () ?_ ?_ ?_)); (try simp only [Lg.std, Alg.std, List.drop_zero, List.take_length] at *); (try refine ⟨(_, _, _), rfl, ?_, ?_⟩); (all_goals (subst hR0 hg_F_sl_Contains_int64 hg_Q_sl_Contains_int64 hg_F_i_Disk_has hg_Q_i_Disk_has; (try simp only [Lg.std, Alg.std, List.drop_zero, List.take_length, F_sl_Contains_int64, F_i_Disk_has, Q_sl_Contains_int64, Q_i_Disk_has, F_i_Draft_free] at *); first | done | (grind [freeOf])))) | skip
def con_i_Draft_free : Con := ⟨true, g1 (pP (.pair (.pair (.sl (.sl (.int .u8))) (.pair (.sl (.pair (.int .i64) (.pair (.sl (.int .u8)) .unit))) .unit)) (.pair (.sl (.int .i64)) (.pair (.sl (.int .i64)) .unit)))) fun d => ⟨[Q_i_Draft_free d], [⟨(.sl (.int .i64)), (.ow .sh), F_i_Draft_free d⟩], []⟩, [], false, 0⟩
theorem ok_i_Draft_free : ConOk pg 108 con_i_Draft_free := ConOk.g1 (Enters.of (by kernel_rfl)) ct_i_Draft_free

def F_s_l16Free (d : ((List (List (Int))) × (List ((Int) × (List (Int)) × Unit)) × Unit) × (List (Int)) × (List (Int)) × Unit) : List (Int) := freeOf d
def Q_s_l16Free (d : ((List (List (Int))) × (List ((Int) × (List (Int)) × Unit)) × Unit) × (List (Int)) × (List (Int)) × Unit) : Prop := d.1.1.length ≤ 1048576
def O_s_l16Free : Opt := ⟨fun i => false, fun i => (match decide (i = 3) with | true => [true, false, false, true, true, false, false, false, false, false, false, false, false, false, false, false, false, false, false, false, false, false, false, false, false, false, false, false, false, false, false, false, false, false, false, false, false] | false => []), fun i => .done, fun i => none, fun i => (match decide (i = 3) with | true => true | false => false), fun i => []⟩
def τ_s_l16Free : Env := Env.of [(2, (.int .i64)), (3, (.int .i64)), (4, .bool), (22, (.sl (.sl (.int .u8)))), (30, (.pair (.sl (.sl (.int .u8))) (.pair (.sl (.pair (.int .i64) (.pair (.sl (.int .u8)) .unit))) .unit))), (43, (.sl (.int .i64))), (56, (.pair (.pair (.sl (.sl (.int .u8))) (.pair (.sl (.pair (.int .i64) (.pair (.sl (.int .u8)) .unit))) .unit)) (.pair (.sl (.int .i64)) (.pair (.sl (.int .i64)) .unit))))] [(135, (.pair (.pair (.sl (.sl (.int .u8))) (.pair (.sl (.pair (.int .i64) (.pair (.sl (.int .u8)) .unit))) .unit)) (.pair (.sl (.int .i64)) (.pair (.sl (.int .i64)) .unit))))] []

theorem ct_s_l16Free (d : ((List (List (Int))) × (List ((Int) × (List (Int)) × Unit)) × Unit) × (List (Int)) × (List (Int)) × Unit) : Ct pg 106 [.dptr (.pair (.pair (.sl (.sl (.int .u8))) (.pair (.sl (.pair (.int .i64) (.pair (.sl (.int .u8)) .unit))) .unit)) (.pair (.sl (.int .i64)) (.pair (.sl (.int .i64)) .unit))) d] ⟨[Q_s_l16Free d], [⟨(.sl (.int .i64)), (.ow .sh), F_s_l16Free d⟩], []⟩ := by
  refine ct_claim (O := O_s_l16Free) (τ := τ_s_l16Free) (EnvOk.of (by kernel_rfl) (by kernel_rfl)) (GOk.of (.cons ok_s_l1Has .nil : AllOk pg [(131, con_s_l1Has)])) mixed (Enters.of (by kernel_rfl)) (fn := Go.Proofs.Try.f106) (by kernel_rfl) rfl (by kernel_rfl) ?_
  intro hp hw
  have hq : Q_s_l16Free d := hp _ (List.mem_singleton.2 rfl)
  clear hp
  change claim Lg.std Alg.std τ_s_l16Free (Gam.of [(131, ⟨true, g2 (pD (.sl (.int .i64))) (pD (.int .i64)) fun a n => ⟨[Q_s_l1Has a n], [⟨.bool, .sh, F_s_l1Has a n⟩], []⟩, [], false, 0⟩)]) O_s_l16Free Go.Proofs.Try.f106 [.dptr (.pair (.pair (.sl (.sl (.int .u8))) (.pair (.sl (.pair (.int .i64) (.pair (.sl (.int .u8)) .unit))) .unit)) (.pair (.sl (.int .i64)) (.pair (.sl (.int .i64)) .unit))) d] ⟨[Q_s_l16Free d], [⟨(.sl (.int .i64)), (.ow .sh), F_s_l16Free d⟩], []⟩
  generalize hg_F_s_l1Has : F_s_l1Has = g_F_s_l1Has
  generalize hg_Q_s_l1Has : Q_s_l1Has = g_Q_s_l1Has
  generalize hR0 : F_s_l16Free d = R0
  generalize Q_s_l16Free d = Q0
  generalize hL : Lg.std = L
  generalize hA : Alg.std = A
  cbv
  subst hL hA
  try dsimp only [Ty.den]
  obtain ⟨⟨d_0_0, d_0_1, ⟨⟩⟩, d_1, d_2, ⟨⟩⟩ := d
  simp only [Q_s_l16Free] at hq
  have hl0 := hw.1.1.1.1
  repeat' (first | intro _ | apply And.intro)
  all_goals first | trivial | ((fail_if_success (refine lp_v (V := Unit) (fun _ => ⟨[], []⟩) (fun _ => True) (fun _ => 0) () ?_ ?_ ?_)); subst hR0 hg_F_s_l1Has hg_Q_s_l1Has; (try simp only [Alg.std, F_s_l1Has, Q_s_l1Has, F_s_l16Free] at *); all_goals grind) | skip
  refine lp_v (V := (Int) × (Nat) × (List Int)) (fun ((i, N, xs) : (Int) × (Nat) × (List Int)) => ⟨[.dptr (.pair (.pair (.sl (.sl (.int .u8))) (.pair (.sl (.pair (.int .i64) (.pair (.sl (.int .u8)) .unit))) .unit)) (.pair (.sl (.int .i64)) (.pair (.sl (.int .i64)) .unit))) ((d_0_0, d_0_1, PUnit.unit), d_1, d_2, PUnit.unit), .junk, .junk, .ref (.int .i64) 0 0 [] 0 N, .dat (.int .i64) i, .junk, .junk, .junk, .junk, .junk, .junk, .junk, .junk, .junk, .junk, .junk, .junk, .junk, .junk, .junk, .junk, .junk, .junk, .junk, .junk, .junk, .junk, .junk, .junk, .junk, .junk, .junk, .junk, .junk, .junk, .junk, .junk], [some (.row 0 (.int .i64) .sh xs)]⟩) (fun ((i, N, xs) : (Int) × (Nat) × (List Int)) => N = xs.length ∧ xs.length ≤ i ∧ 2 ≤ i ∧ (i ≤ d_0_0.length ∨ i = 2) ∧ xs ++ freeL d_1 d_2 (d_0_0.length - i.toNat) i = freeL d_1 d_2 (d_0_0.length - 2) 2) (fun ((i, N, xs) : (Int) × (Nat) × (List Int)) => d_0_0.length - i.toNat) (2, _, _) rfl ?_ ?_
  · subst hR0 hg_F_s_l1Has hg_Q_s_l1Has
    (try simp only [Alg.std, F_s_l1Has, Q_s_l1Has, F_s_l16Free] at *)
    all_goals grind
  rintro ⟨i, N, xs⟩ hf I hI
  replace hf : N = xs.length ∧ xs.length ≤ i ∧ 2 ≤ i ∧ (i ≤ d_0_0.length ∨ i = 2) ∧ xs ++ freeL d_1 d_2 (d_0_0.length - i.toNat) i = freeL d_1 d_2 (d_0_0.length - 2) 2 := hf
  generalize hL : Lg.std = L
  generalize hA : Alg.std = A
  cbv
  subst hL hA
  try dsimp only [Ty.den]
  subst hI
  obtain ⟨h1, h2, h3, h4, h5⟩ := hf
  have hsp := fun (h : i < d_0_0.length) => freeL_step d_1 d_2 d_0_0.length i (by omega) h
  have hen := fun (h : (d_0_0.length : Int) ≤ i) => freeL_end d_1 d_2 d_0_0.length i h
  have hsu : (i + 1).toNat = i.toNat + 1 := by omega
  repeat' (first | intro _ | apply And.intro)
  all_goals first | (with_reducible exact True.intro) | ((fail_if_success (refine lp_v (V := Unit) (fun _ => ⟨[], []⟩) (fun _ => True) (fun _ => 0) () ?_ ?_ ?_)); (try simp only [Lg.std, Alg.std, List.drop_zero, List.take_length] at *); (try refine ⟨(_, _, _), rfl, ?_, ?_⟩); (all_goals (subst hR0 hg_F_s_l1Has hg_Q_s_l1Has; (try simp only [Lg.std, Alg.std, List.drop_zero, List.take_length, F_s_l1Has, Q_s_l1Has, F_s_l16Free] at *); first | done | (grind [freeOf])))) | skip
def con_s_l16Free : Con := ⟨true, g1 (pP (.pair (.pair (.sl (.sl (.int .u8))) (.pair (.sl (.pair (.int .i64) (.pair (.sl (.int .u8)) .unit))) .unit)) (.pair (.sl (.int .i64)) (.pair (.sl (.int .i64)) .unit)))) fun d => ⟨[Q_s_l16Free d], [⟨(.sl (.int .i64)), (.ow .sh), F_s_l16Free d⟩], []⟩, [], false, 0⟩
theorem ok_s_l16Free : ConOk pg 106 con_s_l16Free := ConOk.g1 (Enters.of (by kernel_rfl)) ct_s_l16Free
end Go.Vee
