/-
  Contracts of functions of the program: what each returns for all arguments that its precondition lets in.
-/
import Derived.Test.YtoomfdnohpkepaaVK13
set_option linter.unusedSimpArgs false
set_option linter.unusedVariables false
set_option maxRecDepth 100000
set_option maxHeartbeats 4000000
set_option synthInstance.maxHeartbeats 4000000
set_option synthInstance.maxSize 20000
namespace Go.Vee
open Go
abbrev zDraft : DraftT := (zDisk, [], [], ())
def startDraft (d : DiskT) (kept : List Int) : Int × DraftT × Unit := if draftFault (d, kept, [], ()) ≠ 0 then (draftFault (d, kept, [], ()), zDraft, ()) else (0, (d, kept, [], ()), ())
def freeL (k t : List Int) : Nat → Int → List Int
  | 0, _ => []
  | m + 1, n => if k.contains n = false ∧ t.contains n = false then n :: freeL k t m (n + 1) else freeL k t m (n + 1)
def freeOf (d : DraftT) : List Int := freeL d.2.1 d.2.2.1 (d.1.1.length - 2) 2
def freeIn (d : DraftT) : Int × List Int × Unit := if draftFault d ≠ 0 then (draftFault d, [], ()) else (0, freeOf d, ())
theorem freeL_step (k t : List Int) (L : Nat) (n : Int) (h0 : 0 ≤ n) (h : n < L) : freeL k t (L - n.toNat) n = if k.contains n = false ∧ t.contains n = false then n :: freeL k t (L - (n.toNat + 1)) (n + 1) else freeL k t (L - (n.toNat + 1)) (n + 1) := by
  have : L - n.toNat = (L - (n.toNat + 1)) + 1 := by omega
  rw [this]; rfl
theorem freeL_end (k t : List Int) (L : Nat) (n : Int) (h : (L : Int) ≤ n) : freeL k t (L - n.toNat) n = [] := by
  have : L - n.toNat = 0 := by omega
  rw [this]; rfl
theorem freeL_len (k t : List Int) : ∀ (m : Nat) (n : Int), (freeL k t m n).length ≤ m
  | 0, n => by simp [freeL]
  | m + 1, n => by
    have := freeL_len k t m (n + 1)
    unfold freeL
    split
    · simp; omega
    · omega
theorem draftFault_disk (d : DraftT) (h : draftFault d = 0) : diskFault d.1 = 0 := by
  unfold draftFault at h
  split at h
  · rename_i e; exact absurd h e
  · rename_i e; simpa using e
theorem startDraft_tot (d : DiskT) (kept : List Int) : tot (.pair (.pair (.sl (.sl (.int .u8))) (.pair (.sl (.pair (.int .i64) (.pair (.sl (.int .u8)) .unit))) .unit)) (.pair (.sl (.int .i64)) (.pair (.sl (.int .i64)) .unit))) (startDraft d kept).2.1 ≤ tot tDisk d + kept.length := by
  unfold startDraft
  split
  · simp [tot, totL]
  · simp only [tDisk, tPut, tot_p, tot_u, tot_int, List.length_nil]; omega
theorem freeIn_tot (d : DraftT) : (freeIn d).2.1.length ≤ tot (.pair (.pair (.sl (.sl (.int .u8))) (.pair (.sl (.pair (.int .i64) (.pair (.sl (.int .u8)) .unit))) .unit)) (.pair (.sl (.int .i64)) (.pair (.sl (.int .i64)) .unit))) d := by
  have hle : d.1.1.length ≤ tot (.sl (.sl (.int .u8))) d.1.1 := tot_len (.sl (.int .u8)) d.1.1
  simp only [tot_p, tot_u]
  refine Nat.le_trans (?_ : _ ≤ d.1.1.length) (by omega)
  unfold freeIn
  split
  · simp
  · have := freeL_len d.2.1 d.2.2.1 (d.1.1.length - 2) 2
    show (freeL _ _ _ _).length ≤ _
    omega

def F_w_eqIntsResult (a : (Int) × (List (Int)) × Unit) (b : (Int) × (List (Int)) × Unit) : Bool := decide (a = b)
def Q_w_eqIntsResult (a : (Int) × (List (Int)) × Unit) (b : (Int) × (List (Int)) × Unit) : Prop := True
def O_w_eqIntsResult : Opt := ⟨fun i => false, fun i => [], fun i => .done, fun i => none, fun i => false, fun i => []⟩
def τ_w_eqIntsResult : Env := Env.of [(2, (.int .i64)), (4, .bool), (43, (.sl (.int .i64))), (53, (.pair (.int .i64) (.pair (.sl (.int .i64)) .unit)))] [] []

theorem ct_w_eqIntsResult (a : (Int) × (List (Int)) × Unit) (b : (Int) × (List (Int)) × Unit) : Ct pg 35 [.dat (.pair (.int .i64) (.pair (.sl (.int .i64)) .unit)) a, .dat (.pair (.int .i64) (.pair (.sl (.int .i64)) .unit)) b] ⟨[Q_w_eqIntsResult a b], [⟨.bool, .sh, F_w_eqIntsResult a b⟩], []⟩ := by
  refine ct_claim (O := O_w_eqIntsResult) (τ := τ_w_eqIntsResult) (EnvOk.of (by kernel_rfl) (by kernel_rfl)) (GOk.of (.cons ok_w_eqInt64S .nil : AllOk pg [(29, con_w_eqInt64S)])) mixed (Enters.of (by kernel_rfl)) (fn := Go.Proofs.Try.f35) (by kernel_rfl) rfl (by kernel_rfl) ?_
  intro hp hw
  have hq : Q_w_eqIntsResult a b := hp _ (List.mem_singleton.2 rfl)
  clear hp
  change claim Lg.std Alg.std τ_w_eqIntsResult (Gam.of [(29, ⟨true, g2 (pD (.sl (.int .i64))) (pD (.sl (.int .i64))) fun a b => ⟨[Q_w_eqInt64S a b], [⟨.bool, .sh, F_w_eqInt64S a b⟩], []⟩, []⟩)]) O_w_eqIntsResult Go.Proofs.Try.f35 [.dat (.pair (.int .i64) (.pair (.sl (.int .i64)) .unit)) a, .dat (.pair (.int .i64) (.pair (.sl (.int .i64)) .unit)) b] ⟨[Q_w_eqIntsResult a b], [⟨.bool, .sh, F_w_eqIntsResult a b⟩], []⟩
  generalize hg_F_w_eqInt64S : F_w_eqInt64S = g_F_w_eqInt64S
  generalize hg_Q_w_eqInt64S : Q_w_eqInt64S = g_Q_w_eqInt64S
  generalize hR0 : F_w_eqIntsResult a b = R0
  generalize Q_w_eqIntsResult a b = Q0
  generalize hL : Lg.std = L
  generalize hA : Alg.std = A
  cbv
  subst hL hA
  try dsimp only [Ty.den]
  obtain ⟨f0, f1, ⟨⟩⟩ := a
  obtain ⟨g0, g1, ⟨⟩⟩ := b
  subst hR0 hg_F_w_eqInt64S hg_Q_w_eqInt64S
  simp only [Q_w_eqIntsResult] at hq
  simp only [Lg.std, Alg.std, List.drop_zero, List.take_length, F_w_eqInt64S, Q_w_eqInt64S, F_w_eqIntsResult]
  all_goals grind
def con_w_eqIntsResult : Con := ⟨true, g2 (pD (.pair (.int .i64) (.pair (.sl (.int .i64)) .unit))) (pD (.pair (.int .i64) (.pair (.sl (.int .i64)) .unit))) fun a b => ⟨[Q_w_eqIntsResult a b], [⟨.bool, .sh, F_w_eqIntsResult a b⟩], []⟩, []⟩
theorem ok_w_eqIntsResult : ConOk pg 35 con_w_eqIntsResult := ConOk.g2 (Enters.of (by kernel_rfl)) ct_w_eqIntsResult

def F_w_markIntsResult (a : (Int) × (List (Int)) × Unit) (k : Int) : Int := k + cnt false (.pair (.int .i64) (.pair (.sl (.int .i64)) .unit)) a
def B_w_markIntsResult_a (a : (Int) × (List (Int)) × Unit) (k : Int) : (Int) × (List (Int)) × Unit := mk false (.pair (.int .i64) (.pair (.sl (.int .i64)) .unit)) a k
def Q_w_markIntsResult (a : (Int) × (List (Int)) × Unit) (k : Int) : Prop := 0 ≤ k ∧ k + cnt false (.pair (.int .i64) (.pair (.sl (.int .i64)) .unit)) a ≤ 4611686018427387904
def O_w_markIntsResult : Opt := ⟨fun i => false, fun i => [], fun i => .done, fun i => none, fun i => false, fun i => []⟩
def τ_w_markIntsResult : Env := Env.of [(3, (.int .i64)), (4, .bool), (43, (.sl (.int .i64))), (53, (.pair (.int .i64) (.pair (.sl (.int .i64)) .unit)))] [] []

theorem ct_w_markIntsResult (a : (Int) × (List (Int)) × Unit) (k : Int) : Ct pg 38 [.mv (.pair (.int .i64) (.pair (.sl (.int .i64)) .unit)) (.pr .sh (.pr (.ow .sh) .sh)) a, .dat (.int .i64) k] ⟨[Q_w_markIntsResult a k], [⟨(.int .i64), .sh, F_w_markIntsResult a k⟩], [.mv (.pair (.int .i64) (.pair (.sl (.int .i64)) .unit)) (.pr .sh (.pr (.ow .sh) .sh)) (B_w_markIntsResult_a a k)]⟩ := by
  refine ct_claim (O := O_w_markIntsResult) (τ := τ_w_markIntsResult) (EnvOk.of (by kernel_rfl) (by kernel_rfl)) (GOk.of (.cons ok_w_markInt64S .nil : AllOk pg [(30, con_w_markInt64S)])) mixed (Enters.of (by kernel_rfl)) (fn := Go.Proofs.Try.f38) (by kernel_rfl) rfl (by kernel_rfl) ?_
  intro hp hw
  have hq : Q_w_markIntsResult a k := hp _ (List.mem_singleton.2 rfl)
  clear hp
  change claim Lg.std Alg.std τ_w_markIntsResult (Gam.of [(30, ⟨true, g2 (pV (.sl (.int .i64)) (.ow .sh)) (pD (.int .i64)) fun a k => ⟨[Q_w_markInt64S a k], [⟨(.int .i64), .sh, F_w_markInt64S a k⟩], [.mv (.sl (.int .i64)) (.ow .sh) (B_w_markInt64S_a a k)]⟩, [(.ow .sh)]⟩)]) O_w_markIntsResult Go.Proofs.Try.f38 [.mv (.pair (.int .i64) (.pair (.sl (.int .i64)) .unit)) (.pr .sh (.pr (.ow .sh) .sh)) a, .dat (.int .i64) k] ⟨[Q_w_markIntsResult a k], [⟨(.int .i64), .sh, F_w_markIntsResult a k⟩], [.mv (.pair (.int .i64) (.pair (.sl (.int .i64)) .unit)) (.pr .sh (.pr (.ow .sh) .sh)) (B_w_markIntsResult_a a k)]⟩
  generalize hg_F_w_markInt64S : F_w_markInt64S = g_F_w_markInt64S
  generalize hg_B_w_markInt64S_a : B_w_markInt64S_a = g_B_w_markInt64S_a
  generalize hg_Q_w_markInt64S : Q_w_markInt64S = g_Q_w_markInt64S
  generalize hR0 : F_w_markIntsResult a k = R0
  generalize hB_a : B_w_markIntsResult_a a k = B_a
  generalize Q_w_markIntsResult a k = Q0
  generalize hL : Lg.std = L
  generalize hA : Alg.std = A
  cbv
  subst hL hA
  try dsimp only [Ty.den]
  obtain ⟨f0, f1, ⟨⟩⟩ := a
  simp only [Q_w_markIntsResult] at hq
  subst hR0 hB_a hg_F_w_markInt64S hg_B_w_markInt64S_a hg_Q_w_markInt64S
  simp only [Lg.std, Alg.std, List.drop_zero, List.take_length, F_w_markInt64S, B_w_markInt64S_a, Q_w_markInt64S, F_w_markIntsResult, B_w_markIntsResult_a, szf, tot_p, tot_u, tot_i, tot_b, tot_s, cnt_p, cnt_u, cnt_i0, cnt_b0, cnt_s0, cnt_i1, cnt_b1, cnt_s1, cnt_l, mk_p, mk_u, mk_i0, mk_b0, mk_s0, mk_i1, mk_s1, mk_l, hd_p, hd_u, hd_i0, hd_b0, hd_s0, hd_i1, hd_b1, hd_s1, hd_l] at *
  all_goals grind [mk_len]
def con_w_markIntsResult : Con := ⟨true, g2 (pV (.pair (.int .i64) (.pair (.sl (.int .i64)) .unit)) (.pr .sh (.pr (.ow .sh) .sh))) (pD (.int .i64)) fun a k => ⟨[Q_w_markIntsResult a k], [⟨(.int .i64), .sh, F_w_markIntsResult a k⟩], [.mv (.pair (.int .i64) (.pair (.sl (.int .i64)) .unit)) (.pr .sh (.pr (.ow .sh) .sh)) (B_w_markIntsResult_a a k)]⟩, [(.pr .sh (.pr (.ow .sh) .sh))]⟩
theorem ok_w_markIntsResult : ConOk pg 38 con_w_markIntsResult := ConOk.g2 (Enters.of (by kernel_rfl)) ct_w_markIntsResult

def F_w_heldIntsResult (a : (Int) × (List (Int)) × Unit) (k : Int) : Int := hd false (.pair (.int .i64) (.pair (.sl (.int .i64)) .unit)) a k
def Q_w_heldIntsResult (a : (Int) × (List (Int)) × Unit) (k : Int) : Prop := 0 ≤ k ∧ k + cnt false (.pair (.int .i64) (.pair (.sl (.int .i64)) .unit)) a ≤ 4611686018427387904
def O_w_heldIntsResult : Opt := ⟨fun i => false, fun i => [], fun i => .done, fun i => none, fun i => false, fun i => []⟩
def τ_w_heldIntsResult : Env := Env.of [(3, (.int .i64)), (4, .bool), (43, (.sl (.int .i64))), (53, (.pair (.int .i64) (.pair (.sl (.int .i64)) .unit)))] [] []

theorem ct_w_heldIntsResult (a : (Int) × (List (Int)) × Unit) (k : Int) : Ct pg 39 [.dat (.pair (.int .i64) (.pair (.sl (.int .i64)) .unit)) a, .dat (.int .i64) k] ⟨[Q_w_heldIntsResult a k], [⟨(.int .i64), .sh, F_w_heldIntsResult a k⟩], []⟩ := by
  refine ct_claim (O := O_w_heldIntsResult) (τ := τ_w_heldIntsResult) (EnvOk.of (by kernel_rfl) (by kernel_rfl)) (GOk.of (.cons ok_w_heldInt64S .nil : AllOk pg [(109, con_w_heldInt64S)])) mixed (Enters.of (by kernel_rfl)) (fn := Go.Proofs.Try.f39) (by kernel_rfl) rfl (by kernel_rfl) ?_
  intro hp hw
  have hq : Q_w_heldIntsResult a k := hp _ (List.mem_singleton.2 rfl)
  clear hp
  change claim Lg.std Alg.std τ_w_heldIntsResult (Gam.of [(109, ⟨true, g2 (pD (.sl (.int .i64))) (pD (.int .i64)) fun a k => ⟨[Q_w_heldInt64S a k], [⟨(.int .i64), .sh, F_w_heldInt64S a k⟩], []⟩, []⟩)]) O_w_heldIntsResult Go.Proofs.Try.f39 [.dat (.pair (.int .i64) (.pair (.sl (.int .i64)) .unit)) a, .dat (.int .i64) k] ⟨[Q_w_heldIntsResult a k], [⟨(.int .i64), .sh, F_w_heldIntsResult a k⟩], []⟩
  generalize hg_F_w_heldInt64S : F_w_heldInt64S = g_F_w_heldInt64S
  generalize hg_Q_w_heldInt64S : Q_w_heldInt64S = g_Q_w_heldInt64S
  generalize hR0 : F_w_heldIntsResult a k = R0
  generalize Q_w_heldIntsResult a k = Q0
  generalize hL : Lg.std = L
  generalize hA : Alg.std = A
  cbv
  subst hL hA
  try dsimp only [Ty.den]
  obtain ⟨f0, f1, ⟨⟩⟩ := a
  have ho1 := fun k h => hd_or false (.sl (.int .i64)) f1 k h
  simp only [Q_w_heldIntsResult] at hq
  subst hR0 hg_F_w_heldInt64S hg_Q_w_heldInt64S
  simp only [Lg.std, Alg.std, List.drop_zero, List.take_length, F_w_heldInt64S, Q_w_heldInt64S, F_w_heldIntsResult, szf, tot_p, tot_u, tot_i, tot_b, tot_s, cnt_p, cnt_u, cnt_i0, cnt_b0, cnt_s0, cnt_i1, cnt_b1, cnt_s1, cnt_l, mk_p, mk_u, mk_i0, mk_b0, mk_s0, mk_i1, mk_s1, mk_l, hd_p, hd_u, hd_i0, hd_b0, hd_s0, hd_i1, hd_b1, hd_s1, hd_l] at *
  all_goals grind [mk_len]
def con_w_heldIntsResult : Con := ⟨true, g2 (pD (.pair (.int .i64) (.pair (.sl (.int .i64)) .unit))) (pD (.int .i64)) fun a k => ⟨[Q_w_heldIntsResult a k], [⟨(.int .i64), .sh, F_w_heldIntsResult a k⟩], []⟩, []⟩
theorem ok_w_heldIntsResult : ConOk pg 39 con_w_heldIntsResult := ConOk.g2 (Enters.of (by kernel_rfl)) ct_w_heldIntsResult

def F_i_Draft_free (d : ((List (List (Int))) × (List ((Int) × (List (Int)) × Unit)) × Unit) × (List (Int)) × (List (Int)) × Unit) : List (Int) := freeOf d
def Q_i_Draft_free (d : ((List (List (Int))) × (List ((Int) × (List (Int)) × Unit)) × Unit) × (List (Int)) × (List (Int)) × Unit) : Prop := d.1.1.length ≤ 1048576
def O_i_Draft_free : Opt := ⟨fun i => false, fun i => (match decide (i = 3) with | true => [true, false, false, true, true, false, false, false, false, false, false, false, false, false, false, false, false, false, false, false, false, false, false, false, false, false, false, false, false, false, false, false, false, false, false] | false => []), fun i => .done, fun i => none, fun i => (match decide (i = 3) with | true => true | false => false), fun i => []⟩
def τ_i_Draft_free : Env := Env.of [(2, (.int .i64)), (4, .bool), (30, (.pair (.sl (.sl (.int .u8))) (.pair (.sl (.pair (.int .i64) (.pair (.sl (.int .u8)) .unit))) .unit))), (43, (.sl (.int .i64))), (56, (.pair (.pair (.sl (.sl (.int .u8))) (.pair (.sl (.pair (.int .i64) (.pair (.sl (.int .u8)) .unit))) .unit)) (.pair (.sl (.int .i64)) (.pair (.sl (.int .i64)) .unit))))] [(135, (.pair (.pair (.sl (.sl (.int .u8))) (.pair (.sl (.pair (.int .i64) (.pair (.sl (.int .u8)) .unit))) .unit)) (.pair (.sl (.int .i64)) (.pair (.sl (.int .i64)) .unit))))] []

theorem ct_i_Draft_free (d : ((List (List (Int))) × (List ((Int) × (List (Int)) × Unit)) × Unit) × (List (Int)) × (List (Int)) × Unit) : Ct pg 108 [.dptr (.pair (.pair (.sl (.sl (.int .u8))) (.pair (.sl (.pair (.int .i64) (.pair (.sl (.int .u8)) .unit))) .unit)) (.pair (.sl (.int .i64)) (.pair (.sl (.int .i64)) .unit))) d] ⟨[Q_i_Draft_free d], [⟨(.sl (.int .i64)), (.ow .sh), F_i_Draft_free d⟩], []⟩ := by
  refine ct_claim (O := O_i_Draft_free) (τ := τ_i_Draft_free) (EnvOk.of (by kernel_rfl) (by kernel_rfl)) (GOk.of (.cons ok_sl_Contains_int64 (.cons ok_i_Disk_has .nil) : AllOk pg [(123, con_sl_Contains_int64), (122, con_i_Disk_has)])) mixed (Enters.of (by kernel_rfl)) (fn := Go.Proofs.Try.f108) (by kernel_rfl) rfl (by kernel_rfl) ?_
  intro hp hw
  have hq : Q_i_Draft_free d := hp _ (List.mem_singleton.2 rfl)
  clear hp
  change claim Lg.std Alg.std τ_i_Draft_free (Gam.of [(123, ⟨true, g2 (pD (.sl (.int .i64))) (pD (.int .i64)) fun a n => ⟨[Q_sl_Contains_int64 a n], [⟨.bool, .sh, F_sl_Contains_int64 a n⟩], []⟩, []⟩), (122, ⟨true, g2 (pD (.pair (.sl (.sl (.int .u8))) (.pair (.sl (.pair (.int .i64) (.pair (.sl (.int .u8)) .unit))) .unit))) (pD (.int .i64)) fun d n => ⟨[Q_i_Disk_has d n], [⟨.bool, .sh, F_i_Disk_has d n⟩], []⟩, []⟩)]) O_i_Draft_free Go.Proofs.Try.f108 [.dptr (.pair (.pair (.sl (.sl (.int .u8))) (.pair (.sl (.pair (.int .i64) (.pair (.sl (.int .u8)) .unit))) .unit)) (.pair (.sl (.int .i64)) (.pair (.sl (.int .i64)) .unit))) d] ⟨[Q_i_Draft_free d], [⟨(.sl (.int .i64)), (.ow .sh), F_i_Draft_free d⟩], []⟩
  generalize hg_F_sl_Contains_int64 : F_sl_Contains_int64 = g_F_sl_Contains_int64
  generalize hg_Q_sl_Contains_int64 : Q_sl_Contains_int64 = g_Q_sl_Contains_int64
  generalize hg_F_i_Disk_has : F_i_Disk_has = g_F_i_Disk_has
  generalize hg_Q_i_Disk_has : Q_i_Disk_has = g_Q_i_Disk_has
  generalize hR0 : F_i_Draft_free d = R0
  generalize Q_i_Draft_free d = Q0
  generalize hL : Lg.std = L
  generalize hA : Alg.std = A
  cbv
  subst hL hA
  try dsimp only [Ty.den]
  obtain ⟨⟨d_0_0, d_0_1, ⟨⟩⟩, d_1, d_2, ⟨⟩⟩ := d
  simp only [Q_i_Draft_free] at hq
  have hl0 := hw.1.1.1.1
  repeat' (first | intro _ | apply And.intro)
  all_goals first | trivial | ((fail_if_success (refine lp_v (V := Unit) (fun _ => ⟨[], []⟩) (fun _ => True) (fun _ => 0) () ?_ ?_ ?_)); subst hR0 hg_F_sl_Contains_int64 hg_Q_sl_Contains_int64 hg_F_i_Disk_has hg_Q_i_Disk_has; (try simp only [Alg.std, F_sl_Contains_int64, F_i_Disk_has, Q_sl_Contains_int64, Q_i_Disk_has, F_i_Draft_free] at *); all_goals grind) | skip
  refine lp_v (V := (Int) × (Nat) × (List Int)) (fun ((i, N, xs) : (Int) × (Nat) × (List Int)) => ⟨[.dptr (.pair (.pair (.sl (.sl (.int .u8))) (.pair (.sl (.pair (.int .i64) (.pair (.sl (.int .u8)) .unit))) .unit)) (.pair (.sl (.int .i64)) (.pair (.sl (.int .i64)) .unit))) ((d_0_0, d_0_1, PUnit.unit), d_1, d_2, PUnit.unit), .junk, .junk, .ref (.int .i64) 0 0 [] 0 N, .dat (.int .i64) i, .junk, .junk, .junk, .junk, .junk, .junk, .junk, .junk, .junk, .junk, .junk, .junk, .junk, .junk, .junk, .junk, .junk, .junk, .junk, .junk, .junk, .junk, .junk, .junk, .junk, .junk, .junk, .junk, .junk, .junk], [some (.row 0 (.int .i64) .sh xs)]⟩) (fun ((i, N, xs) : (Int) × (Nat) × (List Int)) => N = xs.length ∧ xs.length ≤ i ∧ 2 ≤ i ∧ (i ≤ d_0_0.length ∨ i = 2) ∧ xs ++ freeL d_1 d_2 (d_0_0.length - i.toNat) i = freeL d_1 d_2 (d_0_0.length - 2) 2) (fun ((i, N, xs) : (Int) × (Nat) × (List Int)) => d_0_0.length - i.toNat) (2, _, _) rfl ?_ ?_
  · subst hR0 hg_F_sl_Contains_int64 hg_Q_sl_Contains_int64 hg_F_i_Disk_has hg_Q_i_Disk_has
    (try simp only [Alg.std, F_sl_Contains_int64, F_i_Disk_has, Q_sl_Contains_int64, Q_i_Disk_has, F_i_Draft_free] at *)
    all_goals grind
  rintro ⟨i, N, xs⟩ hf I hI
  replace hf : N = xs.length ∧ xs.length ≤ i ∧ 2 ≤ i ∧ (i ≤ d_0_0.length ∨ i = 2) ∧ xs ++ freeL d_1 d_2 (d_0_0.length - i.toNat) i = freeL d_1 d_2 (d_0_0.length - 2) 2 := hf
  generalize hL : Lg.std = L
  generalize hA : Alg.std = A
  cbv
  subst hL hA
  try dsimp only [Ty.den]
  subst hI
  obtain ⟨h1, h2, h3, h4, h5⟩ := hf
  have hsp := fun (h : i < d_0_0.length) => freeL_step d_1 d_2 d_0_0.length i (by omega) h
  have hen := fun (h : (d_0_0.length : Int) ≤ i) => freeL_end d_1 d_2 d_0_0.length i h
  have hsu : (i + 1).toNat = i.toNat + 1 := by omega
  repeat' (first | intro _ | apply And.intro)
  all_goals first | (with_reducible exact True.intro) | ((fail_if_success (refine lp_v (V := Unit) (fun _ => ⟨[], []⟩) (fun _ => True) (fun _ => 0) () ?_ ?_ ?_)); (try simp only [Lg.std, Alg.std, List.drop_zero, List.take_length] at *); (try refine ⟨(_, _, _), rfl, ?_, ?_⟩); (all_goals (subst hR0 hg_F_sl_Contains_int64 hg_Q_sl_Contains_int64 hg_F_i_Disk_has hg_Q_i_Disk_has; (try simp only [Lg.std, Alg.std, List.drop_zero, List.take_length, F_sl_Contains_int64, F_i_Disk_has, Q_sl_Contains_int64, Q_i_Disk_has, F_i_Draft_free] at *); first | done | (grind [freeOf])))) | skip
def con_i_Draft_free : Con := ⟨true, g1 (pP (.pair (.pair (.sl (.sl (.int .u8))) (.pair (.sl (.pair (.int .i64) (.pair (.sl (.int .u8)) .unit))) .unit)) (.pair (.sl (.int .i64)) (.pair (.sl (.int .i64)) .unit)))) fun d => ⟨[Q_i_Draft_free d], [⟨(.sl (.int .i64)), (.ow .sh), F_i_Draft_free d⟩], []⟩, []⟩
theorem ok_i_Draft_free : ConOk pg 108 con_i_Draft_free := ConOk.g1 (Enters.of (by kernel_rfl)) ct_i_Draft_free

def F_s_l16Free (d : ((List (List (Int))) × (List ((Int) × (List (Int)) × Unit)) × Unit) × (List (Int)) × (List (Int)) × Unit) : List (Int) := freeOf d
def Q_s_l16Free (d : ((List (List (Int))) × (List ((Int) × (List (Int)) × Unit)) × Unit) × (List (Int)) × (List (Int)) × Unit) : Prop := d.1.1.length ≤ 1048576
def O_s_l16Free : Opt := ⟨fun i => false, fun i => (match decide (i = 3) with | true => [true, false, false, true, true, false, false, false, false, false, false, false, false, false, false, false, false, false, false, false, false, false, false, false, false, false, false, false, false, false, false, false, false, false, false, false, false] | false => []), fun i => .done, fun i => none, fun i => (match decide (i = 3) with | true => true | false => false), fun i => []⟩
def τ_s_l16Free : Env := Env.of [(2, (.int .i64)), (3, (.int .i64)), (4, .bool), (22, (.sl (.sl (.int .u8)))), (30, (.pair (.sl (.sl (.int .u8))) (.pair (.sl (.pair (.int .i64) (.pair (.sl (.int .u8)) .unit))) .unit))), (43, (.sl (.int .i64))), (56, (.pair (.pair (.sl (.sl (.int .u8))) (.pair (.sl (.pair (.int .i64) (.pair (.sl (.int .u8)) .unit))) .unit)) (.pair (.sl (.int .i64)) (.pair (.sl (.int .i64)) .unit))))] [(135, (.pair (.pair (.sl (.sl (.int .u8))) (.pair (.sl (.pair (.int .i64) (.pair (.sl (.int .u8)) .unit))) .unit)) (.pair (.sl (.int .i64)) (.pair (.sl (.int .i64)) .unit))))] []

theorem ct_s_l16Free (d : ((List (List (Int))) × (List ((Int) × (List (Int)) × Unit)) × Unit) × (List (Int)) × (List (Int)) × Unit) : Ct pg 106 [.dptr (.pair (.pair (.sl (.sl (.int .u8))) (.pair (.sl (.pair (.int .i64) (.pair (.sl (.int .u8)) .unit))) .unit)) (.pair (.sl (.int .i64)) (.pair (.sl (.int .i64)) .unit))) d] ⟨[Q_s_l16Free d], [⟨(.sl (.int .i64)), (.ow .sh), F_s_l16Free d⟩], []⟩ := by
  refine ct_claim (O := O_s_l16Free) (τ := τ_s_l16Free) (EnvOk.of (by kernel_rfl) (by kernel_rfl)) (GOk.of (.cons ok_s_l1Has .nil : AllOk pg [(131, con_s_l1Has)])) mixed (Enters.of (by kernel_rfl)) (fn := Go.Proofs.Try.f106) (by kernel_rfl) rfl (by kernel_rfl) ?_
  intro hp hw
  have hq : Q_s_l16Free d := hp _ (List.mem_singleton.2 rfl)
  clear hp
  change claim Lg.std Alg.std τ_s_l16Free (Gam.of [(131, ⟨true, g2 (pD (.sl (.int .i64))) (pD (.int .i64)) fun a n => ⟨[Q_s_l1Has a n], [⟨.bool, .sh, F_s_l1Has a n⟩], []⟩, []⟩)]) O_s_l16Free Go.Proofs.Try.f106 [.dptr (.pair (.pair (.sl (.sl (.int .u8))) (.pair (.sl (.pair (.int .i64) (.pair (.sl (.int .u8)) .unit))) .unit)) (.pair (.sl (.int .i64)) (.pair (.sl (.int .i64)) .unit))) d] ⟨[Q_s_l16Free d], [⟨(.sl (.int .i64)), (.ow .sh), F_s_l16Free d⟩], []⟩
  generalize hg_F_s_l1Has : F_s_l1Has = g_F_s_l1Has
  generalize hg_Q_s_l1Has : Q_s_l1Has = g_Q_s_l1Has
  generalize hR0 : F_s_l16Free d = R0
  generalize Q_s_l16Free d = Q0
  generalize hL : Lg.std = L
  generalize hA : Alg.std = A
  cbv
  subst hL hA
  try dsimp only [Ty.den]
  obtain ⟨⟨d_0_0, d_0_1, ⟨⟩⟩, d_1, d_2, ⟨⟩⟩ := d
  simp only [Q_s_l16Free] at hq
  have hl0 := hw.1.1.1.1
  repeat' (first | intro _ | apply And.intro)
  all_goals first | trivial | ((fail_if_success (refine lp_v (V := Unit) (fun _ => ⟨[], []⟩) (fun _ => True) (fun _ => 0) () ?_ ?_ ?_)); subst hR0 hg_F_s_l1Has hg_Q_s_l1Has; (try simp only [Alg.std, F_s_l1Has, Q_s_l1Has, F_s_l16Free] at *); all_goals grind) | skip
  refine lp_v (V := (Int) × (Nat) × (List Int)) (fun ((i, N, xs) : (Int) × (Nat) × (List Int)) => ⟨[.dptr (.pair (.pair (.sl (.sl (.int .u8))) (.pair (.sl (.pair (.int .i64) (.pair (.sl (.int .u8)) .unit))) .unit)) (.pair (.sl (.int .i64)) (.pair (.sl (.int .i64)) .unit))) ((d_0_0, d_0_1, PUnit.unit), d_1, d_2, PUnit.unit), .junk, .junk, .ref (.int .i64) 0 0 [] 0 N, .dat (.int .i64) i, .junk, .junk, .junk, .junk, .junk, .junk, .junk, .junk, .junk, .junk, .junk, .junk, .junk, .junk, .junk, .junk, .junk, .junk, .junk, .junk, .junk, .junk, .junk, .junk, .junk, .junk, .junk, .junk, .junk, .junk, .junk, .junk], [some (.row 0 (.int .i64) .sh xs)]⟩) (fun ((i, N, xs) : (Int) × (Nat) × (List Int)) => N = xs.length ∧ xs.length ≤ i ∧ 2 ≤ i ∧ (i ≤ d_0_0.length ∨ i = 2) ∧ xs ++ freeL d_1 d_2 (d_0_0.length - i.toNat) i = freeL d_1 d_2 (d_0_0.length - 2) 2) (fun ((i, N, xs) : (Int) × (Nat) × (List Int)) => d_0_0.length - i.toNat) (2, _, _) rfl ?_ ?_
  · subst hR0 hg_F_s_l1Has hg_Q_s_l1Has
    (try simp only [Alg.std, F_s_l1Has, Q_s_l1Has, F_s_l16Free] at *)
    all_goals grind
  rintro ⟨i, N, xs⟩ hf I hI
  replace hf : N = xs.length ∧ xs.length ≤ i ∧ 2 ≤ i ∧ (i ≤ d_0_0.length ∨ i = 2) ∧ xs ++ freeL d_1 d_2 (d_0_0.length - i.toNat) i = freeL d_1 d_2 (d_0_0.length - 2) 2 := hf
  generalize hL : Lg.std = L
  generalize hA : Alg.std = A
  cbv
  subst hL hA
  try dsimp only [Ty.den]
  subst hI
  obtain ⟨h1, h2, h3, h4, h5⟩ := hf
  have hsp := fun (h : i < d_0_0.length) => freeL_step d_1 d_2 d_0_0.length i (by omega) h
  have hen := fun (h : (d_0_0.length : Int) ≤ i) => freeL_end d_1 d_2 d_0_0.length i h
  have hsu : (i + 1).toNat = i.toNat + 1 := by omega
  repeat' (first | intro _ | apply And.intro)
  all_goals first | (with_reducible exact True.intro) | ((fail_if_success (refine lp_v (V := Unit) (fun _ => ⟨[], []⟩) (fun _ => True) (fun _ => 0) () ?_ ?_ ?_)); (try simp only [Lg.std, Alg.std, List.drop_zero, List.take_length] at *); (try refine ⟨(_, _, _), rfl, ?_, ?_⟩); (all_goals (subst hR0 hg_F_s_l1Has hg_Q_s_l1Has; (try simp only [Lg.std, Alg.std, List.drop_zero, List.take_length, F_s_l1Has, Q_s_l1Has, F_s_l16Free] at *); first | done | (grind [freeOf])))) | skip
def con_s_l16Free : Con := ⟨true, g1 (pP (.pair (.pair (.sl (.sl (.int .u8))) (.pair (.sl (.pair (.int .i64) (.pair (.sl (.int .u8)) .unit))) .unit)) (.pair (.sl (.int .i64)) (.pair (.sl (.int .i64)) .unit)))) fun d => ⟨[Q_s_l16Free d], [⟨(.sl (.int .i64)), (.ow .sh), F_s_l16Free d⟩], []⟩, []⟩
theorem ok_s_l16Free : ConOk pg 106 con_s_l16Free := ConOk.g1 (Enters.of (by kernel_rfl)) ct_s_l16Free

def F_s_FreeIn (d : ((List (List (Int))) × (List ((Int) × (List (Int)) × Unit)) × Unit) × (List (Int)) × (List (Int)) × Unit) : (Int) × (List (Int)) × Unit := freeIn d
def Q_s_FreeIn (d : ((List (List (Int))) × (List ((Int) × (List (Int)) × Unit)) × Unit) × (List (Int)) × (List (Int)) × Unit) : Prop := tot tDisk d.1 ≤ 1048576 ∧ d.2.1.length ≤ 1048576 ∧ d.2.2.1.length ≤ 1048576
def O_s_FreeIn : Opt := ⟨fun i => false, fun i => [], fun i => .done, fun i => none, fun i => false, fun i => []⟩
def τ_s_FreeIn : Env := Env.of [(2, (.int .i64)), (4, .bool), (43, (.sl (.int .i64))), (53, (.pair (.int .i64) (.pair (.sl (.int .i64)) .unit))), (56, (.pair (.pair (.sl (.sl (.int .u8))) (.pair (.sl (.pair (.int .i64) (.pair (.sl (.int .u8)) .unit))) .unit)) (.pair (.sl (.int .i64)) (.pair (.sl (.int .i64)) .unit))))] [(135, (.pair (.pair (.sl (.sl (.int .u8))) (.pair (.sl (.pair (.int .i64) (.pair (.sl (.int .u8)) .unit))) .unit)) (.pair (.sl (.int .i64)) (.pair (.sl (.int .i64)) .unit))))] []

theorem ct_s_FreeIn (d : ((List (List (Int))) × (List ((Int) × (List (Int)) × Unit)) × Unit) × (List (Int)) × (List (Int)) × Unit) : Ct pg 32 [.dat (.pair (.pair (.sl (.sl (.int .u8))) (.pair (.sl (.pair (.int .i64) (.pair (.sl (.int .u8)) .unit))) .unit)) (.pair (.sl (.int .i64)) (.pair (.sl (.int .i64)) .unit))) d] ⟨[Q_s_FreeIn d], [⟨(.pair (.int .i64) (.pair (.sl (.int .i64)) .unit)), (.pr .sh (.pr (.ow .sh) .sh)), F_s_FreeIn d⟩], []⟩ := by
  refine ct_claim (O := O_s_FreeIn) (τ := τ_s_FreeIn) (EnvOk.of (by kernel_rfl) (by kernel_rfl)) (GOk.of (.cons ok_s_DraftFault (.cons ok_s_l16Free .nil) : AllOk pg [(105, con_s_DraftFault), (106, con_s_l16Free)])) mixed (Enters.of (by kernel_rfl)) (fn := Go.Proofs.Try.f32) (by kernel_rfl) rfl (by kernel_rfl) ?_
  intro hp hw
  have hq : Q_s_FreeIn d := hp _ (List.mem_singleton.2 rfl)
  clear hp
  change claim Lg.std Alg.std τ_s_FreeIn (Gam.of [(105, ⟨true, g1 (pD (.pair (.pair (.sl (.sl (.int .u8))) (.pair (.sl (.pair (.int .i64) (.pair (.sl (.int .u8)) .unit))) .unit)) (.pair (.sl (.int .i64)) (.pair (.sl (.int .i64)) .unit)))) fun d => ⟨[Q_s_DraftFault d], [⟨(.int .i64), .sh, F_s_DraftFault d⟩], []⟩, []⟩), (106, ⟨true, g1 (pP (.pair (.pair (.sl (.sl (.int .u8))) (.pair (.sl (.pair (.int .i64) (.pair (.sl (.int .u8)) .unit))) .unit)) (.pair (.sl (.int .i64)) (.pair (.sl (.int .i64)) .unit)))) fun d => ⟨[Q_s_l16Free d], [⟨(.sl (.int .i64)), (.ow .sh), F_s_l16Free d⟩], []⟩, []⟩)]) O_s_FreeIn Go.Proofs.Try.f32 [.dat (.pair (.pair (.sl (.sl (.int .u8))) (.pair (.sl (.pair (.int .i64) (.pair (.sl (.int .u8)) .unit))) .unit)) (.pair (.sl (.int .i64)) (.pair (.sl (.int .i64)) .unit))) d] ⟨[Q_s_FreeIn d], [⟨(.pair (.int .i64) (.pair (.sl (.int .i64)) .unit)), (.pr .sh (.pr (.ow .sh) .sh)), F_s_FreeIn d⟩], []⟩
  generalize hg_F_s_DraftFault : F_s_DraftFault = g_F_s_DraftFault
  generalize hg_Q_s_DraftFault : Q_s_DraftFault = g_Q_s_DraftFault
  generalize hg_F_s_l16Free : F_s_l16Free = g_F_s_l16Free
  generalize hg_Q_s_l16Free : Q_s_l16Free = g_Q_s_l16Free
  generalize hR0 : F_s_FreeIn d = R0
  generalize Q_s_FreeIn d = Q0
  generalize hL : Lg.std = L
  generalize hA : Alg.std = A
  cbv
  subst hL hA
  try dsimp only [Ty.den]
  obtain ⟨⟨d_0_0, d_0_1, ⟨⟩⟩, d_1, d_2, ⟨⟩⟩ := d
  have hle1 := tot_len tPut d_0_1
  have hle0 := tot_len (.sl (.int .u8)) d_0_0
  subst hR0 hg_F_s_DraftFault hg_Q_s_DraftFault hg_F_s_l16Free hg_Q_s_l16Free
  simp only [Q_s_FreeIn] at hq
  simp only [tot_p, tot_u, tot_int] at hq
  simp only [Lg.std, Alg.std, List.drop_zero, List.take_length, F_s_DraftFault, F_s_l16Free, Q_s_DraftFault, Q_s_l16Free, F_s_FreeIn, freeIn] at *
  try simp only [true_and, and_true, false_implies, implies_true, imp_self]
  repeat' (first | intro _ | apply And.intro)
  all_goals grind
def con_s_FreeIn : Con := ⟨true, g1 (pD (.pair (.pair (.sl (.sl (.int .u8))) (.pair (.sl (.pair (.int .i64) (.pair (.sl (.int .u8)) .unit))) .unit)) (.pair (.sl (.int .i64)) (.pair (.sl (.int .i64)) .unit)))) fun d => ⟨[Q_s_FreeIn d], [⟨(.pair (.int .i64) (.pair (.sl (.int .i64)) .unit)), (.pr .sh (.pr (.ow .sh) .sh)), F_s_FreeIn d⟩], []⟩, []⟩
theorem ok_s_FreeIn : ConOk pg 32 con_s_FreeIn := ConOk.g1 (Enters.of (by kernel_rfl)) ct_s_FreeIn

def F_i_FreeIn (d : ((List (List (Int))) × (List ((Int) × (List (Int)) × Unit)) × Unit) × (List (Int)) × (List (Int)) × Unit) : (Int) × (List (Int)) × Unit := freeIn d
def Q_i_FreeIn (d : ((List (List (Int))) × (List ((Int) × (List (Int)) × Unit)) × Unit) × (List (Int)) × (List (Int)) × Unit) : Prop := tot tDisk d.1 ≤ 1048576 ∧ d.2.1.length ≤ 1048576 ∧ d.2.2.1.length ≤ 1048576
def O_i_FreeIn : Opt := ⟨fun i => false, fun i => [], fun i => .done, fun i => none, fun i => false, fun i => []⟩
def τ_i_FreeIn : Env := Env.of [(2, (.int .i64)), (4, .bool), (43, (.sl (.int .i64))), (53, (.pair (.int .i64) (.pair (.sl (.int .i64)) .unit))), (56, (.pair (.pair (.sl (.sl (.int .u8))) (.pair (.sl (.pair (.int .i64) (.pair (.sl (.int .u8)) .unit))) .unit)) (.pair (.sl (.int .i64)) (.pair (.sl (.int .i64)) .unit))))] [] []

theorem ct_i_FreeIn (d : ((List (List (Int))) × (List ((Int) × (List (Int)) × Unit)) × Unit) × (List (Int)) × (List (Int)) × Unit) : Ct pg 34 [.dat (.pair (.pair (.sl (.sl (.int .u8))) (.pair (.sl (.pair (.int .i64) (.pair (.sl (.int .u8)) .unit))) .unit)) (.pair (.sl (.int .i64)) (.pair (.sl (.int .i64)) .unit))) d] ⟨[Q_i_FreeIn d], [⟨(.pair (.int .i64) (.pair (.sl (.int .i64)) .unit)), (.pr .sh (.pr (.ow .sh) .sh)), F_i_FreeIn d⟩], []⟩ := by
  refine ct_claim (O := O_i_FreeIn) (τ := τ_i_FreeIn) (EnvOk.of (by kernel_rfl) (by kernel_rfl)) (GOk.of (.cons ok_i_DraftFault (.cons ok_i_Draft_free .nil) : AllOk pg [(107, con_i_DraftFault), (108, con_i_Draft_free)])) mixed (Enters.of (by kernel_rfl)) (fn := Go.Proofs.Try.f34) (by kernel_rfl) rfl (by kernel_rfl) ?_
  intro hp hw
  have hq : Q_i_FreeIn d := hp _ (List.mem_singleton.2 rfl)
  clear hp
  change claim Lg.std Alg.std τ_i_FreeIn (Gam.of [(107, ⟨true, g1 (pD (.pair (.pair (.sl (.sl (.int .u8))) (.pair (.sl (.pair (.int .i64) (.pair (.sl (.int .u8)) .unit))) .unit)) (.pair (.sl (.int .i64)) (.pair (.sl (.int .i64)) .unit)))) fun d => ⟨[Q_i_DraftFault d], [⟨(.int .i64), .sh, F_i_DraftFault d⟩], []⟩, []⟩), (108, ⟨true, g1 (pP (.pair (.pair (.sl (.sl (.int .u8))) (.pair (.sl (.pair (.int .i64) (.pair (.sl (.int .u8)) .unit))) .unit)) (.pair (.sl (.int .i64)) (.pair (.sl (.int .i64)) .unit)))) fun d => ⟨[Q_i_Draft_free d], [⟨(.sl (.int .i64)), (.ow .sh), F_i_Draft_free d⟩], []⟩, []⟩)]) O_i_FreeIn Go.Proofs.Try.f34 [.dat (.pair (.pair (.sl (.sl (.int .u8))) (.pair (.sl (.pair (.int .i64) (.pair (.sl (.int .u8)) .unit))) .unit)) (.pair (.sl (.int .i64)) (.pair (.sl (.int .i64)) .unit))) d] ⟨[Q_i_FreeIn d], [⟨(.pair (.int .i64) (.pair (.sl (.int .i64)) .unit)), (.pr .sh (.pr (.ow .sh) .sh)), F_i_FreeIn d⟩], []⟩
  generalize hg_F_i_DraftFault : F_i_DraftFault = g_F_i_DraftFault
  generalize hg_Q_i_DraftFault : Q_i_DraftFault = g_Q_i_DraftFault
  generalize hg_F_i_Draft_free : F_i_Draft_free = g_F_i_Draft_free
  generalize hg_Q_i_Draft_free : Q_i_Draft_free = g_Q_i_Draft_free
  generalize hR0 : F_i_FreeIn d = R0
  generalize Q_i_FreeIn d = Q0
  generalize hL : Lg.std = L
  generalize hA : Alg.std = A
  cbv
  subst hL hA
  try dsimp only [Ty.den]
  obtain ⟨⟨d_0_0, d_0_1, ⟨⟩⟩, d_1, d_2, ⟨⟩⟩ := d
  have hle1 := tot_len tPut d_0_1
  have hle0 := tot_len (.sl (.int .u8)) d_0_0
  subst hR0 hg_F_i_DraftFault hg_Q_i_DraftFault hg_F_i_Draft_free hg_Q_i_Draft_free
  simp only [Q_i_FreeIn] at hq
  simp only [tot_p, tot_u, tot_int] at hq
  simp only [Lg.std, Alg.std, List.drop_zero, List.take_length, F_i_DraftFault, F_i_Draft_free, Q_i_DraftFault, Q_i_Draft_free, F_i_FreeIn, freeIn] at *
  try simp only [true_and, and_true, false_implies, implies_true, imp_self]
  repeat' (first | intro _ | apply And.intro)
  all_goals grind
def con_i_FreeIn : Con := ⟨true, g1 (pD (.pair (.pair (.sl (.sl (.int .u8))) (.pair (.sl (.pair (.int .i64) (.pair (.sl (.int .u8)) .unit))) .unit)) (.pair (.sl (.int .i64)) (.pair (.sl (.int .i64)) .unit)))) fun d => ⟨[Q_i_FreeIn d], [⟨(.pair (.int .i64) (.pair (.sl (.int .i64)) .unit)), (.pr .sh (.pr (.ow .sh) .sh)), F_i_FreeIn d⟩], []⟩, []⟩
theorem ok_i_FreeIn : ConOk pg 34 con_i_FreeIn := ConOk.g1 (Enters.of (by kernel_rfl)) ct_i_FreeIn

def F_w_FnExactFreeIn (d : ((List (List (Int))) × (List ((Int) × (List (Int)) × Unit)) × Unit) × (List (Int)) × (List (Int)) × Unit) : Bool := true
def Q_w_FnExactFreeIn (d : ((List (List (Int))) × (List ((Int) × (List (Int)) × Unit)) × Unit) × (List (Int)) × (List (Int)) × Unit) : Prop := True
def O_w_FnExactFreeIn : Opt := ⟨fun i => false, fun i => [], fun i => (match decide (i = 10) with | true => (.alt 0 (.alt 1 (.alt 2 (.alt 3 (.take 4 .done) .no) .no) .no) (.alt 1 (.alt 0 (.alt 2 (.alt 3 (.take 4 .done) .no) .no) (.alt 2 (.alt 0 (.alt 3 (.take 4 .done) .no) .no) .no)) .no)) | false => .done), fun i => (match decide (i = 10) with | true => some [false, true, false, false, true, true, true, false, false, false, false, false, false, false, false, false, false, false, false, false, false, false, false, false, false, false, false, false, false, false, false, true, false, false, false, false, false, false, false, false, false, false, false, false, false, false, false, false, false, false, false, false, false, false, false, false, false, false, false, false, false, false, false, false, false, false, false, false, false] | false => none), fun i => false, fun i => []⟩
def τ_w_FnExactFreeIn : Env := Env.of [(2, (.int .i64)), (3, (.int .i64)), (4, .bool), (50, (.pair (.pair (.sl (.sl (.int .u8))) (.pair (.sl (.pair (.int .i64) (.pair (.sl (.int .u8)) .unit))) .unit)) (.pair (.sl (.int .i64)) (.pair (.sl (.int .i64)) .unit)))), (53, (.pair (.int .i64) (.pair (.sl (.int .i64)) .unit))), (56, (.pair (.pair (.sl (.sl (.int .u8))) (.pair (.sl (.pair (.int .i64) (.pair (.sl (.int .u8)) .unit))) .unit)) (.pair (.sl (.int .i64)) (.pair (.sl (.int .i64)) .unit))))] [] []

theorem ct_w_FnExactFreeIn (d : ((List (List (Int))) × (List ((Int) × (List (Int)) × Unit)) × Unit) × (List (Int)) × (List (Int)) × Unit) : Ct pg 5 [.dat (.pair (.pair (.sl (.sl (.int .u8))) (.pair (.sl (.pair (.int .i64) (.pair (.sl (.int .u8)) .unit))) .unit)) (.pair (.sl (.int .i64)) (.pair (.sl (.int .i64)) .unit))) d] ⟨[Q_w_FnExactFreeIn d], [⟨.bool, .sh, F_w_FnExactFreeIn d⟩], []⟩ := by
  refine ct_claim (O := O_w_FnExactFreeIn) (τ := τ_w_FnExactFreeIn) (EnvOk.of (by kernel_rfl) (by kernel_rfl)) (GOk.of (.cons ok_w_toDraft (.cons ok_w_eqDraft (.cons ok_w_szDraft (.cons ok_w_markDraft (.cons ok_w_eqIntsResult (.cons ok_w_markIntsResult (.cons ok_w_heldIntsResult (.cons ok_s_FreeIn (.cons ok_i_FreeIn .nil)))))))) : AllOk pg [(33, con_w_toDraft), (36, con_w_eqDraft), (31, con_w_szDraft), (37, con_w_markDraft), (35, con_w_eqIntsResult), (38, con_w_markIntsResult), (39, con_w_heldIntsResult), (32, con_s_FreeIn), (34, con_i_FreeIn)])) mixed (Enters.of (by kernel_rfl)) (fn := Go.Proofs.Try.f5) (by kernel_rfl) rfl (by kernel_rfl) ?_
  intro hp hw
  have hq : Q_w_FnExactFreeIn d := hp _ (List.mem_singleton.2 rfl)
  clear hp
  change claim Lg.std Alg.std τ_w_FnExactFreeIn (Gam.of [(33, ⟨true, g1 (pD (.pair (.pair (.sl (.sl (.int .u8))) (.pair (.sl (.pair (.int .i64) (.pair (.sl (.int .u8)) .unit))) .unit)) (.pair (.sl (.int .i64)) (.pair (.sl (.int .i64)) .unit)))) fun a => ⟨[Q_w_toDraft a], [⟨(.pair (.pair (.sl (.sl (.int .u8))) (.pair (.sl (.pair (.int .i64) (.pair (.sl (.int .u8)) .unit))) .unit)) (.pair (.sl (.int .i64)) (.pair (.sl (.int .i64)) .unit))), (.pr (.pr (.ow (.ow .sh)) (.pr (.ow (.pr .sh (.pr (.ow .sh) .sh))) .sh)) (.pr (.ow .sh) (.pr (.ow .sh) .sh))), F_w_toDraft a⟩], []⟩, []⟩), (36, ⟨true, g2 (pD (.pair (.pair (.sl (.sl (.int .u8))) (.pair (.sl (.pair (.int .i64) (.pair (.sl (.int .u8)) .unit))) .unit)) (.pair (.sl (.int .i64)) (.pair (.sl (.int .i64)) .unit)))) (pD (.pair (.pair (.sl (.sl (.int .u8))) (.pair (.sl (.pair (.int .i64) (.pair (.sl (.int .u8)) .unit))) .unit)) (.pair (.sl (.int .i64)) (.pair (.sl (.int .i64)) .unit)))) fun a b => ⟨[Q_w_eqDraft a b], [⟨.bool, .sh, F_w_eqDraft a b⟩], []⟩, []⟩), (31, ⟨true, g2 (pD (.pair (.pair (.sl (.sl (.int .u8))) (.pair (.sl (.pair (.int .i64) (.pair (.sl (.int .u8)) .unit))) .unit)) (.pair (.sl (.int .i64)) (.pair (.sl (.int .i64)) .unit)))) (pD (.int .i64)) fun a left => ⟨[Q_w_szDraft a left], [⟨(.int .i64), .sh, F_w_szDraft a left⟩], []⟩, []⟩), (37, ⟨true, g2 (pV (.pair (.pair (.sl (.sl (.int .u8))) (.pair (.sl (.pair (.int .i64) (.pair (.sl (.int .u8)) .unit))) .unit)) (.pair (.sl (.int .i64)) (.pair (.sl (.int .i64)) .unit))) (.pr (.pr (.ow (.ow .sh)) (.pr (.ow (.pr .sh (.pr (.ow .sh) .sh))) .sh)) (.pr (.ow .sh) (.pr (.ow .sh) .sh)))) (pD (.int .i64)) fun a k => ⟨[Q_w_markDraft a k], [⟨(.int .i64), .sh, F_w_markDraft a k⟩], [.mv (.pair (.pair (.sl (.sl (.int .u8))) (.pair (.sl (.pair (.int .i64) (.pair (.sl (.int .u8)) .unit))) .unit)) (.pair (.sl (.int .i64)) (.pair (.sl (.int .i64)) .unit))) (.pr (.pr (.ow (.ow .sh)) (.pr (.ow (.pr .sh (.pr (.ow .sh) .sh))) .sh)) (.pr (.ow .sh) (.pr (.ow .sh) .sh))) (B_w_markDraft_a a k)]⟩, [(.pr (.pr (.ow (.ow .sh)) (.pr (.ow (.pr .sh (.pr (.ow .sh) .sh))) .sh)) (.pr (.ow .sh) (.pr (.ow .sh) .sh)))]⟩), (35, ⟨true, g2 (pD (.pair (.int .i64) (.pair (.sl (.int .i64)) .unit))) (pD (.pair (.int .i64) (.pair (.sl (.int .i64)) .unit))) fun a b => ⟨[Q_w_eqIntsResult a b], [⟨.bool, .sh, F_w_eqIntsResult a b⟩], []⟩, []⟩), (38, ⟨true, g2 (pV (.pair (.int .i64) (.pair (.sl (.int .i64)) .unit)) (.pr .sh (.pr (.ow .sh) .sh))) (pD (.int .i64)) fun a k => ⟨[Q_w_markIntsResult a k], [⟨(.int .i64), .sh, F_w_markIntsResult a k⟩], [.mv (.pair (.int .i64) (.pair (.sl (.int .i64)) .unit)) (.pr .sh (.pr (.ow .sh) .sh)) (B_w_markIntsResult_a a k)]⟩, [(.pr .sh (.pr (.ow .sh) .sh))]⟩), (39, ⟨true, g2 (pD (.pair (.int .i64) (.pair (.sl (.int .i64)) .unit))) (pD (.int .i64)) fun a k => ⟨[Q_w_heldIntsResult a k], [⟨(.int .i64), .sh, F_w_heldIntsResult a k⟩], []⟩, []⟩), (32, ⟨true, g1 (pD (.pair (.pair (.sl (.sl (.int .u8))) (.pair (.sl (.pair (.int .i64) (.pair (.sl (.int .u8)) .unit))) .unit)) (.pair (.sl (.int .i64)) (.pair (.sl (.int .i64)) .unit)))) fun d => ⟨[Q_s_FreeIn d], [⟨(.pair (.int .i64) (.pair (.sl (.int .i64)) .unit)), (.pr .sh (.pr (.ow .sh) .sh)), F_s_FreeIn d⟩], []⟩, []⟩), (34, ⟨true, g1 (pD (.pair (.pair (.sl (.sl (.int .u8))) (.pair (.sl (.pair (.int .i64) (.pair (.sl (.int .u8)) .unit))) .unit)) (.pair (.sl (.int .i64)) (.pair (.sl (.int .i64)) .unit)))) fun d => ⟨[Q_i_FreeIn d], [⟨(.pair (.int .i64) (.pair (.sl (.int .i64)) .unit)), (.pr .sh (.pr (.ow .sh) .sh)), F_i_FreeIn d⟩], []⟩, []⟩)]) O_w_FnExactFreeIn Go.Proofs.Try.f5 [.dat (.pair (.pair (.sl (.sl (.int .u8))) (.pair (.sl (.pair (.int .i64) (.pair (.sl (.int .u8)) .unit))) .unit)) (.pair (.sl (.int .i64)) (.pair (.sl (.int .i64)) .unit))) d] ⟨[Q_w_FnExactFreeIn d], [⟨.bool, .sh, F_w_FnExactFreeIn d⟩], []⟩
  generalize hg_F_w_toDraft : F_w_toDraft = g_F_w_toDraft
  generalize hg_Q_w_toDraft : Q_w_toDraft = g_Q_w_toDraft
  generalize hg_F_w_eqDraft : F_w_eqDraft = g_F_w_eqDraft
  generalize hg_Q_w_eqDraft : Q_w_eqDraft = g_Q_w_eqDraft
  generalize hg_F_w_szDraft : F_w_szDraft = g_F_w_szDraft
  generalize hg_Q_w_szDraft : Q_w_szDraft = g_Q_w_szDraft
  generalize hg_F_w_markDraft : F_w_markDraft = g_F_w_markDraft
  generalize hg_B_w_markDraft_a : B_w_markDraft_a = g_B_w_markDraft_a
  generalize hg_Q_w_markDraft : Q_w_markDraft = g_Q_w_markDraft
  generalize hg_F_w_eqIntsResult : F_w_eqIntsResult = g_F_w_eqIntsResult
  generalize hg_Q_w_eqIntsResult : Q_w_eqIntsResult = g_Q_w_eqIntsResult
  generalize hg_F_w_markIntsResult : F_w_markIntsResult = g_F_w_markIntsResult
  generalize hg_B_w_markIntsResult_a : B_w_markIntsResult_a = g_B_w_markIntsResult_a
  generalize hg_Q_w_markIntsResult : Q_w_markIntsResult = g_Q_w_markIntsResult
  generalize hg_F_w_heldIntsResult : F_w_heldIntsResult = g_F_w_heldIntsResult
  generalize hg_Q_w_heldIntsResult : Q_w_heldIntsResult = g_Q_w_heldIntsResult
  generalize hg_F_s_FreeIn : F_s_FreeIn = g_F_s_FreeIn
  generalize hg_Q_s_FreeIn : Q_s_FreeIn = g_Q_s_FreeIn
  generalize hg_F_i_FreeIn : F_i_FreeIn = g_F_i_FreeIn
  generalize hg_Q_i_FreeIn : Q_i_FreeIn = g_Q_i_FreeIn
  generalize hR0 : F_w_FnExactFreeIn d = R0
  generalize Q_w_FnExactFreeIn d = Q0
  generalize hL : Lg.std = L
  generalize hA : Alg.std = A
  cbv
  subst hL hA
  try dsimp only [Ty.den]
  obtain ⟨⟨d_0_0, d_0_1, ⟨⟩⟩, d_1, d_2, ⟨⟩⟩ := d
  have hct_d := cnt_tot (.pair (.pair (.sl (.sl (.int .u8))) (.pair (.sl (.pair (.int .i64) (.pair (.sl (.int .u8)) .unit))) .unit)) (.pair (.sl (.int .i64)) (.pair (.sl (.int .i64)) .unit))) ((d_0_0, d_0_1, PUnit.unit), d_1, d_2, PUnit.unit) (by decide)
  rcases Classical.em (tot (.pair (.pair (.sl (.sl (.int .u8))) (.pair (.sl (.pair (.int .i64) (.pair (.sl (.int .u8)) .unit))) .unit)) (.pair (.sl (.int .i64)) (.pair (.sl (.int .i64)) .unit))) ((d_0_0, d_0_1, PUnit.unit), d_1, d_2, PUnit.unit) ≤ 1048576) with hB | hB
  · have htt := freeIn_tot ((d_0_0, d_0_1, PUnit.unit), d_1, d_2, PUnit.unit)
    have hct := cnt_tot (.pair (.int .i64) (.pair (.sl (.int .i64)) .unit)) (freeIn ((d_0_0, d_0_1, PUnit.unit), d_1, d_2, PUnit.unit)) (by decide)
    have htr : tot (.pair (.int .i64) (.pair (.sl (.int .i64)) .unit)) (freeIn ((d_0_0, d_0_1, PUnit.unit), d_1, d_2, PUnit.unit)) = (freeIn ((d_0_0, d_0_1, PUnit.unit), d_1, d_2, PUnit.unit)).2.1.length := by simp only [tot_p, tot_u, tot_i, Nat.zero_add, Nat.add_zero, tot_int]
    have hc0 : cnt false (.pair (.int .i64) (.pair (.sl (.int .i64)) .unit)) (freeIn ((d_0_0, d_0_1, PUnit.unit), d_1, d_2, PUnit.unit)) ≤ 4000000000 := by
      have := hct
      omega
    try simp only [tDisk, tPut, tot_int] at *
    subst hR0 hg_F_w_toDraft hg_Q_w_toDraft hg_F_w_eqDraft hg_Q_w_eqDraft hg_F_w_szDraft hg_Q_w_szDraft hg_F_w_markDraft hg_B_w_markDraft_a hg_Q_w_markDraft hg_F_w_eqIntsResult hg_Q_w_eqIntsResult hg_F_w_markIntsResult hg_B_w_markIntsResult_a hg_Q_w_markIntsResult hg_F_w_heldIntsResult hg_Q_w_heldIntsResult hg_F_s_FreeIn hg_Q_s_FreeIn hg_F_i_FreeIn hg_Q_i_FreeIn
    simp only [Lg.std, Alg.std, List.drop_zero, List.take_length, F_w_toDraft, F_w_eqDraft, F_w_szDraft, F_w_markDraft, F_w_eqIntsResult, F_w_markIntsResult, F_w_heldIntsResult, F_s_FreeIn, F_i_FreeIn, B_w_markDraft_a, B_w_markIntsResult_a, Q_w_toDraft, Q_w_eqDraft, Q_w_szDraft, Q_w_markDraft, Q_w_eqIntsResult, Q_w_markIntsResult, Q_w_heldIntsResult, Q_s_FreeIn, Q_i_FreeIn, F_w_FnExactFreeIn]
    generalize hW : (freeIn ((d_0_0, d_0_1, PUnit.unit), d_1, d_2, PUnit.unit) : (Int) × (List (Int)) × Unit) = w at *
    clear hW
    obtain ⟨w_0, w_1, ⟨⟩⟩ := w
    try dsimp only at *
    have hm := hd_mk false (.pair (.int .i64) (.pair (.sl (.int .i64)) .unit)) (w_0, w_1, PUnit.unit) 1 (by omega)
    have mt_w_1 := fun k => mk_take false (.int .i64) w_1 k
    dsimp only [Ty.den] at mt_w_1
    simp only [tot_p, tot_u, tot_i, tot_b, tot_s, cnt_p, cnt_u, cnt_i0, cnt_b0, cnt_s0, cnt_i1, cnt_b1, cnt_s1, cnt_l, mk_p, mk_u, mk_i0, mk_b0, mk_s0, mk_i1, mk_s1, mk_l, hd_p, hd_u, hd_i0, hd_b0, hd_s0, hd_i1, hd_b1, hd_s1, hd_l, mt_w_1] at *
    try simp only [tDisk, tPut, tot_int] at *
    repeat' (first | intro _ | apply And.intro)
    all_goals grind [szf, cnt_mk, hd_mk]
  · subst hR0 hg_F_w_toDraft hg_Q_w_toDraft hg_F_w_eqDraft hg_Q_w_eqDraft hg_F_w_szDraft hg_Q_w_szDraft hg_F_w_markDraft hg_B_w_markDraft_a hg_Q_w_markDraft hg_F_w_eqIntsResult hg_Q_w_eqIntsResult hg_F_w_markIntsResult hg_B_w_markIntsResult_a hg_Q_w_markIntsResult hg_F_w_heldIntsResult hg_Q_w_heldIntsResult hg_F_s_FreeIn hg_Q_s_FreeIn hg_F_i_FreeIn hg_Q_i_FreeIn
    simp only [Lg.std, Alg.std, List.drop_zero, List.take_length, F_w_toDraft, F_w_eqDraft, F_w_szDraft, F_w_markDraft, F_w_eqIntsResult, F_w_markIntsResult, F_w_heldIntsResult, F_s_FreeIn, F_i_FreeIn, B_w_markDraft_a, B_w_markIntsResult_a, Q_w_toDraft, Q_w_eqDraft, Q_w_szDraft, Q_w_markDraft, Q_w_eqIntsResult, Q_w_markIntsResult, Q_w_heldIntsResult, Q_s_FreeIn, Q_i_FreeIn, F_w_FnExactFreeIn]
    generalize hW : (freeIn ((d_0_0, d_0_1, PUnit.unit), d_1, d_2, PUnit.unit) : (Int) × (List (Int)) × Unit) = w at *
    clear hW
    try simp only [tDisk, tPut, tot_int] at *
    simp only [tot_p, tot_u, tot_i, tot_b, tot_s, szf] at *
    repeat' (first | intro _ | apply And.intro)
    all_goals grind
def con_w_FnExactFreeIn : Con := ⟨true, g1 (pD (.pair (.pair (.sl (.sl (.int .u8))) (.pair (.sl (.pair (.int .i64) (.pair (.sl (.int .u8)) .unit))) .unit)) (.pair (.sl (.int .i64)) (.pair (.sl (.int .i64)) .unit)))) fun d => ⟨[Q_w_FnExactFreeIn d], [⟨.bool, .sh, F_w_FnExactFreeIn d⟩], []⟩, []⟩
theorem ok_w_FnExactFreeIn : ConOk pg 5 con_w_FnExactFreeIn := ConOk.g1 (Enters.of (by kernel_rfl)) ct_w_FnExactFreeIn
end Go.Vee
