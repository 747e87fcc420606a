/-
  Contracts of functions of the program: what each returns for all arguments that its precondition lets in.
-/
import Derived.Test.YtoomfdnohpkepaaVK13
set_option linter.unusedSimpArgs false
set_option linter.unusedVariables false
set_option maxRecDepth 100000
set_option maxHeartbeats 4000000
set_option synthInstance.maxHeartbeats 4000000
set_option synthInstance.maxSize 20000
namespace Go.Vee
open Go
abbrev zDraft : DraftT := (zDisk, [], [], ())
def startDraft (d : DiskT) (kept : List Int) : Int × DraftT × Unit := if draftFault (d, kept, [], ()) ≠ 0 then (draftFault (d, kept, [], ()), zDraft, ()) else (0, (d, kept, [], ()), ())
def freeL (k t : List Int) : Nat → Int → List Int
  | 0, _ => []
  | m + 1, n => if k.contains n = false ∧ t.contains n = false then n :: freeL k t m (n + 1) else freeL k t m (n + 1)
def freeOf (d : DraftT) : List Int := freeL d.2.1 d.2.2.1 (d.1.1.length - 2) 2
def freeIn (d : DraftT) : Int × List Int × Unit := if draftFault d ≠ 0 then (draftFault d, [], ()) else (0, freeOf d, ())
theorem freeL_step (k t : List Int) (L : Nat) (n : Int) (h0 : 0 ≤ n) (h : n < L) : freeL k t (L - n.toNat) n = if k.contains n = false ∧ t.contains n = false then n :: freeL k t (L - (n.toNat + 1)) (n + 1) else freeL k t (L - (n.toNat + 1)) (n + 1) := by
  have : L - n.toNat = (L - (n.toNat + 1)) + 1 := by omega
  rw [this]; rfl
theorem freeL_end (k t : List Int) (L : Nat) (n : Int) (h : (L : Int) ≤ n) : freeL k t (L - n.toNat) n = [] := by
  have : L - n.toNat = 0 := by omega
  rw [this]; rfl
theorem freeL_len (k t : List Int) : ∀ (m : Nat) (n : Int), (freeL k t m n).length ≤ m
  | 0, n => by simp [freeL]
  | m + 1, n => by
    have := freeL_len k t m (n + 1)
    unfold freeL
    split
    · simp; omega
    · omega
theorem draftFault_disk (d : DraftT) (h : draftFault d = 0) : diskFault d.1 = 0 := by
  unfold draftFault at h
  split at h
  · rename_i e; exact absurd h e
  · rename_i e; simpa using e
theorem startDraft_tot (d : DiskT) (kept : List Int) : tot (.pair (.pair (.sl (.sl (.int .u8))) (.pair (.sl (.pair (.int .i64) (.pair (.sl (.int .u8)) .unit))) .unit)) (.pair (.sl (.int .i64)) (.pair (.sl (.int .i64)) .unit))) (startDraft d kept).2.1 ≤ tot tDisk d + kept.length := by
  unfold startDraft
  split
  · simp [tot, totL]
  · simp only [tDisk, tPut, tot_p, tot_u, tot_int, List.length_nil]; omega
theorem freeIn_tot (d : DraftT) : (freeIn d).2.1.length ≤ tot (.pair (.pair (.sl (.sl (.int .u8))) (.pair (.sl (.pair (.int .i64) (.pair (.sl (.int .u8)) .unit))) .unit)) (.pair (.sl (.int .i64)) (.pair (.sl (.int .i64)) .unit))) d := by
  have hle : d.1.1.length ≤ tot (.sl (.sl (.int .u8))) d.1.1 := tot_len (.sl (.int .u8)) d.1.1
  simp only [tot_p, tot_u]
  refine Nat.le_trans (?_ : _ ≤ d.1.1.length) (by omega)
  unfold freeIn
  split
  · simp
  · have := freeL_len d.2.1 d.2.2.1 (d.1.1.length - 2) 2
    show (freeL _ _ _ _).length ≤ _
    omega

def F_w_eqDraftResult (a : (Int) × (((List (List (Int))) × (List ((Int) × (List (Int)) × Unit)) × Unit) × (List (Int)) × (List (Int)) × Unit) × Unit) (b : (Int) × (((List (List (Int))) × (List ((Int) × (List (Int)) × Unit)) × Unit) × (List (Int)) × (List (Int)) × Unit) × Unit) : Bool := decide (a = b)
def Q_w_eqDraftResult (a : (Int) × (((List (List (Int))) × (List ((Int) × (List (Int)) × Unit)) × Unit) × (List (Int)) × (List (Int)) × Unit) × Unit) (b : (Int) × (((List (List (Int))) × (List ((Int) × (List (Int)) × Unit)) × Unit) × (List (Int)) × (List (Int)) × Unit) × Unit) : Prop := True
def O_w_eqDraftResult : Opt := ⟨fun i => false, fun i => [], fun i => .done, fun i => none, fun i => false, fun i => []⟩
def τ_w_eqDraftResult : Env := Env.of [(2, (.int .i64)), (4, .bool), (56, (.pair (.pair (.sl (.sl (.int .u8))) (.pair (.sl (.pair (.int .i64) (.pair (.sl (.int .u8)) .unit))) .unit)) (.pair (.sl (.int .i64)) (.pair (.sl (.int .i64)) .unit)))), (64, (.pair (.int .i64) (.pair (.pair (.pair (.sl (.sl (.int .u8))) (.pair (.sl (.pair (.int .i64) (.pair (.sl (.int .u8)) .unit))) .unit)) (.pair (.sl (.int .i64)) (.pair (.sl (.int .i64)) .unit))) .unit)))] [] []

theorem ct_w_eqDraftResult (a : (Int) × (((List (List (Int))) × (List ((Int) × (List (Int)) × Unit)) × Unit) × (List (Int)) × (List (Int)) × Unit) × Unit) (b : (Int) × (((List (List (Int))) × (List ((Int) × (List (Int)) × Unit)) × Unit) × (List (Int)) × (List (Int)) × Unit) × Unit) : Ct pg 42 [.dat (.pair (.int .i64) (.pair (.pair (.pair (.sl (.sl (.int .u8))) (.pair (.sl (.pair (.int .i64) (.pair (.sl (.int .u8)) .unit))) .unit)) (.pair (.sl (.int .i64)) (.pair (.sl (.int .i64)) .unit))) .unit)) a, .dat (.pair (.int .i64) (.pair (.pair (.pair (.sl (.sl (.int .u8))) (.pair (.sl (.pair (.int .i64) (.pair (.sl (.int .u8)) .unit))) .unit)) (.pair (.sl (.int .i64)) (.pair (.sl (.int .i64)) .unit))) .unit)) b] ⟨[Q_w_eqDraftResult a b], [⟨.bool, .sh, F_w_eqDraftResult a b⟩], []⟩ := by
  refine ct_claim (O := O_w_eqDraftResult) (τ := τ_w_eqDraftResult) (EnvOk.of (by kernel_rfl) (by kernel_rfl)) (GOk.of (.cons ok_w_eqDraft .nil : AllOk pg [(36, con_w_eqDraft)])) mixed (Enters.of (by kernel_rfl)) (fn := Go.Proofs.Try.f42) (by kernel_rfl) rfl (by kernel_rfl) ?_
  intro hp hw
  have hq : Q_w_eqDraftResult a b := hp _ (List.mem_singleton.2 rfl)
  clear hp
  change claim Lg.std Alg.std τ_w_eqDraftResult (Gam.of [(36, ⟨true, g2 (pD (.pair (.pair (.sl (.sl (.int .u8))) (.pair (.sl (.pair (.int .i64) (.pair (.sl (.int .u8)) .unit))) .unit)) (.pair (.sl (.int .i64)) (.pair (.sl (.int .i64)) .unit)))) (pD (.pair (.pair (.sl (.sl (.int .u8))) (.pair (.sl (.pair (.int .i64) (.pair (.sl (.int .u8)) .unit))) .unit)) (.pair (.sl (.int .i64)) (.pair (.sl (.int .i64)) .unit)))) fun a b => ⟨[Q_w_eqDraft a b], [⟨.bool, .sh, F_w_eqDraft a b⟩], []⟩, [], false, 0⟩)]) O_w_eqDraftResult Go.Proofs.Try.f42 [.dat (.pair (.int .i64) (.pair (.pair (.pair (.sl (.sl (.int .u8))) (.pair (.sl (.pair (.int .i64) (.pair (.sl (.int .u8)) .unit))) .unit)) (.pair (.sl (.int .i64)) (.pair (.sl (.int .i64)) .unit))) .unit)) a, .dat (.pair (.int .i64) (.pair (.pair (.pair (.sl (.sl (.int .u8))) (.pair (.sl (.pair (.int .i64) (.pair (.sl (.int .u8)) .unit))) .unit)) (.pair (.sl (.int .i64)) (.pair (.sl (.int .i64)) .unit))) .unit)) b] ⟨[Q_w_eqDraftResult a b], [⟨.bool, .sh, F_w_eqDraftResult a b⟩], []⟩
  generalize hg_F_w_eqDraft : F_w_eqDraft = g_F_w_eqDraft
  generalize hg_Q_w_eqDraft : Q_w_eqDraft = g_Q_w_eqDraft
  generalize hR0 : F_w_eqDraftResult a b = R0
  generalize Q_w_eqDraftResult a b = Q0
  generalize hL : Lg.std = L
  generalize hA : Alg.std = A
  cbv
  subst hL hA
  try dsimp only [Ty.den]
  obtain ⟨f0, f1, ⟨⟩⟩ := a
  obtain ⟨g0, g1, ⟨⟩⟩ := b
  subst hR0 hg_F_w_eqDraft hg_Q_w_eqDraft
  simp only [Q_w_eqDraftResult] at hq
  simp only [Lg.std, Alg.std, List.drop_zero, List.take_length, F_w_eqDraft, Q_w_eqDraft, F_w_eqDraftResult]
  all_goals grind
def con_w_eqDraftResult : Con := ⟨true, g2 (pD (.pair (.int .i64) (.pair (.pair (.pair (.sl (.sl (.int .u8))) (.pair (.sl (.pair (.int .i64) (.pair (.sl (.int .u8)) .unit))) .unit)) (.pair (.sl (.int .i64)) (.pair (.sl (.int .i64)) .unit))) .unit))) (pD (.pair (.int .i64) (.pair (.pair (.pair (.sl (.sl (.int .u8))) (.pair (.sl (.pair (.int .i64) (.pair (.sl (.int .u8)) .unit))) .unit)) (.pair (.sl (.int .i64)) (.pair (.sl (.int .i64)) .unit))) .unit))) fun a b => ⟨[Q_w_eqDraftResult a b], [⟨.bool, .sh, F_w_eqDraftResult a b⟩], []⟩, [], false, 0⟩
theorem ok_w_eqDraftResult : ConOk pg 42 con_w_eqDraftResult := ConOk.g2 (Enters.of (by kernel_rfl)) ct_w_eqDraftResult

def F_w_markDraftResult (a : (Int) × (((List (List (Int))) × (List ((Int) × (List (Int)) × Unit)) × Unit) × (List (Int)) × (List (Int)) × Unit) × Unit) (k : Int) : Int := k + cnt false (.pair (.int .i64) (.pair (.pair (.pair (.sl (.sl (.int .u8))) (.pair (.sl (.pair (.int .i64) (.pair (.sl (.int .u8)) .unit))) .unit)) (.pair (.sl (.int .i64)) (.pair (.sl (.int .i64)) .unit))) .unit)) a
def B_w_markDraftResult_a (a : (Int) × (((List (List (Int))) × (List ((Int) × (List (Int)) × Unit)) × Unit) × (List (Int)) × (List (Int)) × Unit) × Unit) (k : Int) : (Int) × (((List (List (Int))) × (List ((Int) × (List (Int)) × Unit)) × Unit) × (List (Int)) × (List (Int)) × Unit) × Unit := mk false (.pair (.int .i64) (.pair (.pair (.pair (.sl (.sl (.int .u8))) (.pair (.sl (.pair (.int .i64) (.pair (.sl (.int .u8)) .unit))) .unit)) (.pair (.sl (.int .i64)) (.pair (.sl (.int .i64)) .unit))) .unit)) a k
def Q_w_markDraftResult (a : (Int) × (((List (List (Int))) × (List ((Int) × (List (Int)) × Unit)) × Unit) × (List (Int)) × (List (Int)) × Unit) × Unit) (k : Int) : Prop := 0 ≤ k ∧ k + cnt false (.pair (.int .i64) (.pair (.pair (.pair (.sl (.sl (.int .u8))) (.pair (.sl (.pair (.int .i64) (.pair (.sl (.int .u8)) .unit))) .unit)) (.pair (.sl (.int .i64)) (.pair (.sl (.int .i64)) .unit))) .unit)) a ≤ 4611686018427387904
def O_w_markDraftResult : Opt := ⟨fun i => false, fun i => [], fun i => .done, fun i => none, fun i => false, fun i => []⟩
def τ_w_markDraftResult : Env := Env.of [(3, (.int .i64)), (4, .bool), (56, (.pair (.pair (.sl (.sl (.int .u8))) (.pair (.sl (.pair (.int .i64) (.pair (.sl (.int .u8)) .unit))) .unit)) (.pair (.sl (.int .i64)) (.pair (.sl (.int .i64)) .unit)))), (64, (.pair (.int .i64) (.pair (.pair (.pair (.sl (.sl (.int .u8))) (.pair (.sl (.pair (.int .i64) (.pair (.sl (.int .u8)) .unit))) .unit)) (.pair (.sl (.int .i64)) (.pair (.sl (.int .i64)) .unit))) .unit)))] [] []

theorem ct_w_markDraftResult (a : (Int) × (((List (List (Int))) × (List ((Int) × (List (Int)) × Unit)) × Unit) × (List (Int)) × (List (Int)) × Unit) × Unit) (k : Int) : Ct pg 43 [.mv (.pair (.int .i64) (.pair (.pair (.pair (.sl (.sl (.int .u8))) (.pair (.sl (.pair (.int .i64) (.pair (.sl (.int .u8)) .unit))) .unit)) (.pair (.sl (.int .i64)) (.pair (.sl (.int .i64)) .unit))) .unit)) (.pr .sh (.pr (.pr (.pr (.ow (.ow .sh)) (.pr (.ow (.pr .sh (.pr (.ow .sh) .sh))) .sh)) (.pr (.ow .sh) (.pr (.ow .sh) .sh))) .sh)) a, .dat (.int .i64) k] ⟨[Q_w_markDraftResult a k], [⟨(.int .i64), .sh, F_w_markDraftResult a k⟩], [.mv (.pair (.int .i64) (.pair (.pair (.pair (.sl (.sl (.int .u8))) (.pair (.sl (.pair (.int .i64) (.pair (.sl (.int .u8)) .unit))) .unit)) (.pair (.sl (.int .i64)) (.pair (.sl (.int .i64)) .unit))) .unit)) (.pr .sh (.pr (.pr (.pr (.ow (.ow .sh)) (.pr (.ow (.pr .sh (.pr (.ow .sh) .sh))) .sh)) (.pr (.ow .sh) (.pr (.ow .sh) .sh))) .sh)) (B_w_markDraftResult_a a k)]⟩ := by
  refine ct_claim (O := O_w_markDraftResult) (τ := τ_w_markDraftResult) (EnvOk.of (by kernel_rfl) (by kernel_rfl)) (GOk.of (.cons ok_w_markDraft .nil : AllOk pg [(37, con_w_markDraft)])) mixed (Enters.of (by kernel_rfl)) (fn := Go.Proofs.Try.f43) (by kernel_rfl) rfl (by kernel_rfl) ?_
  intro hp hw
  have hq : Q_w_markDraftResult a k := hp _ (List.mem_singleton.2 rfl)
  clear hp
  change claim Lg.std Alg.std τ_w_markDraftResult (Gam.of [(37, ⟨true, g2 (pV (.pair (.pair (.sl (.sl (.int .u8))) (.pair (.sl (.pair (.int .i64) (.pair (.sl (.int .u8)) .unit))) .unit)) (.pair (.sl (.int .i64)) (.pair (.sl (.int .i64)) .unit))) (.pr (.pr (.ow (.ow .sh)) (.pr (.ow (.pr .sh (.pr (.ow .sh) .sh))) .sh)) (.pr (.ow .sh) (.pr (.ow .sh) .sh)))) (pD (.int .i64)) fun a k => ⟨[Q_w_markDraft a k], [⟨(.int .i64), .sh, F_w_markDraft a k⟩], [.mv (.pair (.pair (.sl (.sl (.int .u8))) (.pair (.sl (.pair (.int .i64) (.pair (.sl (.int .u8)) .unit))) .unit)) (.pair (.sl (.int .i64)) (.pair (.sl (.int .i64)) .unit))) (.pr (.pr (.ow (.ow .sh)) (.pr (.ow (.pr .sh (.pr (.ow .sh) .sh))) .sh)) (.pr (.ow .sh) (.pr (.ow .sh) .sh))) (B_w_markDraft_a a k)]⟩, [(.pr (.pr (.ow (.ow .sh)) (.pr (.ow (.pr .sh (.pr (.ow .sh) .sh))) .sh)) (.pr (.ow .sh) (.pr (.ow .sh) .sh)))], false, 0⟩)]) O_w_markDraftResult Go.Proofs.Try.f43 [.mv (.pair (.int .i64) (.pair (.pair (.pair (.sl (.sl (.int .u8))) (.pair (.sl (.pair (.int .i64) (.pair (.sl (.int .u8)) .unit))) .unit)) (.pair (.sl (.int .i64)) (.pair (.sl (.int .i64)) .unit))) .unit)) (.pr .sh (.pr (.pr (.pr (.ow (.ow .sh)) (.pr (.ow (.pr .sh (.pr (.ow .sh) .sh))) .sh)) (.pr (.ow .sh) (.pr (.ow .sh) .sh))) .sh)) a, .dat (.int .i64) k] ⟨[Q_w_markDraftResult a k], [⟨(.int .i64), .sh, F_w_markDraftResult a k⟩], [.mv (.pair (.int .i64) (.pair (.pair (.pair (.sl (.sl (.int .u8))) (.pair (.sl (.pair (.int .i64) (.pair (.sl (.int .u8)) .unit))) .unit)) (.pair (.sl (.int .i64)) (.pair (.sl (.int .i64)) .unit))) .unit)) (.pr .sh (.pr (.pr (.pr (.ow (.ow .sh)) (.pr (.ow (.pr .sh (.pr (.ow .sh) .sh))) .sh)) (.pr (.ow .sh) (.pr (.ow .sh) .sh))) .sh)) (B_w_markDraftResult_a a k)]⟩
  generalize hg_F_w_markDraft : F_w_markDraft = g_F_w_markDraft
  generalize hg_B_w_markDraft_a : B_w_markDraft_a = g_B_w_markDraft_a
  generalize hg_Q_w_markDraft : Q_w_markDraft = g_Q_w_markDraft
  generalize hR0 : F_w_markDraftResult a k = R0
  generalize hB_a : B_w_markDraftResult_a a k = B_a
  generalize Q_w_markDraftResult a k = Q0
  generalize hL : Lg.std = L
  generalize hA : Alg.std = A
  cbv
  subst hL hA
  try dsimp only [Ty.den]
  obtain ⟨f0, f1, ⟨⟩⟩ := a
  simp only [Q_w_markDraftResult] at hq
  subst hR0 hB_a hg_F_w_markDraft hg_B_w_markDraft_a hg_Q_w_markDraft
  simp only [Lg.std, Alg.std, List.drop_zero, List.take_length, F_w_markDraft, B_w_markDraft_a, Q_w_markDraft, F_w_markDraftResult, B_w_markDraftResult_a, szf, tot_p, tot_u, tot_i, tot_b, tot_s, cnt_p, cnt_u, cnt_i0, cnt_b0, cnt_s0, cnt_i1, cnt_b1, cnt_s1, cnt_l, mk_p, mk_u, mk_i0, mk_b0, mk_s0, mk_i1, mk_s1, mk_l, hd_p, hd_u, hd_i0, hd_b0, hd_s0, hd_i1, hd_b1, hd_s1, hd_l] at *
  all_goals grind [mk_len]
def con_w_markDraftResult : Con := ⟨true, g2 (pV (.pair (.int .i64) (.pair (.pair (.pair (.sl (.sl (.int .u8))) (.pair (.sl (.pair (.int .i64) (.pair (.sl (.int .u8)) .unit))) .unit)) (.pair (.sl (.int .i64)) (.pair (.sl (.int .i64)) .unit))) .unit)) (.pr .sh (.pr (.pr (.pr (.ow (.ow .sh)) (.pr (.ow (.pr .sh (.pr (.ow .sh) .sh))) .sh)) (.pr (.ow .sh) (.pr (.ow .sh) .sh))) .sh))) (pD (.int .i64)) fun a k => ⟨[Q_w_markDraftResult a k], [⟨(.int .i64), .sh, F_w_markDraftResult a k⟩], [.mv (.pair (.int .i64) (.pair (.pair (.pair (.sl (.sl (.int .u8))) (.pair (.sl (.pair (.int .i64) (.pair (.sl (.int .u8)) .unit))) .unit)) (.pair (.sl (.int .i64)) (.pair (.sl (.int .i64)) .unit))) .unit)) (.pr .sh (.pr (.pr (.pr (.ow (.ow .sh)) (.pr (.ow (.pr .sh (.pr (.ow .sh) .sh))) .sh)) (.pr (.ow .sh) (.pr (.ow .sh) .sh))) .sh)) (B_w_markDraftResult_a a k)]⟩, [(.pr .sh (.pr (.pr (.pr (.ow (.ow .sh)) (.pr (.ow (.pr .sh (.pr (.ow .sh) .sh))) .sh)) (.pr (.ow .sh) (.pr (.ow .sh) .sh))) .sh))], false, 0⟩
theorem ok_w_markDraftResult : ConOk pg 43 con_w_markDraftResult := ConOk.g2 (Enters.of (by kernel_rfl)) ct_w_markDraftResult

def F_w_heldDraftResult (a : (Int) × (((List (List (Int))) × (List ((Int) × (List (Int)) × Unit)) × Unit) × (List (Int)) × (List (Int)) × Unit) × Unit) (k : Int) : Int := hd false (.pair (.int .i64) (.pair (.pair (.pair (.sl (.sl (.int .u8))) (.pair (.sl (.pair (.int .i64) (.pair (.sl (.int .u8)) .unit))) .unit)) (.pair (.sl (.int .i64)) (.pair (.sl (.int .i64)) .unit))) .unit)) a k
def Q_w_heldDraftResult (a : (Int) × (((List (List (Int))) × (List ((Int) × (List (Int)) × Unit)) × Unit) × (List (Int)) × (List (Int)) × Unit) × Unit) (k : Int) : Prop := 0 ≤ k ∧ k + cnt false (.pair (.int .i64) (.pair (.pair (.pair (.sl (.sl (.int .u8))) (.pair (.sl (.pair (.int .i64) (.pair (.sl (.int .u8)) .unit))) .unit)) (.pair (.sl (.int .i64)) (.pair (.sl (.int .i64)) .unit))) .unit)) a ≤ 4611686018427387904
def O_w_heldDraftResult : Opt := ⟨fun i => false, fun i => [], fun i => .done, fun i => none, fun i => false, fun i => []⟩
def τ_w_heldDraftResult : Env := Env.of [(3, (.int .i64)), (4, .bool), (56, (.pair (.pair (.sl (.sl (.int .u8))) (.pair (.sl (.pair (.int .i64) (.pair (.sl (.int .u8)) .unit))) .unit)) (.pair (.sl (.int .i64)) (.pair (.sl (.int .i64)) .unit)))), (64, (.pair (.int .i64) (.pair (.pair (.pair (.sl (.sl (.int .u8))) (.pair (.sl (.pair (.int .i64) (.pair (.sl (.int .u8)) .unit))) .unit)) (.pair (.sl (.int .i64)) (.pair (.sl (.int .i64)) .unit))) .unit)))] [] []

theorem ct_w_heldDraftResult (a : (Int) × (((List (List (Int))) × (List ((Int) × (List (Int)) × Unit)) × Unit) × (List (Int)) × (List (Int)) × Unit) × Unit) (k : Int) : Ct pg 44 [.dat (.pair (.int .i64) (.pair (.pair (.pair (.sl (.sl (.int .u8))) (.pair (.sl (.pair (.int .i64) (.pair (.sl (.int .u8)) .unit))) .unit)) (.pair (.sl (.int .i64)) (.pair (.sl (.int .i64)) .unit))) .unit)) a, .dat (.int .i64) k] ⟨[Q_w_heldDraftResult a k], [⟨(.int .i64), .sh, F_w_heldDraftResult a k⟩], []⟩ := by
  refine ct_claim (O := O_w_heldDraftResult) (τ := τ_w_heldDraftResult) (EnvOk.of (by kernel_rfl) (by kernel_rfl)) (GOk.of (.cons ok_w_heldDraft .nil : AllOk pg [(112, con_w_heldDraft)])) mixed (Enters.of (by kernel_rfl)) (fn := Go.Proofs.Try.f44) (by kernel_rfl) rfl (by kernel_rfl) ?_
  intro hp hw
  have hq : Q_w_heldDraftResult a k := hp _ (List.mem_singleton.2 rfl)
  clear hp
  change claim Lg.std Alg.std τ_w_heldDraftResult (Gam.of [(112, ⟨true, g2 (pD (.pair (.pair (.sl (.sl (.int .u8))) (.pair (.sl (.pair (.int .i64) (.pair (.sl (.int .u8)) .unit))) .unit)) (.pair (.sl (.int .i64)) (.pair (.sl (.int .i64)) .unit)))) (pD (.int .i64)) fun a k => ⟨[Q_w_heldDraft a k], [⟨(.int .i64), .sh, F_w_heldDraft a k⟩], []⟩, [], false, 0⟩)]) O_w_heldDraftResult Go.Proofs.Try.f44 [.dat (.pair (.int .i64) (.pair (.pair (.pair (.sl (.sl (.int .u8))) (.pair (.sl (.pair (.int .i64) (.pair (.sl (.int .u8)) .unit))) .unit)) (.pair (.sl (.int .i64)) (.pair (.sl (.int .i64)) .unit))) .unit)) a, .dat (.int .i64) k] ⟨[Q_w_heldDraftResult a k], [⟨(.int .i64), .sh, F_w_heldDraftResult a k⟩], []⟩
  generalize hg_F_w_heldDraft : F_w_heldDraft = g_F_w_heldDraft
  generalize hg_Q_w_heldDraft : Q_w_heldDraft = g_Q_w_heldDraft
  generalize hR0 : F_w_heldDraftResult a k = R0
  generalize Q_w_heldDraftResult a k = Q0
  generalize hL : Lg.std = L
  generalize hA : Alg.std = A
  cbv
  subst hL hA
  try dsimp only [Ty.den]
  obtain ⟨f0, f1, ⟨⟩⟩ := a
  have ho1 := fun k h => hd_or false (.pair (.pair (.sl (.sl (.int .u8))) (.pair (.sl (.pair (.int .i64) (.pair (.sl (.int .u8)) .unit))) .unit)) (.pair (.sl (.int .i64)) (.pair (.sl (.int .i64)) .unit))) f1 k h
  simp only [Q_w_heldDraftResult] at hq
  subst hR0 hg_F_w_heldDraft hg_Q_w_heldDraft
  simp only [Lg.std, Alg.std, List.drop_zero, List.take_length, F_w_heldDraft, Q_w_heldDraft, F_w_heldDraftResult, szf, tot_p, tot_u, tot_i, tot_b, tot_s, cnt_p, cnt_u, cnt_i0, cnt_b0, cnt_s0, cnt_i1, cnt_b1, cnt_s1, cnt_l, mk_p, mk_u, mk_i0, mk_b0, mk_s0, mk_i1, mk_s1, mk_l, hd_p, hd_u, hd_i0, hd_b0, hd_s0, hd_i1, hd_b1, hd_s1, hd_l] at *
  all_goals grind [mk_len]
def con_w_heldDraftResult : Con := ⟨true, g2 (pD (.pair (.int .i64) (.pair (.pair (.pair (.sl (.sl (.int .u8))) (.pair (.sl (.pair (.int .i64) (.pair (.sl (.int .u8)) .unit))) .unit)) (.pair (.sl (.int .i64)) (.pair (.sl (.int .i64)) .unit))) .unit))) (pD (.int .i64)) fun a k => ⟨[Q_w_heldDraftResult a k], [⟨(.int .i64), .sh, F_w_heldDraftResult a k⟩], []⟩, [], false, 0⟩
theorem ok_w_heldDraftResult : ConOk pg 44 con_w_heldDraftResult := ConOk.g2 (Enters.of (by kernel_rfl)) ct_w_heldDraftResult

def F_s_l1Ints (l : List (Int)) : List (Int) := l
def Q_s_l1Ints (l : List (Int)) : Prop := l.length ≤ 1048576
def O_s_l1Ints : Opt := ⟨fun i => false, fun i => [], fun i => .done, fun i => none, fun i => false, fun i => []⟩
def τ_s_l1Ints : Env := Env.of [(2, (.int .i64)), (43, (.sl (.int .i64)))] [] []

theorem ct_s_l1Ints (l : List (Int)) : Ct pg 163 [.dat (.sl (.int .i64)) l] ⟨[Q_s_l1Ints l], [⟨(.sl (.int .i64)), (.ow .sh), F_s_l1Ints l⟩], []⟩ := by
  refine ct_claim (O := O_s_l1Ints) (τ := τ_s_l1Ints) (EnvOk.of (by kernel_rfl) (by kernel_rfl)) (GOk.of (.nil : AllOk pg [])) mixed (Enters.of (by kernel_rfl)) (fn := Go.Proofs.Try.f163) (by kernel_rfl) rfl (by kernel_rfl) ?_
  intro hp hw
  have hq : Q_s_l1Ints l := hp _ (List.mem_singleton.2 rfl)
  clear hp
  change claim Lg.std Alg.std τ_s_l1Ints (Gam.of []) O_s_l1Ints Go.Proofs.Try.f163 [.dat (.sl (.int .i64)) l] ⟨[Q_s_l1Ints l], [⟨(.sl (.int .i64)), (.ow .sh), F_s_l1Ints l⟩], []⟩
  generalize hR0 : F_s_l1Ints l = R0
  generalize Q_s_l1Ints l = Q0
  generalize hL : Lg.std = L
  generalize hA : Alg.std = A
  cbv
  subst hL hA
  try dsimp only [Ty.den]
  subst hR0
  simp only [Q_s_l1Ints] at hq
  simp only [Lg.std, Alg.std, List.drop_zero, List.take_length, F_s_l1Ints]
  all_goals grind
def con_s_l1Ints : Con := ⟨true, g1 (pD (.sl (.int .i64))) fun l => ⟨[Q_s_l1Ints l], [⟨(.sl (.int .i64)), (.ow .sh), F_s_l1Ints l⟩], []⟩, [], false, 0⟩
theorem ok_s_l1Ints : ConOk pg 163 con_s_l1Ints := ConOk.g1 (Enters.of (by kernel_rfl)) ct_s_l1Ints

def F_i_ownDraft (d : ((List (List (Int))) × (List ((Int) × (List (Int)) × Unit)) × Unit) × (List (Int)) × (List (Int)) × Unit) : ((List (List (Int))) × (List ((Int) × (List (Int)) × Unit)) × Unit) × (List (Int)) × (List (Int)) × Unit := d
def Q_i_ownDraft (d : ((List (List (Int))) × (List ((Int) × (List (Int)) × Unit)) × Unit) × (List (Int)) × (List (Int)) × Unit) : Prop := tot tDisk d.1 ≤ 1048576 ∧ d.2.1.length ≤ 1048576 ∧ d.2.2.1.length ≤ 1048576
def O_i_ownDraft : Opt := ⟨fun i => false, fun i => [], fun i => (match decide (i = 1) with | true => (.take 0 (.take 3 (.take 6 (.alt 1 (.alt 2 (.alt 4 (.alt 5 (.alt 7 (.alt 8 (.take 9 (.alt 10 (.take 11 .done) .no)) .no) .no) (.alt 7 (.alt 5 (.alt 8 (.take 9 (.alt 10 (.take 11 .done) .no)) .no) .no) .no)) (.alt 7 (.alt 4 (.alt 5 (.alt 8 (.take 9 (.alt 10 (.take 11 .done) .no)) .no) .no) .no) .no)) (.alt 4 (.alt 2 (.alt 5 (.alt 7 (.alt 8 (.take 9 (.alt 10 (.take 11 .done) .no)) .no) .no) (.alt 7 (.alt 5 (.alt 8 (.take 9 (.alt 10 (.take 11 .done) .no)) .no) .no) .no)) (.alt 7 (.alt 2 (.alt 5 (.alt 8 (.take 9 (.alt 10 (.take 11 .done) .no)) .no) .no) .no) .no)) (.alt 7 (.alt 2 (.alt 4 (.alt 5 (.alt 8 (.take 9 (.alt 10 (.take 11 .done) .no)) .no) .no) .no) (.alt 4 (.alt 2 (.alt 5 (.alt 8 (.take 9 (.alt 10 (.take 11 .done) .no)) .no) .no) .no) .no)) .no))) (.alt 4 (.alt 1 (.alt 2 (.alt 5 (.alt 7 (.alt 8 (.take 9 (.alt 10 (.take 11 .done) .no)) .no) .no) (.alt 7 (.alt 5 (.alt 8 (.take 9 (.alt 10 (.take 11 .done) .no)) .no) .no) .no)) (.alt 7 (.alt 2 (.alt 5 (.alt 8 (.take 9 (.alt 10 (.take 11 .done) .no)) .no) .no) .no) .no)) (.alt 7 (.alt 1 (.alt 2 (.alt 5 (.alt 8 (.take 9 (.alt 10 (.take 11 .done) .no)) .no) .no) .no) .no) .no)) (.alt 7 (.alt 1 (.alt 2 (.alt 4 (.alt 5 (.alt 8 (.take 9 (.alt 10 (.take 11 .done) .no)) .no) .no) .no) (.alt 4 (.alt 2 (.alt 5 (.alt 8 (.take 9 (.alt 10 (.take 11 .done) .no)) .no) .no) .no) .no)) (.alt 4 (.alt 1 (.alt 2 (.alt 5 (.alt 8 (.take 9 (.alt 10 (.take 11 .done) .no)) .no) .no) .no) .no) .no)) .no)))))) | false => .done), fun i => (match decide (i = 1) with | true => some [false, false, true, false, false, false, false, false, false, false, false, false, false, false] | false => none), fun i => false, fun i => []⟩
def τ_i_ownDraft : Env := Env.of [(2, (.int .i64)), (30, (.pair (.sl (.sl (.int .u8))) (.pair (.sl (.pair (.int .i64) (.pair (.sl (.int .u8)) .unit))) .unit))), (43, (.sl (.int .i64))), (56, (.pair (.pair (.sl (.sl (.int .u8))) (.pair (.sl (.pair (.int .i64) (.pair (.sl (.int .u8)) .unit))) .unit)) (.pair (.sl (.int .i64)) (.pair (.sl (.int .i64)) .unit))))] [(135, (.pair (.pair (.sl (.sl (.int .u8))) (.pair (.sl (.pair (.int .i64) (.pair (.sl (.int .u8)) .unit))) .unit)) (.pair (.sl (.int .i64)) (.pair (.sl (.int .i64)) .unit))))] []

theorem ct_i_ownDraft (d : ((List (List (Int))) × (List ((Int) × (List (Int)) × Unit)) × Unit) × (List (Int)) × (List (Int)) × Unit) : Ct pg 111 [.dat (.pair (.pair (.sl (.sl (.int .u8))) (.pair (.sl (.pair (.int .i64) (.pair (.sl (.int .u8)) .unit))) .unit)) (.pair (.sl (.int .i64)) (.pair (.sl (.int .i64)) .unit))) d] ⟨[Q_i_ownDraft d], [⟨(.pair (.pair (.sl (.sl (.int .u8))) (.pair (.sl (.pair (.int .i64) (.pair (.sl (.int .u8)) .unit))) .unit)) (.pair (.sl (.int .i64)) (.pair (.sl (.int .i64)) .unit))), (.np (.pr (.pr (.ow (.ow .sh)) (.pr (.ow (.pr .sh (.pr (.ow .sh) .sh))) .sh)) (.pr (.ow .sh) (.pr (.ow .sh) .sh)))), F_i_ownDraft d⟩], []⟩ := by
  refine ct_claim (O := O_i_ownDraft) (τ := τ_i_ownDraft) (EnvOk.of (by kernel_rfl) (by kernel_rfl)) (GOk.of (.cons ok_sl_Clone_int64 (.cons ok_i_ownDisk .nil) : AllOk pg [(159, con_sl_Clone_int64), (90, con_i_ownDisk)])) mixed (Enters.of (by kernel_rfl)) (fn := Go.Proofs.Try.f111) (by kernel_rfl) rfl (by kernel_rfl) ?_
  intro hp hw
  have hq : Q_i_ownDraft d := hp _ (List.mem_singleton.2 rfl)
  clear hp
  change claim Lg.std Alg.std τ_i_ownDraft (Gam.of [(159, ⟨true, g1 (pD (.sl (.int .i64))) fun s => ⟨[Q_sl_Clone_int64 s], [⟨(.sl (.int .i64)), (.ow .sh), F_sl_Clone_int64 s⟩], []⟩, [], false, 0⟩), (90, ⟨true, g1 (pD (.pair (.sl (.sl (.int .u8))) (.pair (.sl (.pair (.int .i64) (.pair (.sl (.int .u8)) .unit))) .unit))) fun d => ⟨[Q_i_ownDisk d], [⟨(.pair (.sl (.sl (.int .u8))) (.pair (.sl (.pair (.int .i64) (.pair (.sl (.int .u8)) .unit))) .unit)), (.pr (.ow (.ow .sh)) (.pr (.ow (.pr .sh (.pr (.ow .sh) .sh))) .sh)), F_i_ownDisk d⟩], []⟩, [], false, 0⟩)]) O_i_ownDraft Go.Proofs.Try.f111 [.dat (.pair (.pair (.sl (.sl (.int .u8))) (.pair (.sl (.pair (.int .i64) (.pair (.sl (.int .u8)) .unit))) .unit)) (.pair (.sl (.int .i64)) (.pair (.sl (.int .i64)) .unit))) d] ⟨[Q_i_ownDraft d], [⟨(.pair (.pair (.sl (.sl (.int .u8))) (.pair (.sl (.pair (.int .i64) (.pair (.sl (.int .u8)) .unit))) .unit)) (.pair (.sl (.int .i64)) (.pair (.sl (.int .i64)) .unit))), (.np (.pr (.pr (.ow (.ow .sh)) (.pr (.ow (.pr .sh (.pr (.ow .sh) .sh))) .sh)) (.pr (.ow .sh) (.pr (.ow .sh) .sh)))), F_i_ownDraft d⟩], []⟩
  generalize hg_F_sl_Clone_int64 : F_sl_Clone_int64 = g_F_sl_Clone_int64
  generalize hg_Q_sl_Clone_int64 : Q_sl_Clone_int64 = g_Q_sl_Clone_int64
  generalize hg_F_i_ownDisk : F_i_ownDisk = g_F_i_ownDisk
  generalize hg_Q_i_ownDisk : Q_i_ownDisk = g_Q_i_ownDisk
  generalize hR0 : F_i_ownDraft d = R0
  generalize Q_i_ownDraft d = Q0
  generalize hL : Lg.std = L
  generalize hA : Alg.std = A
  cbv
  subst hL hA
  try dsimp only [Ty.den]
  obtain ⟨⟨d_0_0, d_0_1, ⟨⟩⟩, d_1, d_2, ⟨⟩⟩ := d
  have hle1 := tot_len tPut d_0_1
  subst hR0 hg_F_sl_Clone_int64 hg_Q_sl_Clone_int64 hg_F_i_ownDisk hg_Q_i_ownDisk
  simp only [Q_i_ownDraft] at hq
  simp only [tot_p, tot_u, tot_int] at hq
  simp only [Lg.std, Alg.std, List.drop_zero, List.take_length, F_sl_Clone_int64, F_i_ownDisk, Q_sl_Clone_int64, Q_i_ownDisk, F_i_ownDraft] at *
  try simp only [true_and, and_true, false_implies, implies_true, imp_self]
  simp only [tot_p, tot_u, tot_int]
  repeat' (first | intro _ | apply And.intro)
  all_goals grind
def con_i_ownDraft : Con := ⟨true, g1 (pD (.pair (.pair (.sl (.sl (.int .u8))) (.pair (.sl (.pair (.int .i64) (.pair (.sl (.int .u8)) .unit))) .unit)) (.pair (.sl (.int .i64)) (.pair (.sl (.int .i64)) .unit)))) fun d => ⟨[Q_i_ownDraft d], [⟨(.pair (.pair (.sl (.sl (.int .u8))) (.pair (.sl (.pair (.int .i64) (.pair (.sl (.int .u8)) .unit))) .unit)) (.pair (.sl (.int .i64)) (.pair (.sl (.int .i64)) .unit))), (.np (.pr (.pr (.ow (.ow .sh)) (.pr (.ow (.pr .sh (.pr (.ow .sh) .sh))) .sh)) (.pr (.ow .sh) (.pr (.ow .sh) .sh)))), F_i_ownDraft d⟩], []⟩, [], false, 0⟩
theorem ok_i_ownDraft : ConOk pg 111 con_i_ownDraft := ConOk.g1 (Enters.of (by kernel_rfl)) ct_i_ownDraft

def F_s_l16Copy (d : ((List (List (Int))) × (List ((Int) × (List (Int)) × Unit)) × Unit) × (List (Int)) × (List (Int)) × Unit) : ((List (List (Int))) × (List ((Int) × (List (Int)) × Unit)) × Unit) × (List (Int)) × (List (Int)) × Unit := d
def Q_s_l16Copy (d : ((List (List (Int))) × (List ((Int) × (List (Int)) × Unit)) × Unit) × (List (Int)) × (List (Int)) × Unit) : Prop := tot tDisk d.1 ≤ 1048576 ∧ d.2.1.length ≤ 1048576 ∧ d.2.2.1.length ≤ 1048576
def O_s_l16Copy : Opt := ⟨fun i => false, fun i => [], fun i => (match decide (i = 1) with | true => (.take 0 (.take 1 (.take 2 (.take 4 (.take 5 (.take 6 (.take 9 (.take 10 (.take 11 (.alt 3 (.alt 7 (.alt 8 (.alt 12 (.alt 13 (.take 14 (.alt 15 .done .no)) .no) .no) (.alt 12 (.alt 8 (.alt 13 (.take 14 (.alt 15 .done .no)) .no) .no) .no)) (.alt 12 (.alt 7 (.alt 8 (.alt 13 (.take 14 (.alt 15 .done .no)) .no) .no) .no) .no)) (.alt 7 (.alt 3 (.alt 8 (.alt 12 (.alt 13 (.take 14 (.alt 15 .done .no)) .no) .no) (.alt 12 (.alt 8 (.alt 13 (.take 14 (.alt 15 .done .no)) .no) .no) .no)) (.alt 12 (.alt 3 (.alt 8 (.alt 13 (.take 14 (.alt 15 .done .no)) .no) .no) .no) .no)) (.alt 12 (.alt 3 (.alt 7 (.alt 8 (.alt 13 (.take 14 (.alt 15 .done .no)) .no) .no) .no) (.alt 7 (.alt 3 (.alt 8 (.alt 13 (.take 14 (.alt 15 .done .no)) .no) .no) .no) .no)) .no)))))))))))) | false => .done), fun i => (match decide (i = 1) with | true => some [false, false, true, false, false, false, false, false, false, false, false, false, false, false, false, false, false, false] | false => none), fun i => false, fun i => []⟩
def τ_s_l16Copy : Env := Env.of [(2, (.int .i64)), (30, (.pair (.sl (.sl (.int .u8))) (.pair (.sl (.pair (.int .i64) (.pair (.sl (.int .u8)) .unit))) .unit))), (43, (.sl (.int .i64))), (56, (.pair (.pair (.sl (.sl (.int .u8))) (.pair (.sl (.pair (.int .i64) (.pair (.sl (.int .u8)) .unit))) .unit)) (.pair (.sl (.int .i64)) (.pair (.sl (.int .i64)) .unit))))] [(114, (.pair (.sl (.sl (.int .u8))) (.pair (.sl (.pair (.int .i64) (.pair (.sl (.int .u8)) .unit))) .unit))), (135, (.pair (.pair (.sl (.sl (.int .u8))) (.pair (.sl (.pair (.int .i64) (.pair (.sl (.int .u8)) .unit))) .unit)) (.pair (.sl (.int .i64)) (.pair (.sl (.int .i64)) .unit))))] []

theorem ct_s_l16Copy (d : ((List (List (Int))) × (List ((Int) × (List (Int)) × Unit)) × Unit) × (List (Int)) × (List (Int)) × Unit) : Ct pg 110 [.dptr (.pair (.pair (.sl (.sl (.int .u8))) (.pair (.sl (.pair (.int .i64) (.pair (.sl (.int .u8)) .unit))) .unit)) (.pair (.sl (.int .i64)) (.pair (.sl (.int .i64)) .unit))) d] ⟨[Q_s_l16Copy d], [⟨(.pair (.pair (.sl (.sl (.int .u8))) (.pair (.sl (.pair (.int .i64) (.pair (.sl (.int .u8)) .unit))) .unit)) (.pair (.sl (.int .i64)) (.pair (.sl (.int .i64)) .unit))), (.pr (.pr (.ow (.ow .sh)) (.pr (.ow (.pr .sh (.pr (.ow .sh) .sh))) .sh)) (.pr (.ow .sh) (.pr (.ow .sh) .sh))), F_s_l16Copy d⟩], []⟩ := by
  refine ct_claim (O := O_s_l16Copy) (τ := τ_s_l16Copy) (EnvOk.of (by kernel_rfl) (by kernel_rfl)) (GOk.of (.cons ok_s_l14Copy (.cons ok_s_l1Ints .nil) : AllOk pg [(83, con_s_l14Copy), (163, con_s_l1Ints)])) mixed (Enters.of (by kernel_rfl)) (fn := Go.Proofs.Try.f110) (by kernel_rfl) rfl (by kernel_rfl) ?_
  intro hp hw
  have hq : Q_s_l16Copy d := hp _ (List.mem_singleton.2 rfl)
  clear hp
  change claim Lg.std Alg.std τ_s_l16Copy (Gam.of [(83, ⟨true, g1 (pP (.pair (.sl (.sl (.int .u8))) (.pair (.sl (.pair (.int .i64) (.pair (.sl (.int .u8)) .unit))) .unit))) fun d => ⟨[Q_s_l14Copy d], [⟨(.pair (.sl (.sl (.int .u8))) (.pair (.sl (.pair (.int .i64) (.pair (.sl (.int .u8)) .unit))) .unit)), (.pr (.ow (.ow .sh)) (.pr (.ow (.pr .sh (.pr (.ow .sh) .sh))) .sh)), F_s_l14Copy d⟩], []⟩, [], false, 0⟩), (163, ⟨true, g1 (pD (.sl (.int .i64))) fun l => ⟨[Q_s_l1Ints l], [⟨(.sl (.int .i64)), (.ow .sh), F_s_l1Ints l⟩], []⟩, [], false, 0⟩)]) O_s_l16Copy Go.Proofs.Try.f110 [.dptr (.pair (.pair (.sl (.sl (.int .u8))) (.pair (.sl (.pair (.int .i64) (.pair (.sl (.int .u8)) .unit))) .unit)) (.pair (.sl (.int .i64)) (.pair (.sl (.int .i64)) .unit))) d] ⟨[Q_s_l16Copy d], [⟨(.pair (.pair (.sl (.sl (.int .u8))) (.pair (.sl (.pair (.int .i64) (.pair (.sl (.int .u8)) .unit))) .unit)) (.pair (.sl (.int .i64)) (.pair (.sl (.int .i64)) .unit))), (.pr (.pr (.ow (.ow .sh)) (.pr (.ow (.pr .sh (.pr (.ow .sh) .sh))) .sh)) (.pr (.ow .sh) (.pr (.ow .sh) .sh))), F_s_l16Copy d⟩], []⟩
  generalize hg_F_s_l14Copy : F_s_l14Copy = g_F_s_l14Copy
  generalize hg_Q_s_l14Copy : Q_s_l14Copy = g_Q_s_l14Copy
  generalize hg_F_s_l1Ints : F_s_l1Ints = g_F_s_l1Ints
  generalize hg_Q_s_l1Ints : Q_s_l1Ints = g_Q_s_l1Ints
  generalize hR0 : F_s_l16Copy d = R0
  generalize Q_s_l16Copy d = Q0
  generalize hL : Lg.std = L
  generalize hA : Alg.std = A
  cbv
  subst hL hA
  try dsimp only [Ty.den]
  obtain ⟨⟨d_0_0, d_0_1, ⟨⟩⟩, d_1, d_2, ⟨⟩⟩ := d
  have hle1 := tot_len tPut d_0_1
  subst hR0 hg_F_s_l14Copy hg_Q_s_l14Copy hg_F_s_l1Ints hg_Q_s_l1Ints
  simp only [Q_s_l16Copy] at hq
  simp only [tot_p, tot_u, tot_int] at hq
  simp only [Lg.std, Alg.std, List.drop_zero, List.take_length, F_s_l14Copy, F_s_l1Ints, Q_s_l14Copy, Q_s_l1Ints, F_s_l16Copy] at *
  try simp only [true_and, and_true, false_implies, implies_true, imp_self]
  simp only [tot_p, tot_u, tot_int]
  repeat' (first | intro _ | apply And.intro)
  all_goals grind
def con_s_l16Copy : Con := ⟨true, g1 (pP (.pair (.pair (.sl (.sl (.int .u8))) (.pair (.sl (.pair (.int .i64) (.pair (.sl (.int .u8)) .unit))) .unit)) (.pair (.sl (.int .i64)) (.pair (.sl (.int .i64)) .unit)))) fun d => ⟨[Q_s_l16Copy d], [⟨(.pair (.pair (.sl (.sl (.int .u8))) (.pair (.sl (.pair (.int .i64) (.pair (.sl (.int .u8)) .unit))) .unit)) (.pair (.sl (.int .i64)) (.pair (.sl (.int .i64)) .unit))), (.pr (.pr (.ow (.ow .sh)) (.pr (.ow (.pr .sh (.pr (.ow .sh) .sh))) .sh)) (.pr (.ow .sh) (.pr (.ow .sh) .sh))), F_s_l16Copy d⟩], []⟩, [], false, 0⟩
theorem ok_s_l16Copy : ConOk pg 110 con_s_l16Copy := ConOk.g1 (Enters.of (by kernel_rfl)) ct_s_l16Copy
end Go.Vee
