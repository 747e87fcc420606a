/-
  Contracts of functions of the program: what each returns for all arguments that its precondition lets in.
-/
import Derived.Test.YtoomfdnohpkepaaVK13
set_option linter.unusedSimpArgs false
set_option linter.unusedVariables false
set_option maxRecDepth 100000
set_option maxHeartbeats 4000000
set_option synthInstance.maxHeartbeats 4000000
set_option synthInstance.maxSize 20000
namespace Go.Vee
open Go
abbrev zDraft : DraftT := (zDisk, [], [], ())
def startDraft (d : DiskT) (kept : List Int) : Int × DraftT × Unit := if draftFault (d, kept, [], ()) ≠ 0 then (draftFault (d, kept, [], ()), zDraft, ()) else (0, (d, kept, [], ()), ())
def freeL (k t : List Int) : Nat → Int → List Int
  | 0, _ => []
  | m + 1, n => if k.contains n = false ∧ t.contains n = false then n :: freeL k t m (n + 1) else freeL k t m (n + 1)
def freeOf (d : DraftT) : List Int := freeL d.2.1 d.2.2.1 (d.1.1.length - 2) 2
def freeIn (d : DraftT) : Int × List Int × Unit := if draftFault d ≠ 0 then (draftFault d, [], ()) else (0, freeOf d, ())
theorem freeL_step (k t : List Int) (L : Nat) (n : Int) (h0 : 0 ≤ n) (h : n < L) : freeL k t (L - n.toNat) n = if k.contains n = false ∧ t.contains n = false then n :: freeL k t (L - (n.toNat + 1)) (n + 1) else freeL k t (L - (n.toNat + 1)) (n + 1) := by
  have : L - n.toNat = (L - (n.toNat + 1)) + 1 := by omega
  rw [this]; rfl
theorem freeL_end (k t : List Int) (L : Nat) (n : Int) (h : (L : Int) ≤ n) : freeL k t (L - n.toNat) n = [] := by
  have : L - n.toNat = 0 := by omega
  rw [this]; rfl
theorem freeL_len (k t : List Int) : ∀ (m : Nat) (n : Int), (freeL k t m n).length ≤ m
  | 0, n => by simp [freeL]
  | m + 1, n => by
    have := freeL_len k t m (n + 1)
    unfold freeL
    split
    · simp; omega
    · omega
theorem draftFault_disk (d : DraftT) (h : draftFault d = 0) : diskFault d.1 = 0 := by
  unfold draftFault at h
  split at h
  · rename_i e; exact absurd h e
  · rename_i e; simpa using e
theorem startDraft_tot (d : DiskT) (kept : List Int) : tot (.pair (.pair (.sl (.sl (.int .u8))) (.pair (.sl (.pair (.int .i64) (.pair (.sl (.int .u8)) .unit))) .unit)) (.pair (.sl (.int .i64)) (.pair (.sl (.int .i64)) .unit))) (startDraft d kept).2.1 ≤ tot tDisk d + kept.length := by
  unfold startDraft
  split
  · simp [tot, totL]
  · simp only [tDisk, tPut, tot_p, tot_u, tot_int, List.length_nil]; omega
theorem freeIn_tot (d : DraftT) : (freeIn d).2.1.length ≤ tot (.pair (.pair (.sl (.sl (.int .u8))) (.pair (.sl (.pair (.int .i64) (.pair (.sl (.int .u8)) .unit))) .unit)) (.pair (.sl (.int .i64)) (.pair (.sl (.int .i64)) .unit))) d := by
  have hle : d.1.1.length ≤ tot (.sl (.sl (.int .u8))) d.1.1 := tot_len (.sl (.int .u8)) d.1.1
  simp only [tot_p, tot_u]
  refine Nat.le_trans (?_ : _ ≤ d.1.1.length) (by omega)
  unfold freeIn
  split
  · simp
  · have := freeL_len d.2.1 d.2.2.1 (d.1.1.length - 2) 2
    show (freeL _ _ _ _).length ≤ _
    omega

def F_w_eqDraftResult (a : (Int) × (((List (List (Int))) × (List ((Int) × (List (Int)) × Unit)) × Unit) × (List (Int)) × (List (Int)) × Unit) × Unit) (b : (Int) × (((List (List (Int))) × (List ((Int) × (List (Int)) × Unit)) × Unit) × (List (Int)) × (List (Int)) × Unit) × Unit) : Bool := decide (a = b)
def Q_w_eqDraftResult (a : (Int) × (((List (List (Int))) × (List ((Int) × (List (Int)) × Unit)) × Unit) × (List (Int)) × (List (Int)) × Unit) × Unit) (b : (Int) × (((List (List (Int))) × (List ((Int) × (List (Int)) × Unit)) × Unit) × (List (Int)) × (List (Int)) × Unit) × Unit) : Prop := True
def O_w_eqDraftResult : Opt := ⟨fun i => false, fun i => [], fun i => .done, fun i => none, fun i => false, fun i => []⟩
def τ_w_eqDraftResult : Env := Env.of [(2, (.int .i64)), (4, .bool), (56, (.pair (.pair (.sl (.sl (.int .u8))) (.pair (.sl (.pair (.int .i64) (.pair (.sl (.int .u8)) .unit))) .unit)) (.pair (.sl (.int .i64)) (.pair (.sl (.int .i64)) .unit)))), (64, (.pair (.int .i64) (.pair (.pair (.pair (.sl (.sl (.int .u8))) (.pair (.sl (.pair (.int .i64) (.pair (.sl (.int .u8)) .unit))) .unit)) (.pair (.sl (.int .i64)) (.pair (.sl (.int .i64)) .unit))) .unit)))] [] []

theorem ct_w_eqDraftResult (a : (Int) × (((List (List (Int))) × (List ((Int) × (List (Int)) × Unit)) × Unit) × (List (Int)) × (List (Int)) × Unit) × Unit) (b : (Int) × (((List (List (Int))) × (List ((Int) × (List (Int)) × Unit)) × Unit) × (List (Int)) × (List (Int)) × Unit) × Unit) : Ct pg 42 [.dat (.pair (.int .i64) (.pair (.pair (.pair (.sl (.sl (.int .u8))) (.pair (.sl (.pair (.int .i64) (.pair (.sl (.int .u8)) .unit))) .unit)) (.pair (.sl (.int .i64)) (.pair (.sl (.int .i64)) .unit))) .unit)) a, .dat (.pair (.int .i64) (.pair (.pair (.pair (.sl (.sl (.int .u8))) (.pair (.sl (.pair (.int .i64) (.pair (.sl (.int .u8)) .unit))) .unit)) (.pair (.sl (.int .i64)) (.pair (.sl (.int .i64)) .unit))) .unit)) b] ⟨[Q_w_eqDraftResult a b], [⟨.bool, .sh, F_w_eqDraftResult a b⟩], []⟩ := by
  refine ct_claim (O := O_w_eqDraftResult) (τ := τ_w_eqDraftResult) (EnvOk.of (by kernel_rfl) (by kernel_rfl)) (GOk.of (.cons ok_w_eqDraft .nil : AllOk pg [(36, con_w_eqDraft)])) mixed (Enters.of (by kernel_rfl)) (fn := Go.Proofs.Try.f42) (by kernel_rfl) rfl (by kernel_rfl) ?_
  intro hp hw
  have hq : Q_w_eqDraftResult a b := hp _ (List.mem_singleton.2 rfl)
  clear hp
  change claim Lg.std Alg.std τ_w_eqDraftResult (Gam.of [(36, ⟨true, g2 (pD (.pair (.pair (.sl (.sl (.int .u8))) (.pair (.sl (.pair (.int .i64) (.pair (.sl (.int .u8)) .unit))) .unit)) (.pair (.sl (.int .i64)) (.pair (.sl (.int .i64)) .unit)))) (pD (.pair (.pair (.sl (.sl (.int .u8))) (.pair (.sl (.pair (.int .i64) (.pair (.sl (.int .u8)) .unit))) .unit)) (.pair (.sl (.int .i64)) (.pair (.sl (.int .i64)) .unit)))) fun a b => ⟨[Q_w_eqDraft a b], [⟨.bool, .sh, F_w_eqDraft a b⟩], []⟩, []⟩)]) O_w_eqDraftResult Go.Proofs.Try.f42 [.dat (.pair (.int .i64) (.pair (.pair (.pair (.sl (.sl (.int .u8))) (.pair (.sl (.pair (.int .i64) (.pair (.sl (.int .u8)) .unit))) .unit)) (.pair (.sl (.int .i64)) (.pair (.sl (.int .i64)) .unit))) .unit)) a, .dat (.pair (.int .i64) (.pair (.pair (.pair (.sl (.sl (.int .u8))) (.pair (.sl (.pair (.int .i64) (.pair (.sl (.int .u8)) .unit))) .unit)) (.pair (.sl (.int .i64)) (.pair (.sl (.int .i64)) .unit))) .unit)) b] ⟨[Q_w_eqDraftResult a b], [⟨.bool, .sh, F_w_eqDraftResult a b⟩], []⟩
  generalize hg_F_w_eqDraft : F_w_eqDraft = g_F_w_eqDraft
  generalize hg_Q_w_eqDraft : Q_w_eqDraft = g_Q_w_eqDraft
  generalize hR0 : F_w_eqDraftResult a b = R0
  generalize Q_w_eqDraftResult a b = Q0
  generalize hL : Lg.std = L
  generalize hA : Alg.std = A
  cbv
  subst hL hA
  try dsimp only [Ty.den]
  obtain ⟨f0, f1, ⟨⟩⟩ := a
  obtain ⟨g0, g1, ⟨⟩⟩ := b
  subst hR0 hg_F_w_eqDraft hg_Q_w_eqDraft
  simp only [Q_w_eqDraftResult] at hq
  simp only [Lg.std, Alg.std, List.drop_zero, List.take_length, F_w_eqDraft, Q_w_eqDraft, F_w_eqDraftResult]
  all_goals grind
def con_w_eqDraftResult : Con := ⟨true, g2 (pD (.pair (.int .i64) (.pair (.pair (.pair (.sl (.sl (.int .u8))) (.pair (.sl (.pair (.int .i64) (.pair (.sl (.int .u8)) .unit))) .unit)) (.pair (.sl (.int .i64)) (.pair (.sl (.int .i64)) .unit))) .unit))) (pD (.pair (.int .i64) (.pair (.pair (.pair (.sl (.sl (.int .u8))) (.pair (.sl (.pair (.int .i64) (.pair (.sl (.int .u8)) .unit))) .unit)) (.pair (.sl (.int .i64)) (.pair (.sl (.int .i64)) .unit))) .unit))) fun a b => ⟨[Q_w_eqDraftResult a b], [⟨.bool, .sh, F_w_eqDraftResult a b⟩], []⟩, []⟩
theorem ok_w_eqDraftResult : ConOk pg 42 con_w_eqDraftResult := ConOk.g2 (Enters.of (by kernel_rfl)) ct_w_eqDraftResult

def F_w_markDraftResult (a : (Int) × (((List (List (Int))) × (List ((Int) × (List (Int)) × Unit)) × Unit) × (List (Int)) × (List (Int)) × Unit) × Unit) (k : Int) : Int := k + cnt false (.pair (.int .i64) (.pair (.pair (.pair (.sl (.sl (.int .u8))) (.pair (.sl (.pair (.int .i64) (.pair (.sl (.int .u8)) .unit))) .unit)) (.pair (.sl (.int .i64)) (.pair (.sl (.int .i64)) .unit))) .unit)) a
def B_w_markDraftResult_a (a : (Int) × (((List (List (Int))) × (List ((Int) × (List (Int)) × Unit)) × Unit) × (List (Int)) × (List (Int)) × Unit) × Unit) (k : Int) : (Int) × (((List (List (Int))) × (List ((Int) × (List (Int)) × Unit)) × Unit) × (List (Int)) × (List (Int)) × Unit) × Unit := mk false (.pair (.int .i64) (.pair (.pair (.pair (.sl (.sl (.int .u8))) (.pair (.sl (.pair (.int .i64) (.pair (.sl (.int .u8)) .unit))) .unit)) (.pair (.sl (.int .i64)) (.pair (.sl (.int .i64)) .unit))) .unit)) a k
def Q_w_markDraftResult (a : (Int) × (((List (List (Int))) × (List ((Int) × (List (Int)) × Unit)) × Unit) × (List (Int)) × (List (Int)) × Unit) × Unit) (k : Int) : Prop := 0 ≤ k ∧ k + cnt false (.pair (.int .i64) (.pair (.pair (.pair (.sl (.sl (.int .u8))) (.pair (.sl (.pair (.int .i64) (.pair (.sl (.int .u8)) .unit))) .unit)) (.pair (.sl (.int .i64)) (.pair (.sl (.int .i64)) .unit))) .unit)) a ≤ 4611686018427387904
def O_w_markDraftResult : Opt := ⟨fun i => false, fun i => [], fun i => .done, fun i => none, fun i => false, fun i => []⟩
def τ_w_markDraftResult : Env := Env.of [(3, (.int .i64)), (4, .bool), (56, (.pair (.pair (.sl (.sl (.int .u8))) (.pair (.sl (.pair (.int .i64) (.pair (.sl (.int .u8)) .unit))) .unit)) (.pair (.sl (.int .i64)) (.pair (.sl (.int .i64)) .unit)))), (64, (.pair (.int .i64) (.pair (.pair (.pair (.sl (.sl (.int .u8))) (.pair (.sl (.pair (.int .i64) (.pair (.sl (.int .u8)) .unit))) .unit)) (.pair (.sl (.int .i64)) (.pair (.sl (.int .i64)) .unit))) .unit)))] [] []

theorem ct_w_markDraftResult (a : (Int) × (((List (List (Int))) × (List ((Int) × (List (Int)) × Unit)) × Unit) × (List (Int)) × (List (Int)) × Unit) × Unit) (k : Int) : Ct pg 43 [.mv (.pair (.int .i64) (.pair (.pair (.pair (.sl (.sl (.int .u8))) (.pair (.sl (.pair (.int .i64) (.pair (.sl (.int .u8)) .unit))) .unit)) (.pair (.sl (.int .i64)) (.pair (.sl (.int .i64)) .unit))) .unit)) (.pr .sh (.pr (.pr (.pr (.ow (.ow .sh)) (.pr (.ow (.pr .sh (.pr (.ow .sh) .sh))) .sh)) (.pr (.ow .sh) (.pr (.ow .sh) .sh))) .sh)) a, .dat (.int .i64) k] ⟨[Q_w_markDraftResult a k], [⟨(.int .i64), .sh, F_w_markDraftResult a k⟩], [.mv (.pair (.int .i64) (.pair (.pair (.pair (.sl (.sl (.int .u8))) (.pair (.sl (.pair (.int .i64) (.pair (.sl (.int .u8)) .unit))) .unit)) (.pair (.sl (.int .i64)) (.pair (.sl (.int .i64)) .unit))) .unit)) (.pr .sh (.pr (.pr (.pr (.ow (.ow .sh)) (.pr (.ow (.pr .sh (.pr (.ow .sh) .sh))) .sh)) (.pr (.ow .sh) (.pr (.ow .sh) .sh))) .sh)) (B_w_markDraftResult_a a k)]⟩ := by
  refine ct_claim (O := O_w_markDraftResult) (τ := τ_w_markDraftResult) (EnvOk.of (by kernel_rfl) (by kernel_rfl)) (GOk.of (.cons ok_w_markDraft .nil : AllOk pg [(37, con_w_markDraft)])) mixed (Enters.of (by kernel_rfl)) (fn := Go.Proofs.Try.f43) (by kernel_rfl) rfl (by kernel_rfl) ?_
  intro hp hw
  have hq : Q_w_markDraftResult a k := hp _ (List.mem_singleton.2 rfl)
  clear hp
  change claim Lg.std Alg.std τ_w_markDraftResult (Gam.of [(37, ⟨true, g2 (pV (.pair (.pair (.sl (.sl (.int .u8))) (.pair (.sl (.pair (.int .i64) (.pair (.sl (.int .u8)) .unit))) .unit)) (.pair (.sl (.int .i64)) (.pair (.sl (.int .i64)) .unit))) (.pr (.pr (.ow (.ow .sh)) (.pr (.ow (.pr .sh (.pr (.ow .sh) .sh))) .sh)) (.pr (.ow .sh) (.pr (.ow .sh) .sh)))) (pD (.int .i64)) fun a k => ⟨[Q_w_markDraft a k], [⟨(.int .i64), .sh, F_w_markDraft a k⟩], [.mv (.pair (.pair (.sl (.sl (.int .u8))) (.pair (.sl (.pair (.int .i64) (.pair (.sl (.int .u8)) .unit))) .unit)) (.pair (.sl (.int .i64)) (.pair (.sl (.int .i64)) .unit))) (.pr (.pr (.ow (.ow .sh)) (.pr (.ow (.pr .sh (.pr (.ow .sh) .sh))) .sh)) (.pr (.ow .sh) (.pr (.ow .sh) .sh))) (B_w_markDraft_a a k)]⟩, [(.pr (.pr (.ow (.ow .sh)) (.pr (.ow (.pr .sh (.pr (.ow .sh) .sh))) .sh)) (.pr (.ow .sh) (.pr (.ow .sh) .sh)))]⟩)]) O_w_markDraftResult Go.Proofs.Try.f43 [.mv (.pair (.int .i64) (.pair (.pair (.pair (.sl (.sl (.int .u8))) (.pair (.sl (.pair (.int .i64) (.pair (.sl (.int .u8)) .unit))) .unit)) (.pair (.sl (.int .i64)) (.pair (.sl (.int .i64)) .unit))) .unit)) (.pr .sh (.pr (.pr (.pr (.ow (.ow .sh)) (.pr (.ow (.pr .sh (.pr (.ow .sh) .sh))) .sh)) (.pr (.ow .sh) (.pr (.ow .sh) .sh))) .sh)) a, .dat (.int .i64) k] ⟨[Q_w_markDraftResult a k], [⟨(.int .i64), .sh, F_w_markDraftResult a k⟩], [.mv (.pair (.int .i64) (.pair (.pair (.pair (.sl (.sl (.int .u8))) (.pair (.sl (.pair (.int .i64) (.pair (.sl (.int .u8)) .unit))) .unit)) (.pair (.sl (.int .i64)) (.pair (.sl (.int .i64)) .unit))) .unit)) (.pr .sh (.pr (.pr (.pr (.ow (.ow .sh)) (.pr (.ow (.pr .sh (.pr (.ow .sh) .sh))) .sh)) (.pr (.ow .sh) (.pr (.ow .sh) .sh))) .sh)) (B_w_markDraftResult_a a k)]⟩
  generalize hg_F_w_markDraft : F_w_markDraft = g_F_w_markDraft
  generalize hg_B_w_markDraft_a : B_w_markDraft_a = g_B_w_markDraft_a
  generalize hg_Q_w_markDraft : Q_w_markDraft = g_Q_w_markDraft
  generalize hR0 : F_w_markDraftResult a k = R0
  generalize hB_a : B_w_markDraftResult_a a k = B_a
  generalize Q_w_markDraftResult a k = Q0
  generalize hL : Lg.std = L
  generalize hA : Alg.std = A
  cbv
  subst hL hA
  try dsimp only [Ty.den]
  obtain ⟨f0, f1, ⟨⟩⟩ := a
  simp only [Q_w_markDraftResult] at hq
  subst hR0 hB_a hg_F_w_markDraft hg_B_w_markDraft_a hg_Q_w_markDraft
  simp only [Lg.std, Alg.std, List.drop_zero, List.take_length, F_w_markDraft, B_w_markDraft_a, Q_w_markDraft, F_w_markDraftResult, B_w_markDraftResult_a, szf, tot_p, tot_u, tot_i, tot_b, tot_s, cnt_p, cnt_u, cnt_i0, cnt_b0, cnt_s0, cnt_i1, cnt_b1, cnt_s1, cnt_l, mk_p, mk_u, mk_i0, mk_b0, mk_s0, mk_i1, mk_s1, mk_l, hd_p, hd_u, hd_i0, hd_b0, hd_s0, hd_i1, hd_b1, hd_s1, hd_l] at *
  all_goals grind [mk_len]
def con_w_markDraftResult : Con := ⟨true, g2 (pV (.pair (.int .i64) (.pair (.pair (.pair (.sl (.sl (.int .u8))) (.pair (.sl (.pair (.int .i64) (.pair (.sl (.int .u8)) .unit))) .unit)) (.pair (.sl (.int .i64)) (.pair (.sl (.int .i64)) .unit))) .unit)) (.pr .sh (.pr (.pr (.pr (.ow (.ow .sh)) (.pr (.ow (.pr .sh (.pr (.ow .sh) .sh))) .sh)) (.pr (.ow .sh) (.pr (.ow .sh) .sh))) .sh))) (pD (.int .i64)) fun a k => ⟨[Q_w_markDraftResult a k], [⟨(.int .i64), .sh, F_w_markDraftResult a k⟩], [.mv (.pair (.int .i64) (.pair (.pair (.pair (.sl (.sl (.int .u8))) (.pair (.sl (.pair (.int .i64) (.pair (.sl (.int .u8)) .unit))) .unit)) (.pair (.sl (.int .i64)) (.pair (.sl (.int .i64)) .unit))) .unit)) (.pr .sh (.pr (.pr (.pr (.ow (.ow .sh)) (.pr (.ow (.pr .sh (.pr (.ow .sh) .sh))) .sh)) (.pr (.ow .sh) (.pr (.ow .sh) .sh))) .sh)) (B_w_markDraftResult_a a k)]⟩, [(.pr .sh (.pr (.pr (.pr (.ow (.ow .sh)) (.pr (.ow (.pr .sh (.pr (.ow .sh) .sh))) .sh)) (.pr (.ow .sh) (.pr (.ow .sh) .sh))) .sh))]⟩
theorem ok_w_markDraftResult : ConOk pg 43 con_w_markDraftResult := ConOk.g2 (Enters.of (by kernel_rfl)) ct_w_markDraftResult

def F_w_heldDraftResult (a : (Int) × (((List (List (Int))) × (List ((Int) × (List (Int)) × Unit)) × Unit) × (List (Int)) × (List (Int)) × Unit) × Unit) (k : Int) : Int := hd false (.pair (.int .i64) (.pair (.pair (.pair (.sl (.sl (.int .u8))) (.pair (.sl (.pair (.int .i64) (.pair (.sl (.int .u8)) .unit))) .unit)) (.pair (.sl (.int .i64)) (.pair (.sl (.int .i64)) .unit))) .unit)) a k
def Q_w_heldDraftResult (a : (Int) × (((List (List (Int))) × (List ((Int) × (List (Int)) × Unit)) × Unit) × (List (Int)) × (List (Int)) × Unit) × Unit) (k : Int) : Prop := 0 ≤ k ∧ k + cnt false (.pair (.int .i64) (.pair (.pair (.pair (.sl (.sl (.int .u8))) (.pair (.sl (.pair (.int .i64) (.pair (.sl (.int .u8)) .unit))) .unit)) (.pair (.sl (.int .i64)) (.pair (.sl (.int .i64)) .unit))) .unit)) a ≤ 4611686018427387904
def O_w_heldDraftResult : Opt := ⟨fun i => false, fun i => [], fun i => .done, fun i => none, fun i => false, fun i => []⟩
def τ_w_heldDraftResult : Env := Env.of [(3, (.int .i64)), (4, .bool), (56, (.pair (.pair (.sl (.sl (.int .u8))) (.pair (.sl (.pair (.int .i64) (.pair (.sl (.int .u8)) .unit))) .unit)) (.pair (.sl (.int .i64)) (.pair (.sl (.int .i64)) .unit)))), (64, (.pair (.int .i64) (.pair (.pair (.pair (.sl (.sl (.int .u8))) (.pair (.sl (.pair (.int .i64) (.pair (.sl (.int .u8)) .unit))) .unit)) (.pair (.sl (.int .i64)) (.pair (.sl (.int .i64)) .unit))) .unit)))] [] []

theorem ct_w_heldDraftResult (a : (Int) × (((List (List (Int))) × (List ((Int) × (List (Int)) × Unit)) × Unit) × (List (Int)) × (List (Int)) × Unit) × Unit) (k : Int) : Ct pg 44 [.dat (.pair (.int .i64) (.pair (.pair (.pair (.sl (.sl (.int .u8))) (.pair (.sl (.pair (.int .i64) (.pair (.sl (.int .u8)) .unit))) .unit)) (.pair (.sl (.int .i64)) (.pair (.sl (.int .i64)) .unit))) .unit)) a, .dat (.int .i64) k] ⟨[Q_w_heldDraftResult a k], [⟨(.int .i64), .sh, F_w_heldDraftResult a k⟩], []⟩ := by
  refine ct_claim (O := O_w_heldDraftResult) (τ := τ_w_heldDraftResult) (EnvOk.of (by kernel_rfl) (by kernel_rfl)) (GOk.of (.cons ok_w_heldDraft .nil : AllOk pg [(112, con_w_heldDraft)])) mixed (Enters.of (by kernel_rfl)) (fn := Go.Proofs.Try.f44) (by kernel_rfl) rfl (by kernel_rfl) ?_
  intro hp hw
  have hq : Q_w_heldDraftResult a k := hp _ (List.mem_singleton.2 rfl)
  clear hp
  change claim Lg.std Alg.std τ_w_heldDraftResult (Gam.of [(112, ⟨true, g2 (pD (.pair (.pair (.sl (.sl (.int .u8))) (.pair (.sl (.pair (.int .i64) (.pair (.sl (.int .u8)) .unit))) .unit)) (.pair (.sl (.int .i64)) (.pair (.sl (.int .i64)) .unit)))) (pD (.int .i64)) fun a k => ⟨[Q_w_heldDraft a k], [⟨(.int .i64), .sh, F_w_heldDraft a k⟩], []⟩, []⟩)]) O_w_heldDraftResult Go.Proofs.Try.f44 [.dat (.pair (.int .i64) (.pair (.pair (.pair (.sl (.sl (.int .u8))) (.pair (.sl (.pair (.int .i64) (.pair (.sl (.int .u8)) .unit))) .unit)) (.pair (.sl (.int .i64)) (.pair (.sl (.int .i64)) .unit))) .unit)) a, .dat (.int .i64) k] ⟨[Q_w_heldDraftResult a k], [⟨(.int .i64), .sh, F_w_heldDraftResult a k⟩], []⟩
  generalize hg_F_w_heldDraft : F_w_heldDraft = g_F_w_heldDraft
  generalize hg_Q_w_heldDraft : Q_w_heldDraft = g_Q_w_heldDraft
  generalize hR0 : F_w_heldDraftResult a k = R0
  generalize Q_w_heldDraftResult a k = Q0
  generalize hL : Lg.std = L
  generalize hA : Alg.std = A
  cbv
  subst hL hA
  try dsimp only [Ty.den]
  obtain ⟨f0, f1, ⟨⟩⟩ := a
  have ho1 := fun k h => hd_or false (.pair (.pair (.sl (.sl (.int .u8))) (.pair (.sl (.pair (.int .i64) (.pair (.sl (.int .u8)) .unit))) .unit)) (.pair (.sl (.int .i64)) (.pair (.sl (.int .i64)) .unit))) f1 k h
  simp only [Q_w_heldDraftResult] at hq
  subst hR0 hg_F_w_heldDraft hg_Q_w_heldDraft
  simp only [Lg.std, Alg.std, List.drop_zero, List.take_length, F_w_heldDraft, Q_w_heldDraft, F_w_heldDraftResult, szf, tot_p, tot_u, tot_i, tot_b, tot_s, cnt_p, cnt_u, cnt_i0, cnt_b0, cnt_s0, cnt_i1, cnt_b1, cnt_s1, cnt_l, mk_p, mk_u, mk_i0, mk_b0, mk_s0, mk_i1, mk_s1, mk_l, hd_p, hd_u, hd_i0, hd_b0, hd_s0, hd_i1, hd_b1, hd_s1, hd_l] at *
  all_goals grind [mk_len]
def con_w_heldDraftResult : Con := ⟨true, g2 (pD (.pair (.int .i64) (.pair (.pair (.pair (.sl (.sl (.int .u8))) (.pair (.sl (.pair (.int .i64) (.pair (.sl (.int .u8)) .unit))) .unit)) (.pair (.sl (.int .i64)) (.pair (.sl (.int .i64)) .unit))) .unit))) (pD (.int .i64)) fun a k => ⟨[Q_w_heldDraftResult a k], [⟨(.int .i64), .sh, F_w_heldDraftResult a k⟩], []⟩, []⟩
theorem ok_w_heldDraftResult : ConOk pg 44 con_w_heldDraftResult := ConOk.g2 (Enters.of (by kernel_rfl)) ct_w_heldDraftResult

def F_s_l1Ints (l : List (Int)) : List (Int) := l
def Q_s_l1Ints (l : List (Int)) : Prop := l.length ≤ 1048576
def O_s_l1Ints : Opt := ⟨fun i => false, fun i => [], fun i => .done, fun i => none, fun i => false, fun i => []⟩
def τ_s_l1Ints : Env := Env.of [(2, (.int .i64)), (43, (.sl (.int .i64)))] [] []

theorem ct_s_l1Ints (l : List (Int)) : Ct pg 163 [.dat (.sl (.int .i64)) l] ⟨[Q_s_l1Ints l], [⟨(.sl (.int .i64)), (.ow .sh), F_s_l1Ints l⟩], []⟩ := by
  refine ct_claim (O := O_s_l1Ints) (τ := τ_s_l1Ints) (EnvOk.of (by kernel_rfl) (by kernel_rfl)) (GOk.of (.nil : AllOk pg [])) mixed (Enters.of (by kernel_rfl)) (fn := Go.Proofs.Try.f163) (by kernel_rfl) rfl (by kernel_rfl) ?_
  intro hp hw
  have hq : Q_s_l1Ints l := hp _ (List.mem_singleton.2 rfl)
  clear hp
  change claim Lg.std Alg.std τ_s_l1Ints (Gam.of []) O_s_l1Ints Go.Proofs.Try.f163 [.dat (.sl (.int .i64)) l] ⟨[Q_s_l1Ints l], [⟨(.sl (.int .i64)), (.ow .sh), F_s_l1Ints l⟩], []⟩
  generalize hR0 : F_s_l1Ints l = R0
  generalize Q_s_l1Ints l = Q0
  generalize hL : Lg.std = L
  generalize hA : Alg.std = A
  cbv
  subst hL hA
  try dsimp only [Ty.den]
  subst hR0
  simp only [Q_s_l1Ints] at hq
  simp only [Lg.std, Alg.std, List.drop_zero, List.take_length, F_s_l1Ints]
  all_goals grind
def con_s_l1Ints : Con := ⟨true, g1 (pD (.sl (.int .i64))) fun l => ⟨[Q_s_l1Ints l], [⟨(.sl (.int .i64)), (.ow .sh), F_s_l1Ints l⟩], []⟩, []⟩
theorem ok_s_l1Ints : ConOk pg 163 con_s_l1Ints := ConOk.g1 (Enters.of (by kernel_rfl)) ct_s_l1Ints

def F_i_ownDraft (d : ((List (List (Int))) × (List ((Int) × (List (Int)) × Unit)) × Unit) × (List (Int)) × (List (Int)) × Unit) : ((List (List (Int))) × (List ((Int) × (List (Int)) × Unit)) × Unit) × (List (Int)) × (List (Int)) × Unit := d
def Q_i_ownDraft (d : ((List (List (Int))) × (List ((Int) × (List (Int)) × Unit)) × Unit) × (List (Int)) × (List (Int)) × Unit) : Prop := tot tDisk d.1 ≤ 1048576 ∧ d.2.1.length ≤ 1048576 ∧ d.2.2.1.length ≤ 1048576
def O_i_ownDraft : Opt := ⟨fun i => false, fun i => [], fun i => (match decide (i = 1) with | true => (.take 0 (.take 3 (.take 6 (.alt 1 (.alt 2 (.alt 4 (.alt 5 (.alt 7 (.alt 8 (.take 9 (.alt 10 (.take 11 .done) .no)) .no) .no) (.alt 7 (.alt 5 (.alt 8 (.take 9 (.alt 10 (.take 11 .done) .no)) .no) .no) .no)) (.alt 7 (.alt 4 (.alt 5 (.alt 8 (.take 9 (.alt 10 (.take 11 .done) .no)) .no) .no) .no) .no)) (.alt 4 (.alt 2 (.alt 5 (.alt 7 (.alt 8 (.take 9 (.alt 10 (.take 11 .done) .no)) .no) .no) (.alt 7 (.alt 5 (.alt 8 (.take 9 (.alt 10 (.take 11 .done) .no)) .no) .no) .no)) (.alt 7 (.alt 2 (.alt 5 (.alt 8 (.take 9 (.alt 10 (.take 11 .done) .no)) .no) .no) .no) .no)) (.alt 7 (.alt 2 (.alt 4 (.alt 5 (.alt 8 (.take 9 (.alt 10 (.take 11 .done) .no)) .no) .no) .no) (.alt 4 (.alt 2 (.alt 5 (.alt 8 (.take 9 (.alt 10 (.take 11 .done) .no)) .no) .no) .no) .no)) .no))) (.alt 4 (.alt 1 (.alt 2 (.alt 5 (.alt 7 (.alt 8 (.take 9 (.alt 10 (.take 11 .done) .no)) .no) .no) (.alt 7 (.alt 5 (.alt 8 (.take 9 (.alt 10 (.take 11 .done) .no)) .no) .no) .no)) (.alt 7 (.alt 2 (.alt 5 (.alt 8 (.take 9 (.alt 10 (.take 11 .done) .no)) .no) .no) .no) .no)) (.alt 7 (.alt 1 (.alt 2 (.alt 5 (.alt 8 (.take 9 (.alt 10 (.take 11 .done) .no)) .no) .no) .no) .no) .no)) (.alt 7 (.alt 1 (.alt 2 (.alt 4 (.alt 5 (.alt 8 (.take 9 (.alt 10 (.take 11 .done) .no)) .no) .no) .no) (.alt 4 (.alt 2 (.alt 5 (.alt 8 (.take 9 (.alt 10 (.take 11 .done) .no)) .no) .no) .no) .no)) (.alt 4 (.alt 1 (.alt 2 (.alt 5 (.alt 8 (.take 9 (.alt 10 (.take 11 .done) .no)) .no) .no) .no) .no) .no)) .no)))))) | false => .done), fun i => (match decide (i = 1) with | true => some [false, false, true, false, false, false, false, false, false, false, false, false, false, false] | false => none), fun i => false, fun i => []⟩
def τ_i_ownDraft : Env := Env.of [(2, (.int .i64)), (30, (.pair (.sl (.sl (.int .u8))) (.pair (.sl (.pair (.int .i64) (.pair (.sl (.int .u8)) .unit))) .unit))), (43, (.sl (.int .i64))), (56, (.pair (.pair (.sl (.sl (.int .u8))) (.pair (.sl (.pair (.int .i64) (.pair (.sl (.int .u8)) .unit))) .unit)) (.pair (.sl (.int .i64)) (.pair (.sl (.int .i64)) .unit))))] [(135, (.pair (.pair (.sl (.sl (.int .u8))) (.pair (.sl (.pair (.int .i64) (.pair (.sl (.int .u8)) .unit))) .unit)) (.pair (.sl (.int .i64)) (.pair (.sl (.int .i64)) .unit))))] []

theorem ct_i_ownDraft (d : ((List (List (Int))) × (List ((Int) × (List (Int)) × Unit)) × Unit) × (List (Int)) × (List (Int)) × Unit) : Ct pg 111 [.dat (.pair (.pair (.sl (.sl (.int .u8))) (.pair (.sl (.pair (.int .i64) (.pair (.sl (.int .u8)) .unit))) .unit)) (.pair (.sl (.int .i64)) (.pair (.sl (.int .i64)) .unit))) d] ⟨[Q_i_ownDraft d], [⟨(.pair (.pair (.sl (.sl (.int .u8))) (.pair (.sl (.pair (.int .i64) (.pair (.sl (.int .u8)) .unit))) .unit)) (.pair (.sl (.int .i64)) (.pair (.sl (.int .i64)) .unit))), (.np (.pr (.pr (.ow (.ow .sh)) (.pr (.ow (.pr .sh (.pr (.ow .sh) .sh))) .sh)) (.pr (.ow .sh) (.pr (.ow .sh) .sh)))), F_i_ownDraft d⟩], []⟩ := by
  refine ct_claim (O := O_i_ownDraft) (τ := τ_i_ownDraft) (EnvOk.of (by kernel_rfl) (by kernel_rfl)) (GOk.of (.cons ok_sl_Clone_int64 (.cons ok_i_ownDisk .nil) : AllOk pg [(159, con_sl_Clone_int64), (90, con_i_ownDisk)])) mixed (Enters.of (by kernel_rfl)) (fn := Go.Proofs.Try.f111) (by kernel_rfl) rfl (by kernel_rfl) ?_
  intro hp hw
  have hq : Q_i_ownDraft d := hp _ (List.mem_singleton.2 rfl)
  clear hp
  change claim Lg.std Alg.std τ_i_ownDraft (Gam.of [(159, ⟨true, g1 (pD (.sl (.int .i64))) fun s => ⟨[Q_sl_Clone_int64 s], [⟨(.sl (.int .i64)), (.ow .sh), F_sl_Clone_int64 s⟩], []⟩, []⟩), (90, ⟨true, g1 (pD (.pair (.sl (.sl (.int .u8))) (.pair (.sl (.pair (.int .i64) (.pair (.sl (.int .u8)) .unit))) .unit))) fun d => ⟨[Q_i_ownDisk d], [⟨(.pair (.sl (.sl (.int .u8))) (.pair (.sl (.pair (.int .i64) (.pair (.sl (.int .u8)) .unit))) .unit)), (.pr (.ow (.ow .sh)) (.pr (.ow (.pr .sh (.pr (.ow .sh) .sh))) .sh)), F_i_ownDisk d⟩], []⟩, []⟩)]) O_i_ownDraft Go.Proofs.Try.f111 [.dat (.pair (.pair (.sl (.sl (.int .u8))) (.pair (.sl (.pair (.int .i64) (.pair (.sl (.int .u8)) .unit))) .unit)) (.pair (.sl (.int .i64)) (.pair (.sl (.int .i64)) .unit))) d] ⟨[Q_i_ownDraft d], [⟨(.pair (.pair (.sl (.sl (.int .u8))) (.pair (.sl (.pair (.int .i64) (.pair (.sl (.int .u8)) .unit))) .unit)) (.pair (.sl (.int .i64)) (.pair (.sl (.int .i64)) .unit))), (.np (.pr (.pr (.ow (.ow .sh)) (.pr (.ow (.pr .sh (.pr (.ow .sh) .sh))) .sh)) (.pr (.ow .sh) (.pr (.ow .sh) .sh)))), F_i_ownDraft d⟩], []⟩
  generalize hg_F_sl_Clone_int64 : F_sl_Clone_int64 = g_F_sl_Clone_int64
  generalize hg_Q_sl_Clone_int64 : Q_sl_Clone_int64 = g_Q_sl_Clone_int64
  generalize hg_F_i_ownDisk : F_i_ownDisk = g_F_i_ownDisk
  generalize hg_Q_i_ownDisk : Q_i_ownDisk = g_Q_i_ownDisk
  generalize hR0 : F_i_ownDraft d = R0
  generalize Q_i_ownDraft d = Q0
  generalize hL : Lg.std = L
  generalize hA : Alg.std = A
  cbv
  subst hL hA
  try dsimp only [Ty.den]
  obtain ⟨⟨d_0_0, d_0_1, ⟨⟩⟩, d_1, d_2, ⟨⟩⟩ := d
  have hle1 := tot_len tPut d_0_1
  subst hR0 hg_F_sl_Clone_int64 hg_Q_sl_Clone_int64 hg_F_i_ownDisk hg_Q_i_ownDisk
  simp only [Q_i_ownDraft] at hq
  simp only [tot_p, tot_u, tot_int] at hq
  simp only [Lg.std, Alg.std, List.drop_zero, List.take_length, F_sl_Clone_int64, F_i_ownDisk, Q_sl_Clone_int64, Q_i_ownDisk, F_i_ownDraft] at *
  try simp only [true_and, and_true, false_implies, implies_true, imp_self]
  simp only [tot_p, tot_u, tot_int]
  repeat' (first | intro _ | apply And.intro)
  all_goals grind
def con_i_ownDraft : Con := ⟨true, g1 (pD (.pair (.pair (.sl (.sl (.int .u8))) (.pair (.sl (.pair (.int .i64) (.pair (.sl (.int .u8)) .unit))) .unit)) (.pair (.sl (.int .i64)) (.pair (.sl (.int .i64)) .unit)))) fun d => ⟨[Q_i_ownDraft d], [⟨(.pair (.pair (.sl (.sl (.int .u8))) (.pair (.sl (.pair (.int .i64) (.pair (.sl (.int .u8)) .unit))) .unit)) (.pair (.sl (.int .i64)) (.pair (.sl (.int .i64)) .unit))), (.np (.pr (.pr (.ow (.ow .sh)) (.pr (.ow (.pr .sh (.pr (.ow .sh) .sh))) .sh)) (.pr (.ow .sh) (.pr (.ow .sh) .sh)))), F_i_ownDraft d⟩], []⟩, []⟩
theorem ok_i_ownDraft : ConOk pg 111 con_i_ownDraft := ConOk.g1 (Enters.of (by kernel_rfl)) ct_i_ownDraft

def F_s_l16Copy (d : ((List (List (Int))) × (List ((Int) × (List (Int)) × Unit)) × Unit) × (List (Int)) × (List (Int)) × Unit) : ((List (List (Int))) × (List ((Int) × (List (Int)) × Unit)) × Unit) × (List (Int)) × (List (Int)) × Unit := d
def Q_s_l16Copy (d : ((List (List (Int))) × (List ((Int) × (List (Int)) × Unit)) × Unit) × (List (Int)) × (List (Int)) × Unit) : Prop := tot tDisk d.1 ≤ 1048576 ∧ d.2.1.length ≤ 1048576 ∧ d.2.2.1.length ≤ 1048576
def O_s_l16Copy : Opt := ⟨fun i => false, fun i => [], fun i => (match decide (i = 1) with | true => (.take 0 (.take 1 (.take 2 (.take 4 (.take 5 (.take 6 (.take 9 (.take 10 (.take 11 (.alt 3 (.alt 7 (.alt 8 (.alt 12 (.alt 13 (.take 14 (.alt 15 .done .no)) .no) .no) (.alt 12 (.alt 8 (.alt 13 (.take 14 (.alt 15 .done .no)) .no) .no) .no)) (.alt 12 (.alt 7 (.alt 8 (.alt 13 (.take 14 (.alt 15 .done .no)) .no) .no) .no) .no)) (.alt 7 (.alt 3 (.alt 8 (.alt 12 (.alt 13 (.take 14 (.alt 15 .done .no)) .no) .no) (.alt 12 (.alt 8 (.alt 13 (.take 14 (.alt 15 .done .no)) .no) .no) .no)) (.alt 12 (.alt 3 (.alt 8 (.alt 13 (.take 14 (.alt 15 .done .no)) .no) .no) .no) .no)) (.alt 12 (.alt 3 (.alt 7 (.alt 8 (.alt 13 (.take 14 (.alt 15 .done .no)) .no) .no) .no) (.alt 7 (.alt 3 (.alt 8 (.alt 13 (.take 14 (.alt 15 .done .no)) .no) .no) .no) .no)) .no)))))))))))) | false => .done), fun i => (match decide (i = 1) with | true => some [false, false, true, false, false, false, false, false, false, false, false, false, false, false, false, false, false, false] | false => none), fun i => false, fun i => []⟩
def τ_s_l16Copy : Env := Env.of [(2, (.int .i64)), (30, (.pair (.sl (.sl (.int .u8))) (.pair (.sl (.pair (.int .i64) (.pair (.sl (.int .u8)) .unit))) .unit))), (43, (.sl (.int .i64))), (56, (.pair (.pair (.sl (.sl (.int .u8))) (.pair (.sl (.pair (.int .i64) (.pair (.sl (.int .u8)) .unit))) .unit)) (.pair (.sl (.int .i64)) (.pair (.sl (.int .i64)) .unit))))] [(114, (.pair (.sl (.sl (.int .u8))) (.pair (.sl (.pair (.int .i64) (.pair (.sl (.int .u8)) .unit))) .unit))), (135, (.pair (.pair (.sl (.sl (.int .u8))) (.pair (.sl (.pair (.int .i64) (.pair (.sl (.int .u8)) .unit))) .unit)) (.pair (.sl (.int .i64)) (.pair (.sl (.int .i64)) .unit))))] []

theorem ct_s_l16Copy (d : ((List (List (Int))) × (List ((Int) × (List (Int)) × Unit)) × Unit) × (List (Int)) × (List (Int)) × Unit) : Ct pg 110 [.dptr (.pair (.pair (.sl (.sl (.int .u8))) (.pair (.sl (.pair (.int .i64) (.pair (.sl (.int .u8)) .unit))) .unit)) (.pair (.sl (.int .i64)) (.pair (.sl (.int .i64)) .unit))) d] ⟨[Q_s_l16Copy d], [⟨(.pair (.pair (.sl (.sl (.int .u8))) (.pair (.sl (.pair (.int .i64) (.pair (.sl (.int .u8)) .unit))) .unit)) (.pair (.sl (.int .i64)) (.pair (.sl (.int .i64)) .unit))), (.pr (.pr (.ow (.ow .sh)) (.pr (.ow (.pr .sh (.pr (.ow .sh) .sh))) .sh)) (.pr (.ow .sh) (.pr (.ow .sh) .sh))), F_s_l16Copy d⟩], []⟩ := by
  refine ct_claim (O := O_s_l16Copy) (τ := τ_s_l16Copy) (EnvOk.of (by kernel_rfl) (by kernel_rfl)) (GOk.of (.cons ok_s_l14Copy (.cons ok_s_l1Ints .nil) : AllOk pg [(83, con_s_l14Copy), (163, con_s_l1Ints)])) mixed (Enters.of (by kernel_rfl)) (fn := Go.Proofs.Try.f110) (by kernel_rfl) rfl (by kernel_rfl) ?_
  intro hp hw
  have hq : Q_s_l16Copy d := hp _ (List.mem_singleton.2 rfl)
  clear hp
  change claim Lg.std Alg.std τ_s_l16Copy (Gam.of [(83, ⟨true, g1 (pP (.pair (.sl (.sl (.int .u8))) (.pair (.sl (.pair (.int .i64) (.pair (.sl (.int .u8)) .unit))) .unit))) fun d => ⟨[Q_s_l14Copy d], [⟨(.pair (.sl (.sl (.int .u8))) (.pair (.sl (.pair (.int .i64) (.pair (.sl (.int .u8)) .unit))) .unit)), (.pr (.ow (.ow .sh)) (.pr (.ow (.pr .sh (.pr (.ow .sh) .sh))) .sh)), F_s_l14Copy d⟩], []⟩, []⟩), (163, ⟨true, g1 (pD (.sl (.int .i64))) fun l => ⟨[Q_s_l1Ints l], [⟨(.sl (.int .i64)), (.ow .sh), F_s_l1Ints l⟩], []⟩, []⟩)]) O_s_l16Copy Go.Proofs.Try.f110 [.dptr (.pair (.pair (.sl (.sl (.int .u8))) (.pair (.sl (.pair (.int .i64) (.pair (.sl (.int .u8)) .unit))) .unit)) (.pair (.sl (.int .i64)) (.pair (.sl (.int .i64)) .unit))) d] ⟨[Q_s_l16Copy d], [⟨(.pair (.pair (.sl (.sl (.int .u8))) (.pair (.sl (.pair (.int .i64) (.pair (.sl (.int .u8)) .unit))) .unit)) (.pair (.sl (.int .i64)) (.pair (.sl (.int .i64)) .unit))), (.pr (.pr (.ow (.ow .sh)) (.pr (.ow (.pr .sh (.pr (.ow .sh) .sh))) .sh)) (.pr (.ow .sh) (.pr (.ow .sh) .sh))), F_s_l16Copy d⟩], []⟩
  generalize hg_F_s_l14Copy : F_s_l14Copy = g_F_s_l14Copy
  generalize hg_Q_s_l14Copy : Q_s_l14Copy = g_Q_s_l14Copy
  generalize hg_F_s_l1Ints : F_s_l1Ints = g_F_s_l1Ints
  generalize hg_Q_s_l1Ints : Q_s_l1Ints = g_Q_s_l1Ints
  generalize hR0 : F_s_l16Copy d = R0
  generalize Q_s_l16Copy d = Q0
  generalize hL : Lg.std = L
  generalize hA : Alg.std = A
  cbv
  subst hL hA
  try dsimp only [Ty.den]
  obtain ⟨⟨d_0_0, d_0_1, ⟨⟩⟩, d_1, d_2, ⟨⟩⟩ := d
  have hle1 := tot_len tPut d_0_1
  subst hR0 hg_F_s_l14Copy hg_Q_s_l14Copy hg_F_s_l1Ints hg_Q_s_l1Ints
  simp only [Q_s_l16Copy] at hq
  simp only [tot_p, tot_u, tot_int] at hq
  simp only [Lg.std, Alg.std, List.drop_zero, List.take_length, F_s_l14Copy, F_s_l1Ints, Q_s_l14Copy, Q_s_l1Ints, F_s_l16Copy] at *
  try simp only [true_and, and_true, false_implies, implies_true, imp_self]
  simp only [tot_p, tot_u, tot_int]
  repeat' (first | intro _ | apply And.intro)
  all_goals grind
def con_s_l16Copy : Con := ⟨true, g1 (pP (.pair (.pair (.sl (.sl (.int .u8))) (.pair (.sl (.pair (.int .i64) (.pair (.sl (.int .u8)) .unit))) .unit)) (.pair (.sl (.int .i64)) (.pair (.sl (.int .i64)) .unit)))) fun d => ⟨[Q_s_l16Copy d], [⟨(.pair (.pair (.sl (.sl (.int .u8))) (.pair (.sl (.pair (.int .i64) (.pair (.sl (.int .u8)) .unit))) .unit)) (.pair (.sl (.int .i64)) (.pair (.sl (.int .i64)) .unit))), (.pr (.pr (.ow (.ow .sh)) (.pr (.ow (.pr .sh (.pr (.ow .sh) .sh))) .sh)) (.pr (.ow .sh) (.pr (.ow .sh) .sh))), F_s_l16Copy d⟩], []⟩, []⟩
theorem ok_s_l16Copy : ConOk pg 110 con_s_l16Copy := ConOk.g1 (Enters.of (by kernel_rfl)) ct_s_l16Copy

def F_s_StartDraft (d : (List (List (Int))) × (List ((Int) × (List (Int)) × Unit)) × Unit) (kept : List (Int)) : (Int) × (((List (List (Int))) × (List ((Int) × (List (Int)) × Unit)) × Unit) × (List (Int)) × (List (Int)) × Unit) × Unit := startDraft d kept
def Q_s_StartDraft (d : (List (List (Int))) × (List ((Int) × (List (Int)) × Unit)) × Unit) (kept : List (Int)) : Prop := tot tDisk d ≤ 1048576 ∧ kept.length ≤ 1048576
def O_s_StartDraft : Opt := ⟨fun i => false, fun i => [], fun i => .done, fun i => none, fun i => false, fun i => []⟩
def τ_s_StartDraft : Env := Env.of [(2, (.int .i64)), (4, .bool), (30, (.pair (.sl (.sl (.int .u8))) (.pair (.sl (.pair (.int .i64) (.pair (.sl (.int .u8)) .unit))) .unit))), (43, (.sl (.int .i64))), (56, (.pair (.pair (.sl (.sl (.int .u8))) (.pair (.sl (.pair (.int .i64) (.pair (.sl (.int .u8)) .unit))) .unit)) (.pair (.sl (.int .i64)) (.pair (.sl (.int .i64)) .unit)))), (64, (.pair (.int .i64) (.pair (.pair (.pair (.sl (.sl (.int .u8))) (.pair (.sl (.pair (.int .i64) (.pair (.sl (.int .u8)) .unit))) .unit)) (.pair (.sl (.int .i64)) (.pair (.sl (.int .i64)) .unit))) .unit)))] [(135, (.pair (.pair (.sl (.sl (.int .u8))) (.pair (.sl (.pair (.int .i64) (.pair (.sl (.int .u8)) .unit))) .unit)) (.pair (.sl (.int .i64)) (.pair (.sl (.int .i64)) .unit))))] []

theorem ct_s_StartDraft (d : (List (List (Int))) × (List ((Int) × (List (Int)) × Unit)) × Unit) (kept : List (Int)) : Ct pg 40 [.dat (.pair (.sl (.sl (.int .u8))) (.pair (.sl (.pair (.int .i64) (.pair (.sl (.int .u8)) .unit))) .unit)) d, .dat (.sl (.int .i64)) kept] ⟨[Q_s_StartDraft d kept], [⟨(.pair (.int .i64) (.pair (.pair (.pair (.sl (.sl (.int .u8))) (.pair (.sl (.pair (.int .i64) (.pair (.sl (.int .u8)) .unit))) .unit)) (.pair (.sl (.int .i64)) (.pair (.sl (.int .i64)) .unit))) .unit)), (.pr .sh (.pr (.pr (.pr (.ow (.ow .sh)) (.pr (.ow (.pr .sh (.pr (.ow .sh) .sh))) .sh)) (.pr (.ow .sh) (.pr (.ow .sh) .sh))) .sh)), F_s_StartDraft d kept⟩], []⟩ := by
  refine ct_claim (O := O_s_StartDraft) (τ := τ_s_StartDraft) (EnvOk.of (by kernel_rfl) (by kernel_rfl)) (GOk.of (.cons ok_s_DraftFault (.cons ok_s_l16Copy .nil) : AllOk pg [(105, con_s_DraftFault), (110, con_s_l16Copy)])) mixed (Enters.of (by kernel_rfl)) (fn := Go.Proofs.Try.f40) (by kernel_rfl) rfl (by kernel_rfl) ?_
  intro hp hw
  have hq : Q_s_StartDraft d kept := hp _ (List.mem_singleton.2 rfl)
  clear hp
  change claim Lg.std Alg.std τ_s_StartDraft (Gam.of [(105, ⟨true, g1 (pD (.pair (.pair (.sl (.sl (.int .u8))) (.pair (.sl (.pair (.int .i64) (.pair (.sl (.int .u8)) .unit))) .unit)) (.pair (.sl (.int .i64)) (.pair (.sl (.int .i64)) .unit)))) fun d => ⟨[Q_s_DraftFault d], [⟨(.int .i64), .sh, F_s_DraftFault d⟩], []⟩, []⟩), (110, ⟨true, g1 (pP (.pair (.pair (.sl (.sl (.int .u8))) (.pair (.sl (.pair (.int .i64) (.pair (.sl (.int .u8)) .unit))) .unit)) (.pair (.sl (.int .i64)) (.pair (.sl (.int .i64)) .unit)))) fun d => ⟨[Q_s_l16Copy d], [⟨(.pair (.pair (.sl (.sl (.int .u8))) (.pair (.sl (.pair (.int .i64) (.pair (.sl (.int .u8)) .unit))) .unit)) (.pair (.sl (.int .i64)) (.pair (.sl (.int .i64)) .unit))), (.pr (.pr (.ow (.ow .sh)) (.pr (.ow (.pr .sh (.pr (.ow .sh) .sh))) .sh)) (.pr (.ow .sh) (.pr (.ow .sh) .sh))), F_s_l16Copy d⟩], []⟩, []⟩)]) O_s_StartDraft Go.Proofs.Try.f40 [.dat (.pair (.sl (.sl (.int .u8))) (.pair (.sl (.pair (.int .i64) (.pair (.sl (.int .u8)) .unit))) .unit)) d, .dat (.sl (.int .i64)) kept] ⟨[Q_s_StartDraft d kept], [⟨(.pair (.int .i64) (.pair (.pair (.pair (.sl (.sl (.int .u8))) (.pair (.sl (.pair (.int .i64) (.pair (.sl (.int .u8)) .unit))) .unit)) (.pair (.sl (.int .i64)) (.pair (.sl (.int .i64)) .unit))) .unit)), (.pr .sh (.pr (.pr (.pr (.ow (.ow .sh)) (.pr (.ow (.pr .sh (.pr (.ow .sh) .sh))) .sh)) (.pr (.ow .sh) (.pr (.ow .sh) .sh))) .sh)), F_s_StartDraft d kept⟩], []⟩
  generalize hg_F_s_DraftFault : F_s_DraftFault = g_F_s_DraftFault
  generalize hg_Q_s_DraftFault : Q_s_DraftFault = g_Q_s_DraftFault
  generalize hg_F_s_l16Copy : F_s_l16Copy = g_F_s_l16Copy
  generalize hg_Q_s_l16Copy : Q_s_l16Copy = g_Q_s_l16Copy
  generalize hR0 : F_s_StartDraft d kept = R0
  generalize Q_s_StartDraft d kept = Q0
  generalize hL : Lg.std = L
  generalize hA : Alg.std = A
  cbv
  subst hL hA
  try dsimp only [Ty.den]
  obtain ⟨d_0, d_1, ⟨⟩⟩ := d
  have hle1 := tot_len tPut d_1
  subst hR0 hg_F_s_DraftFault hg_Q_s_DraftFault hg_F_s_l16Copy hg_Q_s_l16Copy
  simp only [Q_s_StartDraft] at hq
  simp only [tot_p, tot_u, tot_int] at hq
  simp only [Lg.std, Alg.std, List.drop_zero, List.take_length, F_s_DraftFault, F_s_l16Copy, Q_s_DraftFault, Q_s_l16Copy, F_s_StartDraft, startDraft] at *
  try simp only [true_and, and_true, false_implies, implies_true, imp_self]
  try simp only [tot_p, tot_u, tot_int, List.length_nil]
  repeat' (first | intro _ | apply And.intro)
  all_goals grind
def con_s_StartDraft : Con := ⟨true, g2 (pD (.pair (.sl (.sl (.int .u8))) (.pair (.sl (.pair (.int .i64) (.pair (.sl (.int .u8)) .unit))) .unit))) (pD (.sl (.int .i64))) fun d kept => ⟨[Q_s_StartDraft d kept], [⟨(.pair (.int .i64) (.pair (.pair (.pair (.sl (.sl (.int .u8))) (.pair (.sl (.pair (.int .i64) (.pair (.sl (.int .u8)) .unit))) .unit)) (.pair (.sl (.int .i64)) (.pair (.sl (.int .i64)) .unit))) .unit)), (.pr .sh (.pr (.pr (.pr (.ow (.ow .sh)) (.pr (.ow (.pr .sh (.pr (.ow .sh) .sh))) .sh)) (.pr (.ow .sh) (.pr (.ow .sh) .sh))) .sh)), F_s_StartDraft d kept⟩], []⟩, []⟩
theorem ok_s_StartDraft : ConOk pg 40 con_s_StartDraft := ConOk.g2 (Enters.of (by kernel_rfl)) ct_s_StartDraft

def F_i_StartDraft (d : (List (List (Int))) × (List ((Int) × (List (Int)) × Unit)) × Unit) (kept : List (Int)) : (Int) × (((List (List (Int))) × (List ((Int) × (List (Int)) × Unit)) × Unit) × (List (Int)) × (List (Int)) × Unit) × Unit := startDraft d kept
def Q_i_StartDraft (d : (List (List (Int))) × (List ((Int) × (List (Int)) × Unit)) × Unit) (kept : List (Int)) : Prop := tot tDisk d ≤ 1048576 ∧ kept.length ≤ 1048576
def O_i_StartDraft : Opt := ⟨fun i => false, fun i => [], fun i => .done, fun i => none, fun i => false, fun i => []⟩
def τ_i_StartDraft : Env := Env.of [(2, (.int .i64)), (4, .bool), (30, (.pair (.sl (.sl (.int .u8))) (.pair (.sl (.pair (.int .i64) (.pair (.sl (.int .u8)) .unit))) .unit))), (43, (.sl (.int .i64))), (56, (.pair (.pair (.sl (.sl (.int .u8))) (.pair (.sl (.pair (.int .i64) (.pair (.sl (.int .u8)) .unit))) .unit)) (.pair (.sl (.int .i64)) (.pair (.sl (.int .i64)) .unit)))), (64, (.pair (.int .i64) (.pair (.pair (.pair (.sl (.sl (.int .u8))) (.pair (.sl (.pair (.int .i64) (.pair (.sl (.int .u8)) .unit))) .unit)) (.pair (.sl (.int .i64)) (.pair (.sl (.int .i64)) .unit))) .unit)))] [(135, (.pair (.pair (.sl (.sl (.int .u8))) (.pair (.sl (.pair (.int .i64) (.pair (.sl (.int .u8)) .unit))) .unit)) (.pair (.sl (.int .i64)) (.pair (.sl (.int .i64)) .unit))))] []

theorem ct_i_StartDraft (d : (List (List (Int))) × (List ((Int) × (List (Int)) × Unit)) × Unit) (kept : List (Int)) : Ct pg 41 [.dat (.pair (.sl (.sl (.int .u8))) (.pair (.sl (.pair (.int .i64) (.pair (.sl (.int .u8)) .unit))) .unit)) d, .dat (.sl (.int .i64)) kept] ⟨[Q_i_StartDraft d kept], [⟨(.pair (.int .i64) (.pair (.pair (.pair (.sl (.sl (.int .u8))) (.pair (.sl (.pair (.int .i64) (.pair (.sl (.int .u8)) .unit))) .unit)) (.pair (.sl (.int .i64)) (.pair (.sl (.int .i64)) .unit))) .unit)), (.pr .sh (.pr (.pr (.pr (.ow (.ow .sh)) (.pr (.ow (.pr .sh (.pr (.ow .sh) .sh))) .sh)) (.pr (.ow .sh) (.pr (.ow .sh) .sh))) .sh)), F_i_StartDraft d kept⟩], []⟩ := by
  refine ct_claim (O := O_i_StartDraft) (τ := τ_i_StartDraft) (EnvOk.of (by kernel_rfl) (by kernel_rfl)) (GOk.of (.cons ok_i_DraftFault (.cons ok_i_ownDraft .nil) : AllOk pg [(107, con_i_DraftFault), (111, con_i_ownDraft)])) mixed (Enters.of (by kernel_rfl)) (fn := Go.Proofs.Try.f41) (by kernel_rfl) rfl (by kernel_rfl) ?_
  intro hp hw
  have hq : Q_i_StartDraft d kept := hp _ (List.mem_singleton.2 rfl)
  clear hp
  change claim Lg.std Alg.std τ_i_StartDraft (Gam.of [(107, ⟨true, g1 (pD (.pair (.pair (.sl (.sl (.int .u8))) (.pair (.sl (.pair (.int .i64) (.pair (.sl (.int .u8)) .unit))) .unit)) (.pair (.sl (.int .i64)) (.pair (.sl (.int .i64)) .unit)))) fun d => ⟨[Q_i_DraftFault d], [⟨(.int .i64), .sh, F_i_DraftFault d⟩], []⟩, []⟩), (111, ⟨true, g1 (pD (.pair (.pair (.sl (.sl (.int .u8))) (.pair (.sl (.pair (.int .i64) (.pair (.sl (.int .u8)) .unit))) .unit)) (.pair (.sl (.int .i64)) (.pair (.sl (.int .i64)) .unit)))) fun d => ⟨[Q_i_ownDraft d], [⟨(.pair (.pair (.sl (.sl (.int .u8))) (.pair (.sl (.pair (.int .i64) (.pair (.sl (.int .u8)) .unit))) .unit)) (.pair (.sl (.int .i64)) (.pair (.sl (.int .i64)) .unit))), (.np (.pr (.pr (.ow (.ow .sh)) (.pr (.ow (.pr .sh (.pr (.ow .sh) .sh))) .sh)) (.pr (.ow .sh) (.pr (.ow .sh) .sh)))), F_i_ownDraft d⟩], []⟩, []⟩)]) O_i_StartDraft Go.Proofs.Try.f41 [.dat (.pair (.sl (.sl (.int .u8))) (.pair (.sl (.pair (.int .i64) (.pair (.sl (.int .u8)) .unit))) .unit)) d, .dat (.sl (.int .i64)) kept] ⟨[Q_i_StartDraft d kept], [⟨(.pair (.int .i64) (.pair (.pair (.pair (.sl (.sl (.int .u8))) (.pair (.sl (.pair (.int .i64) (.pair (.sl (.int .u8)) .unit))) .unit)) (.pair (.sl (.int .i64)) (.pair (.sl (.int .i64)) .unit))) .unit)), (.pr .sh (.pr (.pr (.pr (.ow (.ow .sh)) (.pr (.ow (.pr .sh (.pr (.ow .sh) .sh))) .sh)) (.pr (.ow .sh) (.pr (.ow .sh) .sh))) .sh)), F_i_StartDraft d kept⟩], []⟩
  generalize hg_F_i_DraftFault : F_i_DraftFault = g_F_i_DraftFault
  generalize hg_Q_i_DraftFault : Q_i_DraftFault = g_Q_i_DraftFault
  generalize hg_F_i_ownDraft : F_i_ownDraft = g_F_i_ownDraft
  generalize hg_Q_i_ownDraft : Q_i_ownDraft = g_Q_i_ownDraft
  generalize hR0 : F_i_StartDraft d kept = R0
  generalize Q_i_StartDraft d kept = Q0
  generalize hL : Lg.std = L
  generalize hA : Alg.std = A
  cbv
  subst hL hA
  try dsimp only [Ty.den]
  obtain ⟨d_0, d_1, ⟨⟩⟩ := d
  have hle1 := tot_len tPut d_1
  subst hR0 hg_F_i_DraftFault hg_Q_i_DraftFault hg_F_i_ownDraft hg_Q_i_ownDraft
  simp only [Q_i_StartDraft] at hq
  simp only [tot_p, tot_u, tot_int] at hq
  simp only [Lg.std, Alg.std, List.drop_zero, List.take_length, F_i_DraftFault, F_i_ownDraft, Q_i_DraftFault, Q_i_ownDraft, F_i_StartDraft, startDraft] at *
  try simp only [true_and, and_true, false_implies, implies_true, imp_self]
  try simp only [tot_p, tot_u, tot_int, List.length_nil]
  repeat' (first | intro _ | apply And.intro)
  all_goals grind
def con_i_StartDraft : Con := ⟨true, g2 (pD (.pair (.sl (.sl (.int .u8))) (.pair (.sl (.pair (.int .i64) (.pair (.sl (.int .u8)) .unit))) .unit))) (pD (.sl (.int .i64))) fun d kept => ⟨[Q_i_StartDraft d kept], [⟨(.pair (.int .i64) (.pair (.pair (.pair (.sl (.sl (.int .u8))) (.pair (.sl (.pair (.int .i64) (.pair (.sl (.int .u8)) .unit))) .unit)) (.pair (.sl (.int .i64)) (.pair (.sl (.int .i64)) .unit))) .unit)), (.pr .sh (.pr (.pr (.pr (.ow (.ow .sh)) (.pr (.ow (.pr .sh (.pr (.ow .sh) .sh))) .sh)) (.pr (.ow .sh) (.pr (.ow .sh) .sh))) .sh)), F_i_StartDraft d kept⟩], []⟩, []⟩
theorem ok_i_StartDraft : ConOk pg 41 con_i_StartDraft := ConOk.g2 (Enters.of (by kernel_rfl)) ct_i_StartDraft

def F_w_FnExactStartDraft (d : (List (List (Int))) × (List ((Int) × (List (Int)) × Unit)) × Unit) (k : List (Int)) : Bool := true
def Q_w_FnExactStartDraft (d : (List (List (Int))) × (List ((Int) × (List (Int)) × Unit)) × Unit) (k : List (Int)) : Prop := True
def O_w_FnExactStartDraft : Opt := ⟨fun i => false, fun i => [], fun i => (match decide (i = 13) with | true => (.alt 0 (.alt 1 (.alt 2 (.alt 3 (.take 4 .done) .no) .no) .no) (.alt 1 (.alt 0 (.alt 2 (.alt 3 (.take 4 .done) .no) .no) (.alt 2 (.alt 0 (.alt 3 (.take 4 .done) .no) .no) .no)) .no)) | false => .done), fun i => (match decide (i = 13) with | true => some [false, true, true, false, false, false, true, true, true, true, false, false, false, false, false, false, false, false, false, false, false, false, false, false, false, false, false, false, false, false, false, false, false, false, false, false, false, false, false, false, false, false, true, false, false, false, false, false, false, false, false, false, false, false, false, false, false, false, false, false, false, false, false, false, false, false, false, false, false, false, false, false, false, false, false, false, false, false, false, false, false, false, false, false, false, false, false, false, false, false] | false => none), fun i => false, fun i => []⟩
def τ_w_FnExactStartDraft : Env := Env.of [(3, (.int .i64)), (4, .bool), (25, (.pair (.sl (.sl (.int .u8))) (.pair (.sl (.pair (.int .i64) (.pair (.sl (.int .u8)) .unit))) .unit))), (30, (.pair (.sl (.sl (.int .u8))) (.pair (.sl (.pair (.int .i64) (.pair (.sl (.int .u8)) .unit))) .unit))), (43, (.sl (.int .i64))), (64, (.pair (.int .i64) (.pair (.pair (.pair (.sl (.sl (.int .u8))) (.pair (.sl (.pair (.int .i64) (.pair (.sl (.int .u8)) .unit))) .unit)) (.pair (.sl (.int .i64)) (.pair (.sl (.int .i64)) .unit))) .unit)))] [] []

theorem ct_w_FnExactStartDraft (d : (List (List (Int))) × (List ((Int) × (List (Int)) × Unit)) × Unit) (k : List (Int)) : Ct pg 6 [.dat (.pair (.sl (.sl (.int .u8))) (.pair (.sl (.pair (.int .i64) (.pair (.sl (.int .u8)) .unit))) .unit)) d, .dat (.sl (.int .i64)) k] ⟨[Q_w_FnExactStartDraft d k], [⟨.bool, .sh, F_w_FnExactStartDraft d k⟩], []⟩ := by
  refine ct_claim (O := O_w_FnExactStartDraft) (τ := τ_w_FnExactStartDraft) (EnvOk.of (by kernel_rfl) (by kernel_rfl)) (GOk.of (.cons ok_w_toInt64S (.cons ok_w_eqInt64S (.cons ok_w_markInt64S (.cons ok_w_toDisk (.cons ok_w_eqDisk (.cons ok_w_szDisk (.cons ok_w_markDisk (.cons ok_w_eqDraftResult (.cons ok_w_markDraftResult (.cons ok_w_heldDraftResult (.cons ok_s_StartDraft (.cons ok_i_StartDraft .nil))))))))))) : AllOk pg [(27, con_w_toInt64S), (29, con_w_eqInt64S), (30, con_w_markInt64S), (16, con_w_toDisk), (20, con_w_eqDisk), (14, con_w_szDisk), (22, con_w_markDisk), (42, con_w_eqDraftResult), (43, con_w_markDraftResult), (44, con_w_heldDraftResult), (40, con_s_StartDraft), (41, con_i_StartDraft)])) mixed (Enters.of (by kernel_rfl)) (fn := Go.Proofs.Try.f6) (by kernel_rfl) rfl (by kernel_rfl) ?_
  intro hp hw
  have hq : Q_w_FnExactStartDraft d k := hp _ (List.mem_singleton.2 rfl)
  clear hp
  change claim Lg.std Alg.std τ_w_FnExactStartDraft (Gam.of [(27, ⟨true, g1 (pD (.sl (.int .i64))) fun a => ⟨[Q_w_toInt64S a], [⟨(.sl (.int .i64)), (.ow .sh), F_w_toInt64S a⟩], []⟩, []⟩), (29, ⟨true, g2 (pD (.sl (.int .i64))) (pD (.sl (.int .i64))) fun a b => ⟨[Q_w_eqInt64S a b], [⟨.bool, .sh, F_w_eqInt64S a b⟩], []⟩, []⟩), (30, ⟨true, g2 (pV (.sl (.int .i64)) (.ow .sh)) (pD (.int .i64)) fun a k => ⟨[Q_w_markInt64S a k], [⟨(.int .i64), .sh, F_w_markInt64S a k⟩], [.mv (.sl (.int .i64)) (.ow .sh) (B_w_markInt64S_a a k)]⟩, [(.ow .sh)]⟩), (16, ⟨true, g1 (pD (.pair (.sl (.sl (.int .u8))) (.pair (.sl (.pair (.int .i64) (.pair (.sl (.int .u8)) .unit))) .unit))) fun a => ⟨[Q_w_toDisk a], [⟨(.pair (.sl (.sl (.int .u8))) (.pair (.sl (.pair (.int .i64) (.pair (.sl (.int .u8)) .unit))) .unit)), (.pr (.ow (.ow .sh)) (.pr (.ow (.pr .sh (.pr (.ow .sh) .sh))) .sh)), F_w_toDisk a⟩], []⟩, []⟩), (20, ⟨true, g2 (pD (.pair (.sl (.sl (.int .u8))) (.pair (.sl (.pair (.int .i64) (.pair (.sl (.int .u8)) .unit))) .unit))) (pD (.pair (.sl (.sl (.int .u8))) (.pair (.sl (.pair (.int .i64) (.pair (.sl (.int .u8)) .unit))) .unit))) fun a b => ⟨[Q_w_eqDisk a b], [⟨.bool, .sh, F_w_eqDisk a b⟩], []⟩, []⟩), (14, ⟨true, g2 (pD (.pair (.sl (.sl (.int .u8))) (.pair (.sl (.pair (.int .i64) (.pair (.sl (.int .u8)) .unit))) .unit))) (pD (.int .i64)) fun a left => ⟨[Q_w_szDisk a left], [⟨(.int .i64), .sh, F_w_szDisk a left⟩], []⟩, []⟩), (22, ⟨true, g2 (pV (.pair (.sl (.sl (.int .u8))) (.pair (.sl (.pair (.int .i64) (.pair (.sl (.int .u8)) .unit))) .unit)) (.pr (.ow (.ow .sh)) (.pr (.ow (.pr .sh (.pr (.ow .sh) .sh))) .sh))) (pD (.int .i64)) fun a k => ⟨[Q_w_markDisk a k], [⟨(.int .i64), .sh, F_w_markDisk a k⟩], [.mv (.pair (.sl (.sl (.int .u8))) (.pair (.sl (.pair (.int .i64) (.pair (.sl (.int .u8)) .unit))) .unit)) (.pr (.ow (.ow .sh)) (.pr (.ow (.pr .sh (.pr (.ow .sh) .sh))) .sh)) (B_w_markDisk_a a k)]⟩, [(.pr (.ow (.ow .sh)) (.pr (.ow (.pr .sh (.pr (.ow .sh) .sh))) .sh))]⟩), (42, ⟨true, g2 (pD (.pair (.int .i64) (.pair (.pair (.pair (.sl (.sl (.int .u8))) (.pair (.sl (.pair (.int .i64) (.pair (.sl (.int .u8)) .unit))) .unit)) (.pair (.sl (.int .i64)) (.pair (.sl (.int .i64)) .unit))) .unit))) (pD (.pair (.int .i64) (.pair (.pair (.pair (.sl (.sl (.int .u8))) (.pair (.sl (.pair (.int .i64) (.pair (.sl (.int .u8)) .unit))) .unit)) (.pair (.sl (.int .i64)) (.pair (.sl (.int .i64)) .unit))) .unit))) fun a b => ⟨[Q_w_eqDraftResult a b], [⟨.bool, .sh, F_w_eqDraftResult a b⟩], []⟩, []⟩), (43, ⟨true, g2 (pV (.pair (.int .i64) (.pair (.pair (.pair (.sl (.sl (.int .u8))) (.pair (.sl (.pair (.int .i64) (.pair (.sl (.int .u8)) .unit))) .unit)) (.pair (.sl (.int .i64)) (.pair (.sl (.int .i64)) .unit))) .unit)) (.pr .sh (.pr (.pr (.pr (.ow (.ow .sh)) (.pr (.ow (.pr .sh (.pr (.ow .sh) .sh))) .sh)) (.pr (.ow .sh) (.pr (.ow .sh) .sh))) .sh))) (pD (.int .i64)) fun a k => ⟨[Q_w_markDraftResult a k], [⟨(.int .i64), .sh, F_w_markDraftResult a k⟩], [.mv (.pair (.int .i64) (.pair (.pair (.pair (.sl (.sl (.int .u8))) (.pair (.sl (.pair (.int .i64) (.pair (.sl (.int .u8)) .unit))) .unit)) (.pair (.sl (.int .i64)) (.pair (.sl (.int .i64)) .unit))) .unit)) (.pr .sh (.pr (.pr (.pr (.ow (.ow .sh)) (.pr (.ow (.pr .sh (.pr (.ow .sh) .sh))) .sh)) (.pr (.ow .sh) (.pr (.ow .sh) .sh))) .sh)) (B_w_markDraftResult_a a k)]⟩, [(.pr .sh (.pr (.pr (.pr (.ow (.ow .sh)) (.pr (.ow (.pr .sh (.pr (.ow .sh) .sh))) .sh)) (.pr (.ow .sh) (.pr (.ow .sh) .sh))) .sh))]⟩), (44, ⟨true, g2 (pD (.pair (.int .i64) (.pair (.pair (.pair (.sl (.sl (.int .u8))) (.pair (.sl (.pair (.int .i64) (.pair (.sl (.int .u8)) .unit))) .unit)) (.pair (.sl (.int .i64)) (.pair (.sl (.int .i64)) .unit))) .unit))) (pD (.int .i64)) fun a k => ⟨[Q_w_heldDraftResult a k], [⟨(.int .i64), .sh, F_w_heldDraftResult a k⟩], []⟩, []⟩), (40, ⟨true, g2 (pD (.pair (.sl (.sl (.int .u8))) (.pair (.sl (.pair (.int .i64) (.pair (.sl (.int .u8)) .unit))) .unit))) (pD (.sl (.int .i64))) fun d kept => ⟨[Q_s_StartDraft d kept], [⟨(.pair (.int .i64) (.pair (.pair (.pair (.sl (.sl (.int .u8))) (.pair (.sl (.pair (.int .i64) (.pair (.sl (.int .u8)) .unit))) .unit)) (.pair (.sl (.int .i64)) (.pair (.sl (.int .i64)) .unit))) .unit)), (.pr .sh (.pr (.pr (.pr (.ow (.ow .sh)) (.pr (.ow (.pr .sh (.pr (.ow .sh) .sh))) .sh)) (.pr (.ow .sh) (.pr (.ow .sh) .sh))) .sh)), F_s_StartDraft d kept⟩], []⟩, []⟩), (41, ⟨true, g2 (pD (.pair (.sl (.sl (.int .u8))) (.pair (.sl (.pair (.int .i64) (.pair (.sl (.int .u8)) .unit))) .unit))) (pD (.sl (.int .i64))) fun d kept => ⟨[Q_i_StartDraft d kept], [⟨(.pair (.int .i64) (.pair (.pair (.pair (.sl (.sl (.int .u8))) (.pair (.sl (.pair (.int .i64) (.pair (.sl (.int .u8)) .unit))) .unit)) (.pair (.sl (.int .i64)) (.pair (.sl (.int .i64)) .unit))) .unit)), (.pr .sh (.pr (.pr (.pr (.ow (.ow .sh)) (.pr (.ow (.pr .sh (.pr (.ow .sh) .sh))) .sh)) (.pr (.ow .sh) (.pr (.ow .sh) .sh))) .sh)), F_i_StartDraft d kept⟩], []⟩, []⟩)]) O_w_FnExactStartDraft Go.Proofs.Try.f6 [.dat (.pair (.sl (.sl (.int .u8))) (.pair (.sl (.pair (.int .i64) (.pair (.sl (.int .u8)) .unit))) .unit)) d, .dat (.sl (.int .i64)) k] ⟨[Q_w_FnExactStartDraft d k], [⟨.bool, .sh, F_w_FnExactStartDraft d k⟩], []⟩
  generalize hg_F_w_toInt64S : F_w_toInt64S = g_F_w_toInt64S
  generalize hg_Q_w_toInt64S : Q_w_toInt64S = g_Q_w_toInt64S
  generalize hg_F_w_eqInt64S : F_w_eqInt64S = g_F_w_eqInt64S
  generalize hg_Q_w_eqInt64S : Q_w_eqInt64S = g_Q_w_eqInt64S
  generalize hg_F_w_markInt64S : F_w_markInt64S = g_F_w_markInt64S
  generalize hg_B_w_markInt64S_a : B_w_markInt64S_a = g_B_w_markInt64S_a
  generalize hg_Q_w_markInt64S : Q_w_markInt64S = g_Q_w_markInt64S
  generalize hg_F_w_toDisk : F_w_toDisk = g_F_w_toDisk
  generalize hg_Q_w_toDisk : Q_w_toDisk = g_Q_w_toDisk
  generalize hg_F_w_eqDisk : F_w_eqDisk = g_F_w_eqDisk
  generalize hg_Q_w_eqDisk : Q_w_eqDisk = g_Q_w_eqDisk
  generalize hg_F_w_szDisk : F_w_szDisk = g_F_w_szDisk
  generalize hg_Q_w_szDisk : Q_w_szDisk = g_Q_w_szDisk
  generalize hg_F_w_markDisk : F_w_markDisk = g_F_w_markDisk
  generalize hg_B_w_markDisk_a : B_w_markDisk_a = g_B_w_markDisk_a
  generalize hg_Q_w_markDisk : Q_w_markDisk = g_Q_w_markDisk
  generalize hg_F_w_eqDraftResult : F_w_eqDraftResult = g_F_w_eqDraftResult
  generalize hg_Q_w_eqDraftResult : Q_w_eqDraftResult = g_Q_w_eqDraftResult
  generalize hg_F_w_markDraftResult : F_w_markDraftResult = g_F_w_markDraftResult
  generalize hg_B_w_markDraftResult_a : B_w_markDraftResult_a = g_B_w_markDraftResult_a
  generalize hg_Q_w_markDraftResult : Q_w_markDraftResult = g_Q_w_markDraftResult
  generalize hg_F_w_heldDraftResult : F_w_heldDraftResult = g_F_w_heldDraftResult
  generalize hg_Q_w_heldDraftResult : Q_w_heldDraftResult = g_Q_w_heldDraftResult
  generalize hg_F_s_StartDraft : F_s_StartDraft = g_F_s_StartDraft
  generalize hg_Q_s_StartDraft : Q_s_StartDraft = g_Q_s_StartDraft
  generalize hg_F_i_StartDraft : F_i_StartDraft = g_F_i_StartDraft
  generalize hg_Q_i_StartDraft : Q_i_StartDraft = g_Q_i_StartDraft
  generalize hR0 : F_w_FnExactStartDraft d k = R0
  generalize Q_w_FnExactStartDraft d k = Q0
  generalize hL : Lg.std = L
  generalize hA : Alg.std = A
  cbv
  subst hL hA
  try dsimp only [Ty.den]
  obtain ⟨d_0, d_1, ⟨⟩⟩ := d
  have hct_d := cnt_tot (.pair (.sl (.sl (.int .u8))) (.pair (.sl (.pair (.int .i64) (.pair (.sl (.int .u8)) .unit))) .unit)) (d_0, d_1, PUnit.unit) (by decide)
  have hct_k := cnt_tot (.sl (.int .i64)) k (by decide)
  rcases Classical.em (k.length ≤ 1048576 ∧ tot tDisk (d_0, d_1, PUnit.unit) ≤ 1048576) with hB | hB
  · have htt := startDraft_tot (d_0, d_1, PUnit.unit) k
    have hct := cnt_tot (.pair (.int .i64) (.pair (.pair (.pair (.sl (.sl (.int .u8))) (.pair (.sl (.pair (.int .i64) (.pair (.sl (.int .u8)) .unit))) .unit)) (.pair (.sl (.int .i64)) (.pair (.sl (.int .i64)) .unit))) .unit)) (startDraft (d_0, d_1, PUnit.unit) k) (by decide)
    have htr : tot (.pair (.int .i64) (.pair (.pair (.pair (.sl (.sl (.int .u8))) (.pair (.sl (.pair (.int .i64) (.pair (.sl (.int .u8)) .unit))) .unit)) (.pair (.sl (.int .i64)) (.pair (.sl (.int .i64)) .unit))) .unit)) (startDraft (d_0, d_1, PUnit.unit) k) = tot (.pair (.pair (.sl (.sl (.int .u8))) (.pair (.sl (.pair (.int .i64) (.pair (.sl (.int .u8)) .unit))) .unit)) (.pair (.sl (.int .i64)) (.pair (.sl (.int .i64)) .unit))) (startDraft (d_0, d_1, PUnit.unit) k).2.1 := by simp only [tot_p, tot_u, tot_i, Nat.zero_add, Nat.add_zero]
    have hc0 : cnt false (.pair (.int .i64) (.pair (.pair (.pair (.sl (.sl (.int .u8))) (.pair (.sl (.pair (.int .i64) (.pair (.sl (.int .u8)) .unit))) .unit)) (.pair (.sl (.int .i64)) (.pair (.sl (.int .i64)) .unit))) .unit)) (startDraft (d_0, d_1, PUnit.unit) k) ≤ 4000000000 := by
      have := hct
      omega
    try simp only [tDisk, tPut, tot_int] at *
    subst hR0 hg_F_w_toInt64S hg_Q_w_toInt64S hg_F_w_eqInt64S hg_Q_w_eqInt64S hg_F_w_markInt64S hg_B_w_markInt64S_a hg_Q_w_markInt64S hg_F_w_toDisk hg_Q_w_toDisk hg_F_w_eqDisk hg_Q_w_eqDisk hg_F_w_szDisk hg_Q_w_szDisk hg_F_w_markDisk hg_B_w_markDisk_a hg_Q_w_markDisk hg_F_w_eqDraftResult hg_Q_w_eqDraftResult hg_F_w_markDraftResult hg_B_w_markDraftResult_a hg_Q_w_markDraftResult hg_F_w_heldDraftResult hg_Q_w_heldDraftResult hg_F_s_StartDraft hg_Q_s_StartDraft hg_F_i_StartDraft hg_Q_i_StartDraft
    simp only [Lg.std, Alg.std, List.drop_zero, List.take_length, F_w_toInt64S, F_w_eqInt64S, F_w_markInt64S, F_w_toDisk, F_w_eqDisk, F_w_szDisk, F_w_markDisk, F_w_eqDraftResult, F_w_markDraftResult, F_w_heldDraftResult, F_s_StartDraft, F_i_StartDraft, B_w_markInt64S_a, B_w_markDisk_a, B_w_markDraftResult_a, Q_w_toInt64S, Q_w_eqInt64S, Q_w_markInt64S, Q_w_toDisk, Q_w_eqDisk, Q_w_szDisk, Q_w_markDisk, Q_w_eqDraftResult, Q_w_markDraftResult, Q_w_heldDraftResult, Q_s_StartDraft, Q_i_StartDraft, F_w_FnExactStartDraft]
    generalize hW : (startDraft (d_0, d_1, PUnit.unit) k : (Int) × (((List (List (Int))) × (List ((Int) × (List (Int)) × Unit)) × Unit) × (List (Int)) × (List (Int)) × Unit) × Unit) = w at *
    clear hW
    obtain ⟨w_0, ⟨⟨w_1_0_0, w_1_0_1, ⟨⟩⟩, w_1_1, w_1_2, ⟨⟩⟩, ⟨⟩⟩ := w
    try dsimp only at *
    have hm := hd_mk false (.pair (.int .i64) (.pair (.pair (.pair (.sl (.sl (.int .u8))) (.pair (.sl (.pair (.int .i64) (.pair (.sl (.int .u8)) .unit))) .unit)) (.pair (.sl (.int .i64)) (.pair (.sl (.int .i64)) .unit))) .unit)) (w_0, ((w_1_0_0, w_1_0_1, PUnit.unit), w_1_1, w_1_2, PUnit.unit), PUnit.unit) 1 (by omega)
    have mt_w_1_0_0 := fun k => mk_take false (.sl (.int .u8)) w_1_0_0 k
    dsimp only [Ty.den] at mt_w_1_0_0
    have mt_w_1_0_1 := fun k => mk_take false (.pair (.int .i64) (.pair (.sl (.int .u8)) .unit)) w_1_0_1 k
    dsimp only [Ty.den] at mt_w_1_0_1
    have mt_w_1_1 := fun k => mk_take false (.int .i64) w_1_1 k
    dsimp only [Ty.den] at mt_w_1_1
    have mt_w_1_2 := fun k => mk_take false (.int .i64) w_1_2 k
    dsimp only [Ty.den] at mt_w_1_2
    simp only [tot_p, tot_u, tot_i, tot_b, tot_s, cnt_p, cnt_u, cnt_i0, cnt_b0, cnt_s0, cnt_i1, cnt_b1, cnt_s1, cnt_l, mk_p, mk_u, mk_i0, mk_b0, mk_s0, mk_i1, mk_s1, mk_l, hd_p, hd_u, hd_i0, hd_b0, hd_s0, hd_i1, hd_b1, hd_s1, hd_l, mt_w_1_0_0, mt_w_1_0_1, mt_w_1_1, mt_w_1_2] at *
    try simp only [tDisk, tPut, tot_int] at *
    repeat' (first | intro _ | apply And.intro)
    all_goals grind [szf, cnt_mk, hd_mk]
  · subst hR0 hg_F_w_toInt64S hg_Q_w_toInt64S hg_F_w_eqInt64S hg_Q_w_eqInt64S hg_F_w_markInt64S hg_B_w_markInt64S_a hg_Q_w_markInt64S hg_F_w_toDisk hg_Q_w_toDisk hg_F_w_eqDisk hg_Q_w_eqDisk hg_F_w_szDisk hg_Q_w_szDisk hg_F_w_markDisk hg_B_w_markDisk_a hg_Q_w_markDisk hg_F_w_eqDraftResult hg_Q_w_eqDraftResult hg_F_w_markDraftResult hg_B_w_markDraftResult_a hg_Q_w_markDraftResult hg_F_w_heldDraftResult hg_Q_w_heldDraftResult hg_F_s_StartDraft hg_Q_s_StartDraft hg_F_i_StartDraft hg_Q_i_StartDraft
    simp only [Lg.std, Alg.std, List.drop_zero, List.take_length, F_w_toInt64S, F_w_eqInt64S, F_w_markInt64S, F_w_toDisk, F_w_eqDisk, F_w_szDisk, F_w_markDisk, F_w_eqDraftResult, F_w_markDraftResult, F_w_heldDraftResult, F_s_StartDraft, F_i_StartDraft, B_w_markInt64S_a, B_w_markDisk_a, B_w_markDraftResult_a, Q_w_toInt64S, Q_w_eqInt64S, Q_w_markInt64S, Q_w_toDisk, Q_w_eqDisk, Q_w_szDisk, Q_w_markDisk, Q_w_eqDraftResult, Q_w_markDraftResult, Q_w_heldDraftResult, Q_s_StartDraft, Q_i_StartDraft, F_w_FnExactStartDraft]
    generalize hW : (startDraft (d_0, d_1, PUnit.unit) k : (Int) × (((List (List (Int))) × (List ((Int) × (List (Int)) × Unit)) × Unit) × (List (Int)) × (List (Int)) × Unit) × Unit) = w at *
    clear hW
    try simp only [tDisk, tPut, tot_int] at *
    simp only [tot_p, tot_u, tot_i, tot_b, tot_s, szf] at *
    repeat' (first | intro _ | apply And.intro)
    all_goals grind
def con_w_FnExactStartDraft : Con := ⟨true, g2 (pD (.pair (.sl (.sl (.int .u8))) (.pair (.sl (.pair (.int .i64) (.pair (.sl (.int .u8)) .unit))) .unit))) (pD (.sl (.int .i64))) fun d k => ⟨[Q_w_FnExactStartDraft d k], [⟨.bool, .sh, F_w_FnExactStartDraft d k⟩], []⟩, []⟩
theorem ok_w_FnExactStartDraft : ConOk pg 6 con_w_FnExactStartDraft := ConOk.g2 (Enters.of (by kernel_rfl)) ct_w_FnExactStartDraft
end Go.Vee
