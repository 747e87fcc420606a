/-
  Contracts of functions of the program: what each returns for all arguments that its precondition lets in.
-/
import Derived.Test.YtoomfdnohpkepaaVK20
set_option linter.unusedSimpArgs false
set_option linter.unusedVariables false
set_option maxRecDepth 100000
set_option maxHeartbeats 4000000
set_option synthInstance.maxHeartbeats 4000000
set_option synthInstance.maxSize 20000
namespace Go.Vee
open Go
def putG (n : Int) : Bool → List Int → List Int
  | true, l => l
  | false, [] => [n]
  | false, x :: l => if n ≤ x then (if x = n then x :: l else n :: x :: l) else x :: putG n false l
def putI (l : List Int) (n : Int) : List Int := putG n false l
theorem putG_step (n : Int) (l : List Int) (i : Nat) (h : i < l.length) : putG n false (l.drop i) = if n ≤ l.getD i 0 then (if l.getD i 0 = n then l.drop i else n :: l.drop i) else l.getD i 0 :: putG n false (l.drop (i + 1)) := by
  rw [drop_cons l 0 i h]; rfl
theorem putG_end (n : Int) (l : List Int) (i : Nat) (h : l.length ≤ i) : putG n false (l.drop i) = [n] := by rw [drop_nil l i h]; rfl
theorem putG_done (n : Int) (l : List Int) : putG n true l = l := by cases l <;> rfl
theorem putG_len (n : Int) : ∀ l : List Int, (putG n false l).length ≤ l.length + 1
  | [] => by simp [putG]
  | x :: l => by
    have := putG_len n l
    unfold putG
    split
    · split <;> simp
    · simp; omega
theorem sorted_eq : ∀ (a b : List Int), a.Pairwise (· ≤ ·) → b.Pairwise (· ≤ ·) → a.Perm b → a = b
  | [], b, _, _, h => by simpa using h.symm
  | x :: a, [], _, _, h => by have := h.length_eq; simp at this
  | x :: a, y :: b, ha, hb, h => by
    rw [List.pairwise_cons] at ha hb
    have hx : x ∈ y :: b := h.mem_iff.1 (by simp)
    have hy : y ∈ x :: a := h.mem_iff.2 (by simp)
    have hxy : x = y := by
      rcases List.mem_cons.1 hx with e | hx
      · exact e
      · rcases List.mem_cons.1 hy with e | hy
        · exact e.symm
        · have h1 := hb.1 x hx
          have h2 := ha.1 y hy
          omega
    subst hxy
    rw [sorted_eq a b ha.2 hb.2 ((List.perm_cons x).1 h)]
theorem rise_pair : ∀ l : List Int, rise l = true → l.Pairwise (· < ·)
  | [], _ => List.Pairwise.nil
  | x :: l, h => List.Pairwise.cons (rise_lt l x h) (rise_pair l (rise_tail x l h))
theorem pair_rise : ∀ l : List Int, l.Pairwise (· < ·) → rise l = true
  | [], _ => rfl
  | [_], _ => rfl
  | x :: y :: l, h => by
    rw [List.pairwise_cons] at h
    simp only [rise, Bool.and_eq_true, decide_eq_true_eq]
    exact ⟨h.1 y (by simp), pair_rise (y :: l) h.2⟩
theorem putI_perm (n : Int) : ∀ l : List Int, n ∉ l → (putG n false l).Perm (l ++ [n])
  | [], _ => List.Perm.refl _
  | x :: l, h => by
    have hx : ¬ x = n := fun e => h (by simp [e])
    unfold putG
    split
    · first | rw [if_neg hx] | skip
      exact (List.perm_append_comm (l₁ := [n]) (l₂ := x :: l))
    · exact (putI_perm n l (fun hh => h (by simp [hh]))).cons x
theorem putI_mem (n : Int) : ∀ (l : List Int) (y : Int), y ∈ putG n false l → y = n ∨ y ∈ l
  | [], y, h => by simp [putG] at h; exact .inl h
  | x :: l, y, h => by
    unfold putG at h
    split at h
    · split at h
      · exact .inr h
      · rcases List.mem_cons.1 h with e | h
        · exact .inl e
        · exact .inr h
    · rcases List.mem_cons.1 h with e | h
      · exact .inr (by simp [e])
      · rcases putI_mem n l y h with e | h
        · exact .inl e
        · exact .inr (by simp [h])
theorem putI_pair (n : Int) : ∀ l : List Int, l.Pairwise (· < ·) → (putG n false l).Pairwise (· < ·)
  | [], _ => by simp [putG]
  | x :: l, h => by
    have h' := h
    rw [List.pairwise_cons] at h
    unfold putG
    split
    · rename_i hle
      split
      · exact h'
      · rename_i hne
        rw [List.pairwise_cons]
        refine ⟨fun y hy => ?_, h'⟩
        rcases List.mem_cons.1 hy with rfl | hy
        · omega
        · have := h.1 y hy; omega
    · rename_i hlt
      rw [List.pairwise_cons]
      refine ⟨fun y hy => ?_, putI_pair n l h.2⟩
      rcases putI_mem n l y hy with rfl | hy
      · omega
      · exact h.1 y hy
theorem sort_put (l : List Int) (n : Int) (h : rise l = true) (hn : l.contains n = false) : sortI (l ++ [n]) = putI l n := by
  have hn' : n ∉ l := by simpa using hn
  have hp := rise_pair l h
  refine sorted_eq _ _ ?_ ((putI_pair n l hp).imp (fun h => by omega)) ?_
  · have := List.pairwise_mergeSort (le := fun x y : Int => decide (x ≤ y)) (by intro a b c h1 h2; simp at *; omega) (by intro a b; simp; omega) (l ++ [n])
    exact this.imp (fun h => by simpa using h)
  · exact (List.mergeSort_perm _ _).trans (putI_perm n l hn').symm
theorem freeL_mem (k t : List Int) : ∀ (m : Nat) (n x : Int), x ∈ freeL k t m n → k.contains x = false ∧ t.contains x = false ∧ n ≤ x ∧ x < n + m
  | 0, n, x, h => by simp [freeL] at h
  | m + 1, n, x, h => by
    unfold freeL at h
    split at h
    · rename_i hc
      rcases List.mem_cons.1 h with rfl | h
      · exact ⟨hc.1, hc.2, by omega, by omega⟩
      · obtain ⟨a, b, c, d⟩ := freeL_mem k t m (n + 1) x h
        exact ⟨a, b, by omega, by omega⟩
    · obtain ⟨a, b, c, d⟩ := freeL_mem k t m (n + 1) x h
      exact ⟨a, b, by omega, by omega⟩
def takeN (d : DraftT) : Int := (freeOf d).getD 0 0
def takeD (d : DraftT) : DraftT := if (freeOf d).length = 0 then d else (d.1, d.2.1, putI d.2.2.1 (takeN d), ())
theorem takeN_free (d : DraftT) (h : ¬ (freeOf d).length = 0) : d.2.1.contains (takeN d) = false ∧ d.2.2.1.contains (takeN d) = false ∧ 2 ≤ takeN d ∧ takeN d < 2 + ((d.1.1.length - 2 : Nat) : Int) := by
  have hm : takeN d ∈ freeOf d := getD_mem _ _ _ (by omega)
  exact freeL_mem _ _ _ _ _ hm
theorem takeN_none (d : DraftT) (h : (freeOf d).length = 0) : takeN d = 0 := by
  unfold takeN
  rw [List.getD_eq_getElem?_getD, List.getElem?_eq_none (by omega)]; rfl
def takePg (d : DraftT) : Int × DraftT × Int × Unit := if draftFault d ≠ 0 then (draftFault d, zDraft, 0, ()) else if (freeOf d).length = 0 then (7, zDraft, 0, ()) else (0, takeD d, takeN d, ())
theorem takePg_tot (d : DraftT) : tot (.pair (.pair (.sl (.sl (.int .u8))) (.pair (.sl (.pair (.int .i64) (.pair (.sl (.int .u8)) .unit))) .unit)) (.pair (.sl (.int .i64)) (.pair (.sl (.int .i64)) .unit))) (takePg d).2.1 ≤ tot (.pair (.pair (.sl (.sl (.int .u8))) (.pair (.sl (.pair (.int .i64) (.pair (.sl (.int .u8)) .unit))) .unit)) (.pair (.sl (.int .i64)) (.pair (.sl (.int .i64)) .unit))) d + 1 := by
  unfold takePg
  split
  · simp [tot, totL]
  split
  · simp [tot, totL]
  · rename_i h1 h2
    have e := putG_len (takeN d) d.2.2.1
    simp only [takeD, if_neg h2, putI, tDisk, tPut, tot_p, tot_u, tot_int] at e ⊢
    omega

def F_w_eqLaidResult (a : (Int) × (((List (List (Int))) × (List ((Int) × (List (Int)) × Unit)) × Unit) × (List (Int)) × (List (Int)) × Unit) × (Int) × Unit) (b : (Int) × (((List (List (Int))) × (List ((Int) × (List (Int)) × Unit)) × Unit) × (List (Int)) × (List (Int)) × Unit) × (Int) × Unit) : Bool := decide (a = b)
def Q_w_eqLaidResult (a : (Int) × (((List (List (Int))) × (List ((Int) × (List (Int)) × Unit)) × Unit) × (List (Int)) × (List (Int)) × Unit) × (Int) × Unit) (b : (Int) × (((List (List (Int))) × (List ((Int) × (List (Int)) × Unit)) × Unit) × (List (Int)) × (List (Int)) × Unit) × (Int) × Unit) : Prop := True
def O_w_eqLaidResult : Opt := ⟨fun i => false, fun i => [], fun i => .done, fun i => none, fun i => false, fun i => []⟩
def τ_w_eqLaidResult : Env := Env.of [(2, (.int .i64)), (4, .bool), (56, (.pair (.pair (.sl (.sl (.int .u8))) (.pair (.sl (.pair (.int .i64) (.pair (.sl (.int .u8)) .unit))) .unit)) (.pair (.sl (.int .i64)) (.pair (.sl (.int .i64)) .unit)))), (97, (.pair (.int .i64) (.pair (.pair (.pair (.sl (.sl (.int .u8))) (.pair (.sl (.pair (.int .i64) (.pair (.sl (.int .u8)) .unit))) .unit)) (.pair (.sl (.int .i64)) (.pair (.sl (.int .i64)) .unit))) (.pair (.int .i64) .unit))))] [] []

theorem ct_w_eqLaidResult (a : (Int) × (((List (List (Int))) × (List ((Int) × (List (Int)) × Unit)) × Unit) × (List (Int)) × (List (Int)) × Unit) × (Int) × Unit) (b : (Int) × (((List (List (Int))) × (List ((Int) × (List (Int)) × Unit)) × Unit) × (List (Int)) × (List (Int)) × Unit) × (Int) × Unit) : Ct pg 70 [.dat (.pair (.int .i64) (.pair (.pair (.pair (.sl (.sl (.int .u8))) (.pair (.sl (.pair (.int .i64) (.pair (.sl (.int .u8)) .unit))) .unit)) (.pair (.sl (.int .i64)) (.pair (.sl (.int .i64)) .unit))) (.pair (.int .i64) .unit))) a, .dat (.pair (.int .i64) (.pair (.pair (.pair (.sl (.sl (.int .u8))) (.pair (.sl (.pair (.int .i64) (.pair (.sl (.int .u8)) .unit))) .unit)) (.pair (.sl (.int .i64)) (.pair (.sl (.int .i64)) .unit))) (.pair (.int .i64) .unit))) b] ⟨[Q_w_eqLaidResult a b], [⟨.bool, .sh, F_w_eqLaidResult a b⟩], []⟩ := by
  refine ct_claim (O := O_w_eqLaidResult) (τ := τ_w_eqLaidResult) (EnvOk.of (by kernel_rfl) (by kernel_rfl)) (GOk.of (.cons ok_w_eqDraft .nil : AllOk pg [(36, con_w_eqDraft)])) mixed (Enters.of (by kernel_rfl)) (fn := Go.Proofs.Try.f70) (by kernel_rfl) rfl (by kernel_rfl) ?_
  intro hp hw
  have hq : Q_w_eqLaidResult a b := hp _ (List.mem_singleton.2 rfl)
  clear hp
  change claim Lg.std Alg.std τ_w_eqLaidResult (Gam.of [(36, ⟨true, g2 (pD (.pair (.pair (.sl (.sl (.int .u8))) (.pair (.sl (.pair (.int .i64) (.pair (.sl (.int .u8)) .unit))) .unit)) (.pair (.sl (.int .i64)) (.pair (.sl (.int .i64)) .unit)))) (pD (.pair (.pair (.sl (.sl (.int .u8))) (.pair (.sl (.pair (.int .i64) (.pair (.sl (.int .u8)) .unit))) .unit)) (.pair (.sl (.int .i64)) (.pair (.sl (.int .i64)) .unit)))) fun a b => ⟨[Q_w_eqDraft a b], [⟨.bool, .sh, F_w_eqDraft a b⟩], []⟩, [], false, 0⟩)]) O_w_eqLaidResult Go.Proofs.Try.f70 [.dat (.pair (.int .i64) (.pair (.pair (.pair (.sl (.sl (.int .u8))) (.pair (.sl (.pair (.int .i64) (.pair (.sl (.int .u8)) .unit))) .unit)) (.pair (.sl (.int .i64)) (.pair (.sl (.int .i64)) .unit))) (.pair (.int .i64) .unit))) a, .dat (.pair (.int .i64) (.pair (.pair (.pair (.sl (.sl (.int .u8))) (.pair (.sl (.pair (.int .i64) (.pair (.sl (.int .u8)) .unit))) .unit)) (.pair (.sl (.int .i64)) (.pair (.sl (.int .i64)) .unit))) (.pair (.int .i64) .unit))) b] ⟨[Q_w_eqLaidResult a b], [⟨.bool, .sh, F_w_eqLaidResult a b⟩], []⟩
  generalize hg_F_w_eqDraft : F_w_eqDraft = g_F_w_eqDraft
  generalize hg_Q_w_eqDraft : Q_w_eqDraft = g_Q_w_eqDraft
  generalize hR0 : F_w_eqLaidResult a b = R0
  generalize Q_w_eqLaidResult a b = Q0
  generalize hL : Lg.std = L
  generalize hA : Alg.std = A
  cbv
  subst hL hA
  try dsimp only [Ty.den]
  obtain ⟨f0, f1, f2, ⟨⟩⟩ := a
  obtain ⟨g0, g1, g2, ⟨⟩⟩ := b
  subst hR0 hg_F_w_eqDraft hg_Q_w_eqDraft
  simp only [Q_w_eqLaidResult] at hq
  simp only [Lg.std, Alg.std, List.drop_zero, List.take_length, F_w_eqDraft, Q_w_eqDraft, F_w_eqLaidResult]
  all_goals grind
def con_w_eqLaidResult : Con := ⟨true, g2 (pD (.pair (.int .i64) (.pair (.pair (.pair (.sl (.sl (.int .u8))) (.pair (.sl (.pair (.int .i64) (.pair (.sl (.int .u8)) .unit))) .unit)) (.pair (.sl (.int .i64)) (.pair (.sl (.int .i64)) .unit))) (.pair (.int .i64) .unit)))) (pD (.pair (.int .i64) (.pair (.pair (.pair (.sl (.sl (.int .u8))) (.pair (.sl (.pair (.int .i64) (.pair (.sl (.int .u8)) .unit))) .unit)) (.pair (.sl (.int .i64)) (.pair (.sl (.int .i64)) .unit))) (.pair (.int .i64) .unit)))) fun a b => ⟨[Q_w_eqLaidResult a b], [⟨.bool, .sh, F_w_eqLaidResult a b⟩], []⟩, [], false, 0⟩
theorem ok_w_eqLaidResult : ConOk pg 70 con_w_eqLaidResult := ConOk.g2 (Enters.of (by kernel_rfl)) ct_w_eqLaidResult

def F_w_markLaidResult (a : (Int) × (((List (List (Int))) × (List ((Int) × (List (Int)) × Unit)) × Unit) × (List (Int)) × (List (Int)) × Unit) × (Int) × Unit) (k : Int) : Int := k + cnt false (.pair (.int .i64) (.pair (.pair (.pair (.sl (.sl (.int .u8))) (.pair (.sl (.pair (.int .i64) (.pair (.sl (.int .u8)) .unit))) .unit)) (.pair (.sl (.int .i64)) (.pair (.sl (.int .i64)) .unit))) (.pair (.int .i64) .unit))) a
def B_w_markLaidResult_a (a : (Int) × (((List (List (Int))) × (List ((Int) × (List (Int)) × Unit)) × Unit) × (List (Int)) × (List (Int)) × Unit) × (Int) × Unit) (k : Int) : (Int) × (((List (List (Int))) × (List ((Int) × (List (Int)) × Unit)) × Unit) × (List (Int)) × (List (Int)) × Unit) × (Int) × Unit := mk false (.pair (.int .i64) (.pair (.pair (.pair (.sl (.sl (.int .u8))) (.pair (.sl (.pair (.int .i64) (.pair (.sl (.int .u8)) .unit))) .unit)) (.pair (.sl (.int .i64)) (.pair (.sl (.int .i64)) .unit))) (.pair (.int .i64) .unit))) a k
def Q_w_markLaidResult (a : (Int) × (((List (List (Int))) × (List ((Int) × (List (Int)) × Unit)) × Unit) × (List (Int)) × (List (Int)) × Unit) × (Int) × Unit) (k : Int) : Prop := 0 ≤ k ∧ k + cnt false (.pair (.int .i64) (.pair (.pair (.pair (.sl (.sl (.int .u8))) (.pair (.sl (.pair (.int .i64) (.pair (.sl (.int .u8)) .unit))) .unit)) (.pair (.sl (.int .i64)) (.pair (.sl (.int .i64)) .unit))) (.pair (.int .i64) .unit))) a ≤ 4611686018427387904
def O_w_markLaidResult : Opt := ⟨fun i => false, fun i => [], fun i => .done, fun i => none, fun i => false, fun i => []⟩
def τ_w_markLaidResult : Env := Env.of [(3, (.int .i64)), (4, .bool), (56, (.pair (.pair (.sl (.sl (.int .u8))) (.pair (.sl (.pair (.int .i64) (.pair (.sl (.int .u8)) .unit))) .unit)) (.pair (.sl (.int .i64)) (.pair (.sl (.int .i64)) .unit)))), (97, (.pair (.int .i64) (.pair (.pair (.pair (.sl (.sl (.int .u8))) (.pair (.sl (.pair (.int .i64) (.pair (.sl (.int .u8)) .unit))) .unit)) (.pair (.sl (.int .i64)) (.pair (.sl (.int .i64)) .unit))) (.pair (.int .i64) .unit))))] [] []

theorem ct_w_markLaidResult (a : (Int) × (((List (List (Int))) × (List ((Int) × (List (Int)) × Unit)) × Unit) × (List (Int)) × (List (Int)) × Unit) × (Int) × Unit) (k : Int) : Ct pg 71 [.mv (.pair (.int .i64) (.pair (.pair (.pair (.sl (.sl (.int .u8))) (.pair (.sl (.pair (.int .i64) (.pair (.sl (.int .u8)) .unit))) .unit)) (.pair (.sl (.int .i64)) (.pair (.sl (.int .i64)) .unit))) (.pair (.int .i64) .unit))) (.pr .sh (.pr (.pr (.pr (.ow (.ow .sh)) (.pr (.ow (.pr .sh (.pr (.ow .sh) .sh))) .sh)) (.pr (.ow .sh) (.pr (.ow .sh) .sh))) (.pr .sh .sh))) a, .dat (.int .i64) k] ⟨[Q_w_markLaidResult a k], [⟨(.int .i64), .sh, F_w_markLaidResult a k⟩], [.mv (.pair (.int .i64) (.pair (.pair (.pair (.sl (.sl (.int .u8))) (.pair (.sl (.pair (.int .i64) (.pair (.sl (.int .u8)) .unit))) .unit)) (.pair (.sl (.int .i64)) (.pair (.sl (.int .i64)) .unit))) (.pair (.int .i64) .unit))) (.pr .sh (.pr (.pr (.pr (.ow (.ow .sh)) (.pr (.ow (.pr .sh (.pr (.ow .sh) .sh))) .sh)) (.pr (.ow .sh) (.pr (.ow .sh) .sh))) (.pr .sh .sh))) (B_w_markLaidResult_a a k)]⟩ := by
  refine ct_claim (O := O_w_markLaidResult) (τ := τ_w_markLaidResult) (EnvOk.of (by kernel_rfl) (by kernel_rfl)) (GOk.of (.cons ok_w_markDraft .nil : AllOk pg [(37, con_w_markDraft)])) mixed (Enters.of (by kernel_rfl)) (fn := Go.Proofs.Try.f71) (by kernel_rfl) rfl (by kernel_rfl) ?_
  intro hp hw
  have hq : Q_w_markLaidResult a k := hp _ (List.mem_singleton.2 rfl)
  clear hp
  change claim Lg.std Alg.std τ_w_markLaidResult (Gam.of [(37, ⟨true, g2 (pV (.pair (.pair (.sl (.sl (.int .u8))) (.pair (.sl (.pair (.int .i64) (.pair (.sl (.int .u8)) .unit))) .unit)) (.pair (.sl (.int .i64)) (.pair (.sl (.int .i64)) .unit))) (.pr (.pr (.ow (.ow .sh)) (.pr (.ow (.pr .sh (.pr (.ow .sh) .sh))) .sh)) (.pr (.ow .sh) (.pr (.ow .sh) .sh)))) (pD (.int .i64)) fun a k => ⟨[Q_w_markDraft a k], [⟨(.int .i64), .sh, F_w_markDraft a k⟩], [.mv (.pair (.pair (.sl (.sl (.int .u8))) (.pair (.sl (.pair (.int .i64) (.pair (.sl (.int .u8)) .unit))) .unit)) (.pair (.sl (.int .i64)) (.pair (.sl (.int .i64)) .unit))) (.pr (.pr (.ow (.ow .sh)) (.pr (.ow (.pr .sh (.pr (.ow .sh) .sh))) .sh)) (.pr (.ow .sh) (.pr (.ow .sh) .sh))) (B_w_markDraft_a a k)]⟩, [(.pr (.pr (.ow (.ow .sh)) (.pr (.ow (.pr .sh (.pr (.ow .sh) .sh))) .sh)) (.pr (.ow .sh) (.pr (.ow .sh) .sh)))], false, 0⟩)]) O_w_markLaidResult Go.Proofs.Try.f71 [.mv (.pair (.int .i64) (.pair (.pair (.pair (.sl (.sl (.int .u8))) (.pair (.sl (.pair (.int .i64) (.pair (.sl (.int .u8)) .unit))) .unit)) (.pair (.sl (.int .i64)) (.pair (.sl (.int .i64)) .unit))) (.pair (.int .i64) .unit))) (.pr .sh (.pr (.pr (.pr (.ow (.ow .sh)) (.pr (.ow (.pr .sh (.pr (.ow .sh) .sh))) .sh)) (.pr (.ow .sh) (.pr (.ow .sh) .sh))) (.pr .sh .sh))) a, .dat (.int .i64) k] ⟨[Q_w_markLaidResult a k], [⟨(.int .i64), .sh, F_w_markLaidResult a k⟩], [.mv (.pair (.int .i64) (.pair (.pair (.pair (.sl (.sl (.int .u8))) (.pair (.sl (.pair (.int .i64) (.pair (.sl (.int .u8)) .unit))) .unit)) (.pair (.sl (.int .i64)) (.pair (.sl (.int .i64)) .unit))) (.pair (.int .i64) .unit))) (.pr .sh (.pr (.pr (.pr (.ow (.ow .sh)) (.pr (.ow (.pr .sh (.pr (.ow .sh) .sh))) .sh)) (.pr (.ow .sh) (.pr (.ow .sh) .sh))) (.pr .sh .sh))) (B_w_markLaidResult_a a k)]⟩
  generalize hg_F_w_markDraft : F_w_markDraft = g_F_w_markDraft
  generalize hg_B_w_markDraft_a : B_w_markDraft_a = g_B_w_markDraft_a
  generalize hg_Q_w_markDraft : Q_w_markDraft = g_Q_w_markDraft
  generalize hR0 : F_w_markLaidResult a k = R0
  generalize hB_a : B_w_markLaidResult_a a k = B_a
  generalize Q_w_markLaidResult a k = Q0
  generalize hL : Lg.std = L
  generalize hA : Alg.std = A
  cbv
  subst hL hA
  try dsimp only [Ty.den]
  obtain ⟨f0, f1, f2, ⟨⟩⟩ := a
  simp only [Q_w_markLaidResult] at hq
  subst hR0 hB_a hg_F_w_markDraft hg_B_w_markDraft_a hg_Q_w_markDraft
  simp only [Lg.std, Alg.std, List.drop_zero, List.take_length, F_w_markDraft, B_w_markDraft_a, Q_w_markDraft, F_w_markLaidResult, B_w_markLaidResult_a, szf, tot_p, tot_u, tot_i, tot_b, tot_s, cnt_p, cnt_u, cnt_i0, cnt_b0, cnt_s0, cnt_i1, cnt_b1, cnt_s1, cnt_l, mk_p, mk_u, mk_i0, mk_b0, mk_s0, mk_i1, mk_s1, mk_l, hd_p, hd_u, hd_i0, hd_b0, hd_s0, hd_i1, hd_b1, hd_s1, hd_l] at *
  all_goals grind [mk_len]
def con_w_markLaidResult : Con := ⟨true, g2 (pV (.pair (.int .i64) (.pair (.pair (.pair (.sl (.sl (.int .u8))) (.pair (.sl (.pair (.int .i64) (.pair (.sl (.int .u8)) .unit))) .unit)) (.pair (.sl (.int .i64)) (.pair (.sl (.int .i64)) .unit))) (.pair (.int .i64) .unit))) (.pr .sh (.pr (.pr (.pr (.ow (.ow .sh)) (.pr (.ow (.pr .sh (.pr (.ow .sh) .sh))) .sh)) (.pr (.ow .sh) (.pr (.ow .sh) .sh))) (.pr .sh .sh)))) (pD (.int .i64)) fun a k => ⟨[Q_w_markLaidResult a k], [⟨(.int .i64), .sh, F_w_markLaidResult a k⟩], [.mv (.pair (.int .i64) (.pair (.pair (.pair (.sl (.sl (.int .u8))) (.pair (.sl (.pair (.int .i64) (.pair (.sl (.int .u8)) .unit))) .unit)) (.pair (.sl (.int .i64)) (.pair (.sl (.int .i64)) .unit))) (.pair (.int .i64) .unit))) (.pr .sh (.pr (.pr (.pr (.ow (.ow .sh)) (.pr (.ow (.pr .sh (.pr (.ow .sh) .sh))) .sh)) (.pr (.ow .sh) (.pr (.ow .sh) .sh))) (.pr .sh .sh))) (B_w_markLaidResult_a a k)]⟩, [(.pr .sh (.pr (.pr (.pr (.ow (.ow .sh)) (.pr (.ow (.pr .sh (.pr (.ow .sh) .sh))) .sh)) (.pr (.ow .sh) (.pr (.ow .sh) .sh))) (.pr .sh .sh)))], false, 0⟩
theorem ok_w_markLaidResult : ConOk pg 71 con_w_markLaidResult := ConOk.g2 (Enters.of (by kernel_rfl)) ct_w_markLaidResult

def F_w_heldLaidResult (a : (Int) × (((List (List (Int))) × (List ((Int) × (List (Int)) × Unit)) × Unit) × (List (Int)) × (List (Int)) × Unit) × (Int) × Unit) (k : Int) : Int := hd false (.pair (.int .i64) (.pair (.pair (.pair (.sl (.sl (.int .u8))) (.pair (.sl (.pair (.int .i64) (.pair (.sl (.int .u8)) .unit))) .unit)) (.pair (.sl (.int .i64)) (.pair (.sl (.int .i64)) .unit))) (.pair (.int .i64) .unit))) a k
def Q_w_heldLaidResult (a : (Int) × (((List (List (Int))) × (List ((Int) × (List (Int)) × Unit)) × Unit) × (List (Int)) × (List (Int)) × Unit) × (Int) × Unit) (k : Int) : Prop := 0 ≤ k ∧ k + cnt false (.pair (.int .i64) (.pair (.pair (.pair (.sl (.sl (.int .u8))) (.pair (.sl (.pair (.int .i64) (.pair (.sl (.int .u8)) .unit))) .unit)) (.pair (.sl (.int .i64)) (.pair (.sl (.int .i64)) .unit))) (.pair (.int .i64) .unit))) a ≤ 4611686018427387904
def O_w_heldLaidResult : Opt := ⟨fun i => false, fun i => [], fun i => .done, fun i => none, fun i => false, fun i => []⟩
def τ_w_heldLaidResult : Env := Env.of [(3, (.int .i64)), (4, .bool), (56, (.pair (.pair (.sl (.sl (.int .u8))) (.pair (.sl (.pair (.int .i64) (.pair (.sl (.int .u8)) .unit))) .unit)) (.pair (.sl (.int .i64)) (.pair (.sl (.int .i64)) .unit)))), (97, (.pair (.int .i64) (.pair (.pair (.pair (.sl (.sl (.int .u8))) (.pair (.sl (.pair (.int .i64) (.pair (.sl (.int .u8)) .unit))) .unit)) (.pair (.sl (.int .i64)) (.pair (.sl (.int .i64)) .unit))) (.pair (.int .i64) .unit))))] [] []

theorem ct_w_heldLaidResult (a : (Int) × (((List (List (Int))) × (List ((Int) × (List (Int)) × Unit)) × Unit) × (List (Int)) × (List (Int)) × Unit) × (Int) × Unit) (k : Int) : Ct pg 72 [.dat (.pair (.int .i64) (.pair (.pair (.pair (.sl (.sl (.int .u8))) (.pair (.sl (.pair (.int .i64) (.pair (.sl (.int .u8)) .unit))) .unit)) (.pair (.sl (.int .i64)) (.pair (.sl (.int .i64)) .unit))) (.pair (.int .i64) .unit))) a, .dat (.int .i64) k] ⟨[Q_w_heldLaidResult a k], [⟨(.int .i64), .sh, F_w_heldLaidResult a k⟩], []⟩ := by
  refine ct_claim (O := O_w_heldLaidResult) (τ := τ_w_heldLaidResult) (EnvOk.of (by kernel_rfl) (by kernel_rfl)) (GOk.of (.cons ok_w_heldDraft .nil : AllOk pg [(112, con_w_heldDraft)])) mixed (Enters.of (by kernel_rfl)) (fn := Go.Proofs.Try.f72) (by kernel_rfl) rfl (by kernel_rfl) ?_
  intro hp hw
  have hq : Q_w_heldLaidResult a k := hp _ (List.mem_singleton.2 rfl)
  clear hp
  change claim Lg.std Alg.std τ_w_heldLaidResult (Gam.of [(112, ⟨true, g2 (pD (.pair (.pair (.sl (.sl (.int .u8))) (.pair (.sl (.pair (.int .i64) (.pair (.sl (.int .u8)) .unit))) .unit)) (.pair (.sl (.int .i64)) (.pair (.sl (.int .i64)) .unit)))) (pD (.int .i64)) fun a k => ⟨[Q_w_heldDraft a k], [⟨(.int .i64), .sh, F_w_heldDraft a k⟩], []⟩, [], false, 0⟩)]) O_w_heldLaidResult Go.Proofs.Try.f72 [.dat (.pair (.int .i64) (.pair (.pair (.pair (.sl (.sl (.int .u8))) (.pair (.sl (.pair (.int .i64) (.pair (.sl (.int .u8)) .unit))) .unit)) (.pair (.sl (.int .i64)) (.pair (.sl (.int .i64)) .unit))) (.pair (.int .i64) .unit))) a, .dat (.int .i64) k] ⟨[Q_w_heldLaidResult a k], [⟨(.int .i64), .sh, F_w_heldLaidResult a k⟩], []⟩
  generalize hg_F_w_heldDraft : F_w_heldDraft = g_F_w_heldDraft
  generalize hg_Q_w_heldDraft : Q_w_heldDraft = g_Q_w_heldDraft
  generalize hR0 : F_w_heldLaidResult a k = R0
  generalize Q_w_heldLaidResult a k = Q0
  generalize hL : Lg.std = L
  generalize hA : Alg.std = A
  cbv
  subst hL hA
  try dsimp only [Ty.den]
  obtain ⟨f0, f1, f2, ⟨⟩⟩ := a
  have ho1 := fun k h => hd_or false (.pair (.pair (.sl (.sl (.int .u8))) (.pair (.sl (.pair (.int .i64) (.pair (.sl (.int .u8)) .unit))) .unit)) (.pair (.sl (.int .i64)) (.pair (.sl (.int .i64)) .unit))) f1 k h
  simp only [Q_w_heldLaidResult] at hq
  subst hR0 hg_F_w_heldDraft hg_Q_w_heldDraft
  simp only [Lg.std, Alg.std, List.drop_zero, List.take_length, F_w_heldDraft, Q_w_heldDraft, F_w_heldLaidResult, szf, tot_p, tot_u, tot_i, tot_b, tot_s, cnt_p, cnt_u, cnt_i0, cnt_b0, cnt_s0, cnt_i1, cnt_b1, cnt_s1, cnt_l, mk_p, mk_u, mk_i0, mk_b0, mk_s0, mk_i1, mk_s1, mk_l, hd_p, hd_u, hd_i0, hd_b0, hd_s0, hd_i1, hd_b1, hd_s1, hd_l] at *
  all_goals grind [mk_len]
def con_w_heldLaidResult : Con := ⟨true, g2 (pD (.pair (.int .i64) (.pair (.pair (.pair (.sl (.sl (.int .u8))) (.pair (.sl (.pair (.int .i64) (.pair (.sl (.int .u8)) .unit))) .unit)) (.pair (.sl (.int .i64)) (.pair (.sl (.int .i64)) .unit))) (.pair (.int .i64) .unit)))) (pD (.int .i64)) fun a k => ⟨[Q_w_heldLaidResult a k], [⟨(.int .i64), .sh, F_w_heldLaidResult a k⟩], []⟩, [], false, 0⟩
theorem ok_w_heldLaidResult : ConOk pg 72 con_w_heldLaidResult := ConOk.g2 (Enters.of (by kernel_rfl)) ct_w_heldLaidResult

def B_sl_Sort_int64_s (s : List (Int)) : List (Int) := sortI s
def Q_sl_Sort_int64 (s : List (Int)) : Prop := s.length < 4611686018427387904
open Go.Shelf in
def laysSort_ren : Go.Shelf.Ren := ⟨fun | 5 => 176 | 8 => 196 | 7 => 195 | 19 => 211 | 20 => 212 | 10 => 202 | 11 => 203 | 12 => 204 | 13 => 205 | 14 => 206 | 15 => 207 | 16 => 208 | 17 => 209 | 18 => 210 | 30 => 215 | 31 => 216 | 32 => 217 | 33 => 218 | 34 => 219 | 35 => 220 | 40 => 221 | n => n, fun | 23 => 43 | 25 => 2 | 3 => 3 | 32 => 214 | 22 => 43 | 0 => 0 | 44 => 226 | 46 => 228 | 4 => 4 | 36 => 218 | 35 => 217 | 41 => 223 | 5 => 5 | 9 => 9 | 53 => 230 | 57 => 234 | 63 => 236 | 64 => 237 | n => n, fun | n => n⟩
open Go.Shelf in
theorem laysSort : Go.Proofs.SlLaysM.n5 pg laysSort_ren := {
  mixed := (by kernel_rfl),
  f5 := ⟨Go.Proofs.Try.f176.name, by decide, Go.Proofs.Try.func176.trans (congrArg some (by kernel_rfl))⟩,
  f7 := ⟨Go.Proofs.Try.f195.name, by decide, Go.Proofs.Try.func195.trans (congrArg some (by kernel_rfl))⟩,
  f8 := Go.Proofs.Try.func196.trans (congrArg some (by kernel_rfl)),
  f10 := ⟨Go.Proofs.Try.f202.name, by decide, Go.Proofs.Try.func202.trans (congrArg some (by kernel_rfl))⟩,
  f11 := ⟨Go.Proofs.Try.f203.name, by decide, Go.Proofs.Try.func203.trans (congrArg some (by kernel_rfl))⟩,
  f12 := ⟨Go.Proofs.Try.f204.name, by decide, Go.Proofs.Try.func204.trans (congrArg some (by kernel_rfl))⟩,
  f13 := ⟨Go.Proofs.Try.f205.name, by decide, Go.Proofs.Try.func205.trans (congrArg some (by kernel_rfl))⟩,
  f14 := ⟨Go.Proofs.Try.f206.name, by decide, Go.Proofs.Try.func206.trans (congrArg some (by kernel_rfl))⟩,
  f15 := ⟨Go.Proofs.Try.f207.name, by decide, Go.Proofs.Try.func207.trans (congrArg some (by kernel_rfl))⟩,
  f16 := ⟨Go.Proofs.Try.f208.name, by decide, Go.Proofs.Try.func208.trans (congrArg some (by kernel_rfl))⟩,
  f17 := ⟨Go.Proofs.Try.f209.name, by decide, Go.Proofs.Try.func209.trans (congrArg some (by kernel_rfl))⟩,
  f18 := ⟨Go.Proofs.Try.f210.name, by decide, Go.Proofs.Try.func210.trans (congrArg some (by kernel_rfl))⟩,
  f19 := Go.Proofs.Try.func211.trans (congrArg some (by kernel_rfl)),
  f20 := Go.Proofs.Try.func212.trans (congrArg some (by kernel_rfl)),
  f30 := ⟨Go.Proofs.Try.f215.name, by decide, Go.Proofs.Try.func215.trans (congrArg some (by kernel_rfl))⟩,
  f31 := Go.Proofs.Try.func216.trans (congrArg some (by kernel_rfl)),
  f32 := Go.Proofs.Try.func217.trans (congrArg some (by kernel_rfl)),
  f33 := ⟨Go.Proofs.Try.f218.name, by decide, Go.Proofs.Try.func218.trans (congrArg some (by kernel_rfl))⟩,
  f34 := ⟨Go.Proofs.Try.f219.name, by decide, Go.Proofs.Try.func219.trans (congrArg some (by kernel_rfl))⟩,
  f35 := ⟨Go.Proofs.Try.f220.name, by decide, Go.Proofs.Try.func220.trans (congrArg some (by kernel_rfl))⟩,
  f40 := ⟨Go.Proofs.Try.f221.name, by decide, Go.Proofs.Try.func221.trans (congrArg some (by kernel_rfl))⟩,
  t0 := Go.Proofs.Try.underlying0,
  a0 := Go.Proofs.Try.isAgg0,
  z0 := Go.Proofs.Try.sizeOf0,
  v0 := Go.Proofs.Try.zeroValue0,
  t3 := Go.Proofs.Try.underlying3,
  a3 := Go.Proofs.Try.isAgg3,
  z3 := Go.Proofs.Try.sizeOf3,
  v3 := Go.Proofs.Try.zeroValue3,
  t4 := Go.Proofs.Try.underlying4,
  a4 := Go.Proofs.Try.isAgg4,
  z4 := Go.Proofs.Try.sizeOf4,
  v4 := Go.Proofs.Try.zeroValue4,
  t5 := Go.Proofs.Try.underlying5,
  a5 := Go.Proofs.Try.isAgg5,
  z5 := Go.Proofs.Try.sizeOf5,
  v5 := Go.Proofs.Try.zeroValue5,
  t9 := Go.Proofs.Try.underlying9,
  a9 := Go.Proofs.Try.isAgg9,
  z9 := Go.Proofs.Try.sizeOf9,
  v9 := Go.Proofs.Try.zeroValue9,
  t22 := Go.Proofs.Try.underlying43,
  a22 := Go.Proofs.Try.isAgg43,
  z22 := Go.Proofs.Try.sizeOf43,
  v22 := Go.Proofs.Try.zeroValue43,
  t23 := Go.Proofs.Try.underlying43,
  a23 := Go.Proofs.Try.isAgg43,
  z23 := Go.Proofs.Try.sizeOf43,
  v23 := Go.Proofs.Try.zeroValue43,
  t25 := Go.Proofs.Try.underlying2,
  a25 := Go.Proofs.Try.isAgg2,
  z25 := Go.Proofs.Try.sizeOf2,
  v25 := Go.Proofs.Try.zeroValue2,
  t32 := Go.Proofs.Try.underlying214,
  a32 := Go.Proofs.Try.isAgg214,
  z32 := Go.Proofs.Try.sizeOf214,
  v32 := Go.Proofs.Try.zeroValue214,
  t35 := Go.Proofs.Try.underlying217,
  a35 := Go.Proofs.Try.isAgg217,
  z35 := Go.Proofs.Try.sizeOf217,
  v35 := Go.Proofs.Try.zeroValue217,
  t36 := Go.Proofs.Try.underlying218,
  a36 := Go.Proofs.Try.isAgg218,
  z36 := Go.Proofs.Try.sizeOf218,
  v36 := Go.Proofs.Try.zeroValue218,
  t41 := Go.Proofs.Try.underlying223,
  a41 := Go.Proofs.Try.isAgg223,
  z41 := Go.Proofs.Try.sizeOf223,
  v41 := Go.Proofs.Try.zeroValue223,
  t44 := Go.Proofs.Try.underlying226,
  a44 := Go.Proofs.Try.isAgg226,
  z44 := Go.Proofs.Try.sizeOf226,
  v44 := Go.Proofs.Try.zeroValue226,
  t46 := Go.Proofs.Try.underlying228,
  a46 := Go.Proofs.Try.isAgg228,
  z46 := Go.Proofs.Try.sizeOf228,
  v46 := Go.Proofs.Try.zeroValue228,
  t53 := Go.Proofs.Try.underlying230,
  a53 := Go.Proofs.Try.isAgg230,
  z53 := Go.Proofs.Try.sizeOf230,
  v53 := Go.Proofs.Try.zeroValue230,
  t57 := Go.Proofs.Try.underlying234,
  a57 := Go.Proofs.Try.isAgg234,
  z57 := Go.Proofs.Try.sizeOf234,
  v57 := Go.Proofs.Try.zeroValue234,
  t63 := Go.Proofs.Try.underlying236,
  a63 := Go.Proofs.Try.isAgg236,
  z63 := Go.Proofs.Try.sizeOf236,
  v63 := Go.Proofs.Try.zeroValue236,
  t64 := Go.Proofs.Try.underlying237,
  a64 := Go.Proofs.Try.isAgg237,
  z64 := Go.Proofs.Try.sizeOf237,
  v64 := Go.Proofs.Try.zeroValue237 }

def con_sl_Sort_int64 : Con := ⟨false, g1 (pV (.sl (.int .i64)) (.ow .sh)) fun s => ⟨[Q_sl_Sort_int64 s], [], [.mv (.sl (.int .i64)) (.ow .sh) (B_sl_Sort_int64_s s)]⟩, [(.ow .sh)], false, 0⟩
theorem ok_sl_Sort_int64 : ConOk pg 176 con_sl_Sort_int64 := ok_sort laysSort (by rfl) (Enters.of (by kernel_rfl)) Q_sl_Sort_int64 B_sl_Sort_int64_s (fun xs h => h) (fun xs => rfl)

def F_s_l1Put (list : List (Int)) (n : Int) : List (Int) := putI list n
def Q_s_l1Put (list : List (Int)) (n : Int) : Prop := list.length ≤ 1048576
def O_s_l1Put : Opt := ⟨fun i => false, fun i => (match decide (i = 4) with | true => [true, true, false, false, false, true, true, true, false, false, false, false, false, false, false, false, false, false, false, false, false, false, false, false, false, false, false, false, false, false, false, false, false, false, false, false, false, false, false, false, false, false, false, false, false, false, false, false, false] | false => []), fun i => .done, fun i => none, fun i => (match decide (i = 4) with | true => true | false => false), fun i => (match decide (i = 4) with | true => [(6, none, .bool, .sh)] | false => [])⟩
def τ_s_l1Put : Env := Env.of [(2, (.int .i64)), (3, (.int .i64)), (4, .bool), (43, (.sl (.int .i64)))] [] []

theorem ct_s_l1Put (list : List (Int)) (n : Int) : Ct pg 175 [.dat (.sl (.int .i64)) list, .dat (.int .i64) n] ⟨[Q_s_l1Put list n], [⟨(.sl (.int .i64)), (.ow .sh), F_s_l1Put list n⟩], []⟩ := by
  refine ct_claim (O := O_s_l1Put) (τ := τ_s_l1Put) (EnvOk.of (by kernel_rfl) (by kernel_rfl)) (GOk.of (.nil : AllOk pg [])) mixed (Enters.of (by kernel_rfl)) (fn := Go.Proofs.Try.f175) (by kernel_rfl) rfl (by kernel_rfl) ?_
  intro hp hw
  have hq : Q_s_l1Put list n := hp _ (List.mem_singleton.2 rfl)
  clear hp
  change claim Lg.std Alg.std τ_s_l1Put (Gam.of []) O_s_l1Put Go.Proofs.Try.f175 [.dat (.sl (.int .i64)) list, .dat (.int .i64) n] ⟨[Q_s_l1Put list n], [⟨(.sl (.int .i64)), (.ow .sh), F_s_l1Put list n⟩], []⟩
  generalize hR0 : F_s_l1Put list n = R0
  generalize Q_s_l1Put list n = Q0
  generalize hL : Lg.std = L
  generalize hA : Alg.std = A
  cbv
  subst hL hA
  try dsimp only [Ty.den]
  simp only [Q_s_l1Put] at hq
  repeat' (first | intro _ | apply And.intro)
  all_goals first | trivial | ((fail_if_success (refine lp_v (V := Unit) (fun _ => ⟨[], []⟩) (fun _ => True) (fun _ => 0) () ?_ ?_ ?_)); subst hR0; (try simp only [Alg.std, F_s_l1Put] at *); all_goals grind) | skip
  refine lp_v (V := (Int) × (Nat) × (List Int) × (Bool)) (fun ((i, N, xs, b) : (Int) × (Nat) × (List Int) × (Bool)) => ⟨[.dat (.sl (.int .i64)) list, .dat (.int .i64) n, .junk, .junk, .junk, .ref (.int .i64) 0 0 [] 0 N, .dat .bool b, .dat (.int .i64) i, .junk, .junk, .junk, .junk, .junk, .junk, .junk, .junk, .junk, .junk, .junk, .junk, .junk, .junk, .junk, .junk, .junk, .junk, .junk, .junk, .junk, .junk, .junk, .junk, .junk, .junk, .junk, .junk, .junk, .junk, .junk, .junk, .junk, .junk, .junk, .junk, .junk, .junk, .junk, .junk, .junk], [some (.row 0 (.int .i64) .sh xs)]⟩) (fun ((i, N, xs, b) : (Int) × (Nat) × (List Int) × (Bool)) => N = xs.length ∧ 0 ≤ i ∧ i ≤ list.length ∧ xs.length ≤ i + 1 ∧ (b = false → xs.length ≤ i) ∧ putI list n = xs ++ putG n b (list.drop i.toNat)) (fun ((i, N, xs, b) : (Int) × (Nat) × (List Int) × (Bool)) => list.length - i.toNat) (0, _, _, _) rfl ?_ ?_
  · subst hR0
    (try simp only [Alg.std, F_s_l1Put, putI] at *)
    all_goals grind
  rintro ⟨i, N, xs, b⟩ hf I hI
  replace hf : N = xs.length ∧ 0 ≤ i ∧ i ≤ list.length ∧ xs.length ≤ i + 1 ∧ (b = false → xs.length ≤ i) ∧ putI list n = xs ++ putG n b (list.drop i.toNat) := hf
  generalize hL : Lg.std = L
  generalize hA : Alg.std = A
  cbv
  subst hL hA
  try dsimp only [Ty.den]
  subst hI
  obtain ⟨h1, h2, h3, h4, h5, h6⟩ := hf
  have h3' : i ≤ (list.length : Int) := h3
  have hsu : (i + 1).toNat = i.toNat + 1 := by omega
  have hs := fun (h : i.toNat < list.length) => putG_step n list i.toNat h
  have he := fun (h : list.length ≤ i.toNat) => putG_end n list i.toNat h
  have hd := putG_done n (list.drop i.toNat)
  have hd2 := putG_done n (list.drop (i.toNat + 1))
  have hc := fun (h : i.toNat < list.length) => drop_cons list 0 i.toNat h
  have hnl := fun (h : list.length ≤ i.toNat) => drop_nil list i.toNat h
  repeat' (first | intro _ | apply And.intro)
  all_goals first | (with_reducible exact True.intro) | ((fail_if_success (refine lp_v (V := Unit) (fun _ => ⟨[], []⟩) (fun _ => True) (fun _ => 0) () ?_ ?_ ?_)); (try simp only [Lg.std, Alg.std, List.drop_zero, List.take_length] at *); (try refine ⟨(_, _, _, _), rfl, ?_, ?_⟩); (all_goals (subst hR0; (try simp only [Lg.std, Alg.std, List.drop_zero, List.take_length, F_s_l1Put] at *); first | done | ((try simp only [List.take_succ_cons, List.take_zero, List.append_assoc, List.cons_append, List.nil_append] at *); grind [putI])))) | skip
def con_s_l1Put : Con := ⟨true, g2 (pD (.sl (.int .i64))) (pD (.int .i64)) fun list n => ⟨[Q_s_l1Put list n], [⟨(.sl (.int .i64)), (.ow .sh), F_s_l1Put list n⟩], []⟩, [], false, 0⟩
theorem ok_s_l1Put : ConOk pg 175 con_s_l1Put := ConOk.g2 (Enters.of (by kernel_rfl)) ct_s_l1Put

def F_i_Draft_take (d : ((List (List (Int))) × (List ((Int) × (List (Int)) × Unit)) × Unit) × (List (Int)) × (List (Int)) × Unit) : Int := takeN d
def F_i_Draft_take_1 (d : ((List (List (Int))) × (List ((Int) × (List (Int)) × Unit)) × Unit) × (List (Int)) × (List (Int)) × Unit) : Bool := !decide ((freeOf d).length = 0)
def B_i_Draft_take_d (d : ((List (List (Int))) × (List ((Int) × (List (Int)) × Unit)) × Unit) × (List (Int)) × (List (Int)) × Unit) : ((List (List (Int))) × (List ((Int) × (List (Int)) × Unit)) × Unit) × (List (Int)) × (List (Int)) × Unit := takeD d
def Q_i_Draft_take (d : ((List (List (Int))) × (List ((Int) × (List (Int)) × Unit)) × Unit) × (List (Int)) × (List (Int)) × Unit) : Prop := (tot tDisk d.1 ≤ 1048576 ∧ d.2.1.length ≤ 1048576 ∧ d.2.2.1.length ≤ 1048576) ∧ rise d.2.2.1 = true
def O_i_Draft_take : Opt := ⟨fun i => false, fun i => [], fun i => (match decide (i = 4) with | true => (.take 0 (.take 1 (.take 2 (.take 3 (.take 5 (.take 6 (.alt 4 (.alt 7 (.alt 8 (.alt 9 (.take 10 (.take 11 (.alt 12 .done .no))) .no) .no) .no) (.alt 7 (.alt 4 (.alt 8 (.alt 9 (.take 10 (.take 11 (.alt 12 .done .no))) .no) .no) (.alt 8 (.alt 4 (.alt 9 (.take 10 (.take 11 (.alt 12 .done .no))) .no) .no) .no)) .no)))))))) | false => .done), fun i => (match decide (i = 4) with | true => some [true, false, false, false, true, false, false, false, false, false, false, false, false, false, false, false, false, false, false, false, false, false, false, false, false, false, false, false, false, false] | false => none), fun i => false, fun i => []⟩
def τ_i_Draft_take : Env := Env.of [(2, (.int .i64)), (3, (.int .i64)), (4, .bool), (43, (.sl (.int .i64))), (56, (.pair (.pair (.sl (.sl (.int .u8))) (.pair (.sl (.pair (.int .i64) (.pair (.sl (.int .u8)) .unit))) .unit)) (.pair (.sl (.int .i64)) (.pair (.sl (.int .i64)) .unit))))] [(135, (.pair (.pair (.sl (.sl (.int .u8))) (.pair (.sl (.pair (.int .i64) (.pair (.sl (.int .u8)) .unit))) .unit)) (.pair (.sl (.int .i64)) (.pair (.sl (.int .i64)) .unit))))] []

theorem ct_i_Draft_take (d : ((List (List (Int))) × (List ((Int) × (List (Int)) × Unit)) × Unit) × (List (Int)) × (List (Int)) × Unit) : Ct pg 135 [.mp (.pair (.pair (.sl (.sl (.int .u8))) (.pair (.sl (.pair (.int .i64) (.pair (.sl (.int .u8)) .unit))) .unit)) (.pair (.sl (.int .i64)) (.pair (.sl (.int .i64)) .unit))) (.pr (.pr (.ow (.ow .sh)) (.pr (.ow (.pr .sh (.pr (.ow .sh) .sh))) .sh)) (.pr (.ow .sh) (.pr (.ow .sh) .sh))) d] ⟨[Q_i_Draft_take d], [⟨(.int .i64), .sh, F_i_Draft_take d⟩, ⟨.bool, .sh, F_i_Draft_take_1 d⟩], [.mp (.pair (.pair (.sl (.sl (.int .u8))) (.pair (.sl (.pair (.int .i64) (.pair (.sl (.int .u8)) .unit))) .unit)) (.pair (.sl (.int .i64)) (.pair (.sl (.int .i64)) .unit))) (.pr (.pr (.ow (.ow .sh)) (.pr (.ow (.pr .sh (.pr (.ow .sh) .sh))) .sh)) (.pr (.ow .sh) (.pr (.ow .sh) .sh))) (B_i_Draft_take_d d)]⟩ := by
  refine ct_claim (O := O_i_Draft_take) (τ := τ_i_Draft_take) (EnvOk.of (by kernel_rfl) (by kernel_rfl)) (GOk.of (.cons ok_i_Draft_free (.cons ok_sl_Sort_int64 .nil) : AllOk pg [(108, con_i_Draft_free), (176, con_sl_Sort_int64)])) mixed (Enters.of (by kernel_rfl)) (fn := Go.Proofs.Try.f135) (by kernel_rfl) rfl (by kernel_rfl) ?_
  intro hp hw
  have hq : Q_i_Draft_take d := hp _ (List.mem_singleton.2 rfl)
  clear hp
  change claim Lg.std Alg.std τ_i_Draft_take (Gam.of [(108, ⟨true, g1 (pP (.pair (.pair (.sl (.sl (.int .u8))) (.pair (.sl (.pair (.int .i64) (.pair (.sl (.int .u8)) .unit))) .unit)) (.pair (.sl (.int .i64)) (.pair (.sl (.int .i64)) .unit)))) fun d => ⟨[Q_i_Draft_free d], [⟨(.sl (.int .i64)), (.ow .sh), F_i_Draft_free d⟩], []⟩, [], false, 0⟩), (176, ⟨false, g1 (pV (.sl (.int .i64)) (.ow .sh)) fun s => ⟨[Q_sl_Sort_int64 s], [], [.mv (.sl (.int .i64)) (.ow .sh) (B_sl_Sort_int64_s s)]⟩, [(.ow .sh)], false, 0⟩)]) O_i_Draft_take Go.Proofs.Try.f135 [.mp (.pair (.pair (.sl (.sl (.int .u8))) (.pair (.sl (.pair (.int .i64) (.pair (.sl (.int .u8)) .unit))) .unit)) (.pair (.sl (.int .i64)) (.pair (.sl (.int .i64)) .unit))) (.pr (.pr (.ow (.ow .sh)) (.pr (.ow (.pr .sh (.pr (.ow .sh) .sh))) .sh)) (.pr (.ow .sh) (.pr (.ow .sh) .sh))) d] ⟨[Q_i_Draft_take d], [⟨(.int .i64), .sh, F_i_Draft_take d⟩, ⟨.bool, .sh, F_i_Draft_take_1 d⟩], [.mp (.pair (.pair (.sl (.sl (.int .u8))) (.pair (.sl (.pair (.int .i64) (.pair (.sl (.int .u8)) .unit))) .unit)) (.pair (.sl (.int .i64)) (.pair (.sl (.int .i64)) .unit))) (.pr (.pr (.ow (.ow .sh)) (.pr (.ow (.pr .sh (.pr (.ow .sh) .sh))) .sh)) (.pr (.ow .sh) (.pr (.ow .sh) .sh))) (B_i_Draft_take_d d)]⟩
  generalize hg_F_i_Draft_free : F_i_Draft_free = g_F_i_Draft_free
  generalize hg_Q_i_Draft_free : Q_i_Draft_free = g_Q_i_Draft_free
  generalize hg_B_sl_Sort_int64_s : B_sl_Sort_int64_s = g_B_sl_Sort_int64_s
  generalize hg_Q_sl_Sort_int64 : Q_sl_Sort_int64 = g_Q_sl_Sort_int64
  generalize hR0 : F_i_Draft_take d = R0
  generalize hR1 : F_i_Draft_take_1 d = R1
  generalize hB_d : B_i_Draft_take_d d = B_d
  generalize Q_i_Draft_take d = Q0
  generalize hL : Lg.std = L
  generalize hA : Alg.std = A
  cbv
  subst hL hA
  try dsimp only [Ty.den]
  obtain ⟨⟨d_0_0, d_0_1, ⟨⟩⟩, d_1, d_2, ⟨⟩⟩ := d
  have hfr := takeN_free ((d_0_0, d_0_1, ()), d_1, d_2, ())
  have hno := takeN_none ((d_0_0, d_0_1, ()), d_1, d_2, ())
  have hle1 := tot_len tPut d_0_1
  have hle0 := tot_len (.sl (.int .u8)) d_0_0
  simp only [Q_i_Draft_take] at hq
  have hsp := fun h => sort_put d_2 (takeN ((d_0_0, d_0_1, ()), d_1, d_2, ())) hq.2 h
  simp only [takeN] at *
  subst hR0 hR1 hB_d hg_F_i_Draft_free hg_Q_i_Draft_free hg_B_sl_Sort_int64_s hg_Q_sl_Sort_int64
  simp only [tot_p, tot_u, tot_int] at hq
  simp only [Lg.std, Alg.std, List.drop_zero, List.take_length, F_i_Draft_free, B_sl_Sort_int64_s, Q_i_Draft_free, Q_sl_Sort_int64, F_i_Draft_take, F_i_Draft_take_1, B_i_Draft_take_d, takeD, takeN] at *
  generalize freeOf ((d_0_0, d_0_1, PUnit.unit), d_1, d_2, PUnit.unit) = fr at *
  try simp only [true_and, and_true, false_implies, implies_true, imp_self]
  try simp only [tot_p, tot_u, tot_int, List.length_nil]
  try simp only [List.take_succ_cons, List.take_zero, List.length_cons, List.length_nil]
  repeat' (first | intro _ | apply And.intro)
  all_goals grind [sortI_len]
def con_i_Draft_take : Con := ⟨true, g1 (pW (.pair (.pair (.sl (.sl (.int .u8))) (.pair (.sl (.pair (.int .i64) (.pair (.sl (.int .u8)) .unit))) .unit)) (.pair (.sl (.int .i64)) (.pair (.sl (.int .i64)) .unit))) (.pr (.pr (.ow (.ow .sh)) (.pr (.ow (.pr .sh (.pr (.ow .sh) .sh))) .sh)) (.pr (.ow .sh) (.pr (.ow .sh) .sh)))) fun d => ⟨[Q_i_Draft_take d], [⟨(.int .i64), .sh, F_i_Draft_take d⟩, ⟨.bool, .sh, F_i_Draft_take_1 d⟩], [.mp (.pair (.pair (.sl (.sl (.int .u8))) (.pair (.sl (.pair (.int .i64) (.pair (.sl (.int .u8)) .unit))) .unit)) (.pair (.sl (.int .i64)) (.pair (.sl (.int .i64)) .unit))) (.pr (.pr (.ow (.ow .sh)) (.pr (.ow (.pr .sh (.pr (.ow .sh) .sh))) .sh)) (.pr (.ow .sh) (.pr (.ow .sh) .sh))) (B_i_Draft_take_d d)]⟩, [(.pr (.pr (.ow (.ow .sh)) (.pr (.ow (.pr .sh (.pr (.ow .sh) .sh))) .sh)) (.pr (.ow .sh) (.pr (.ow .sh) .sh)))], false, 0⟩
theorem ok_i_Draft_take : ConOk pg 135 con_i_Draft_take := ConOk.g1 (Enters.of (by kernel_rfl)) ct_i_Draft_take

def F_s_l16Take (d : ((List (List (Int))) × (List ((Int) × (List (Int)) × Unit)) × Unit) × (List (Int)) × (List (Int)) × Unit) : Int := takeN d
def B_s_l16Take_d (d : ((List (List (Int))) × (List ((Int) × (List (Int)) × Unit)) × Unit) × (List (Int)) × (List (Int)) × Unit) : ((List (List (Int))) × (List ((Int) × (List (Int)) × Unit)) × Unit) × (List (Int)) × (List (Int)) × Unit := takeD d
def Q_s_l16Take (d : ((List (List (Int))) × (List ((Int) × (List (Int)) × Unit)) × Unit) × (List (Int)) × (List (Int)) × Unit) : Prop := (tot tDisk d.1 ≤ 1048576 ∧ d.2.1.length ≤ 1048576 ∧ d.2.2.1.length ≤ 1048576) ∧ rise d.2.2.1 = true
def O_s_l16Take : Opt := ⟨fun i => false, fun i => [], fun i => (match decide (i = 4) with | true => (.take 0 (.take 1 (.take 2 (.take 3 (.take 5 (.take 6 (.alt 4 (.alt 7 (.alt 8 (.take 9 (.take 10 (.alt 11 .done .no))) .no) .no) (.alt 7 (.alt 4 (.alt 8 (.take 9 (.take 10 (.alt 11 .done .no))) .no) .no) .no)))))))) | false => .done), fun i => (match decide (i = 4) with | true => some [false, false, false, true, false, false, false, false, false, false, false, false, false, false, false, false, false, false, false, false, false, false, false] | false => none), fun i => false, fun i => []⟩
def τ_s_l16Take : Env := Env.of [(2, (.int .i64)), (3, (.int .i64)), (4, .bool), (43, (.sl (.int .i64))), (56, (.pair (.pair (.sl (.sl (.int .u8))) (.pair (.sl (.pair (.int .i64) (.pair (.sl (.int .u8)) .unit))) .unit)) (.pair (.sl (.int .i64)) (.pair (.sl (.int .i64)) .unit))))] [(135, (.pair (.pair (.sl (.sl (.int .u8))) (.pair (.sl (.pair (.int .i64) (.pair (.sl (.int .u8)) .unit))) .unit)) (.pair (.sl (.int .i64)) (.pair (.sl (.int .i64)) .unit))))] []

theorem ct_s_l16Take (d : ((List (List (Int))) × (List ((Int) × (List (Int)) × Unit)) × Unit) × (List (Int)) × (List (Int)) × Unit) : Ct pg 134 [.mp (.pair (.pair (.sl (.sl (.int .u8))) (.pair (.sl (.pair (.int .i64) (.pair (.sl (.int .u8)) .unit))) .unit)) (.pair (.sl (.int .i64)) (.pair (.sl (.int .i64)) .unit))) (.pr (.pr (.ow (.ow .sh)) (.pr (.ow (.pr .sh (.pr (.ow .sh) .sh))) .sh)) (.pr (.ow .sh) (.pr (.ow .sh) .sh))) d] ⟨[Q_s_l16Take d], [⟨(.int .i64), .sh, F_s_l16Take d⟩], [.mp (.pair (.pair (.sl (.sl (.int .u8))) (.pair (.sl (.pair (.int .i64) (.pair (.sl (.int .u8)) .unit))) .unit)) (.pair (.sl (.int .i64)) (.pair (.sl (.int .i64)) .unit))) (.pr (.pr (.ow (.ow .sh)) (.pr (.ow (.pr .sh (.pr (.ow .sh) .sh))) .sh)) (.pr (.ow .sh) (.pr (.ow .sh) .sh))) (B_s_l16Take_d d)]⟩ := by
  refine ct_claim (O := O_s_l16Take) (τ := τ_s_l16Take) (EnvOk.of (by kernel_rfl) (by kernel_rfl)) (GOk.of (.cons ok_s_l16Free (.cons ok_s_l1Put .nil) : AllOk pg [(106, con_s_l16Free), (175, con_s_l1Put)])) mixed (Enters.of (by kernel_rfl)) (fn := Go.Proofs.Try.f134) (by kernel_rfl) rfl (by kernel_rfl) ?_
  intro hp hw
  have hq : Q_s_l16Take d := hp _ (List.mem_singleton.2 rfl)
  clear hp
  change claim Lg.std Alg.std τ_s_l16Take (Gam.of [(106, ⟨true, g1 (pP (.pair (.pair (.sl (.sl (.int .u8))) (.pair (.sl (.pair (.int .i64) (.pair (.sl (.int .u8)) .unit))) .unit)) (.pair (.sl (.int .i64)) (.pair (.sl (.int .i64)) .unit)))) fun d => ⟨[Q_s_l16Free d], [⟨(.sl (.int .i64)), (.ow .sh), F_s_l16Free d⟩], []⟩, [], false, 0⟩), (175, ⟨true, g2 (pD (.sl (.int .i64))) (pD (.int .i64)) fun list n => ⟨[Q_s_l1Put list n], [⟨(.sl (.int .i64)), (.ow .sh), F_s_l1Put list n⟩], []⟩, [], false, 0⟩)]) O_s_l16Take Go.Proofs.Try.f134 [.mp (.pair (.pair (.sl (.sl (.int .u8))) (.pair (.sl (.pair (.int .i64) (.pair (.sl (.int .u8)) .unit))) .unit)) (.pair (.sl (.int .i64)) (.pair (.sl (.int .i64)) .unit))) (.pr (.pr (.ow (.ow .sh)) (.pr (.ow (.pr .sh (.pr (.ow .sh) .sh))) .sh)) (.pr (.ow .sh) (.pr (.ow .sh) .sh))) d] ⟨[Q_s_l16Take d], [⟨(.int .i64), .sh, F_s_l16Take d⟩], [.mp (.pair (.pair (.sl (.sl (.int .u8))) (.pair (.sl (.pair (.int .i64) (.pair (.sl (.int .u8)) .unit))) .unit)) (.pair (.sl (.int .i64)) (.pair (.sl (.int .i64)) .unit))) (.pr (.pr (.ow (.ow .sh)) (.pr (.ow (.pr .sh (.pr (.ow .sh) .sh))) .sh)) (.pr (.ow .sh) (.pr (.ow .sh) .sh))) (B_s_l16Take_d d)]⟩
  generalize hg_F_s_l16Free : F_s_l16Free = g_F_s_l16Free
  generalize hg_Q_s_l16Free : Q_s_l16Free = g_Q_s_l16Free
  generalize hg_F_s_l1Put : F_s_l1Put = g_F_s_l1Put
  generalize hg_Q_s_l1Put : Q_s_l1Put = g_Q_s_l1Put
  generalize hR0 : F_s_l16Take d = R0
  generalize hB_d : B_s_l16Take_d d = B_d
  generalize Q_s_l16Take d = Q0
  generalize hL : Lg.std = L
  generalize hA : Alg.std = A
  cbv
  subst hL hA
  try dsimp only [Ty.den]
  obtain ⟨⟨d_0_0, d_0_1, ⟨⟩⟩, d_1, d_2, ⟨⟩⟩ := d
  have hfr := takeN_free ((d_0_0, d_0_1, ()), d_1, d_2, ())
  have hno := takeN_none ((d_0_0, d_0_1, ()), d_1, d_2, ())
  have hle1 := tot_len tPut d_0_1
  have hle0 := tot_len (.sl (.int .u8)) d_0_0
  simp only [Q_s_l16Take] at hq
  simp only [takeN] at *
  subst hR0 hB_d hg_F_s_l16Free hg_Q_s_l16Free hg_F_s_l1Put hg_Q_s_l1Put
  simp only [tot_p, tot_u, tot_int] at hq
  simp only [Lg.std, Alg.std, List.drop_zero, List.take_length, F_s_l16Free, F_s_l1Put, Q_s_l16Free, Q_s_l1Put, F_s_l16Take, B_s_l16Take_d, takeD, takeN] at *
  generalize freeOf ((d_0_0, d_0_1, PUnit.unit), d_1, d_2, PUnit.unit) = fr at *
  try simp only [true_and, and_true, false_implies, implies_true, imp_self]
  try simp only [tot_p, tot_u, tot_int, List.length_nil]
  repeat' (first | intro _ | apply And.intro)
  all_goals grind
def con_s_l16Take : Con := ⟨true, g1 (pW (.pair (.pair (.sl (.sl (.int .u8))) (.pair (.sl (.pair (.int .i64) (.pair (.sl (.int .u8)) .unit))) .unit)) (.pair (.sl (.int .i64)) (.pair (.sl (.int .i64)) .unit))) (.pr (.pr (.ow (.ow .sh)) (.pr (.ow (.pr .sh (.pr (.ow .sh) .sh))) .sh)) (.pr (.ow .sh) (.pr (.ow .sh) .sh)))) fun d => ⟨[Q_s_l16Take d], [⟨(.int .i64), .sh, F_s_l16Take d⟩], [.mp (.pair (.pair (.sl (.sl (.int .u8))) (.pair (.sl (.pair (.int .i64) (.pair (.sl (.int .u8)) .unit))) .unit)) (.pair (.sl (.int .i64)) (.pair (.sl (.int .i64)) .unit))) (.pr (.pr (.ow (.ow .sh)) (.pr (.ow (.pr .sh (.pr (.ow .sh) .sh))) .sh)) (.pr (.ow .sh) (.pr (.ow .sh) .sh))) (B_s_l16Take_d d)]⟩, [(.pr (.pr (.ow (.ow .sh)) (.pr (.ow (.pr .sh (.pr (.ow .sh) .sh))) .sh)) (.pr (.ow .sh) (.pr (.ow .sh) .sh)))], false, 0⟩
theorem ok_s_l16Take : ConOk pg 134 con_s_l16Take := ConOk.g1 (Enters.of (by kernel_rfl)) ct_s_l16Take

def F_i_Draft_laid (d : ((List (List (Int))) × (List ((Int) × (List (Int)) × Unit)) × Unit) × (List (Int)) × (List (Int)) × Unit) (page : Int) (ok : Bool) : (Int) × (((List (List (Int))) × (List ((Int) × (List (Int)) × Unit)) × Unit) × (List (Int)) × (List (Int)) × Unit) × (Int) × Unit := if ok = true then (0, d, page, ()) else (7, zDraft, 0, ())
def Q_i_Draft_laid (d : ((List (List (Int))) × (List ((Int) × (List (Int)) × Unit)) × Unit) × (List (Int)) × (List (Int)) × Unit) (page : Int) (ok : Bool) : Prop := True
def O_i_Draft_laid : Opt := ⟨fun i => false, fun i => [], fun i => .done, fun i => none, fun i => false, fun i => []⟩
def τ_i_Draft_laid : Env := Env.of [(2, (.int .i64)), (4, .bool), (56, (.pair (.pair (.sl (.sl (.int .u8))) (.pair (.sl (.pair (.int .i64) (.pair (.sl (.int .u8)) .unit))) .unit)) (.pair (.sl (.int .i64)) (.pair (.sl (.int .i64)) .unit)))), (97, (.pair (.int .i64) (.pair (.pair (.pair (.sl (.sl (.int .u8))) (.pair (.sl (.pair (.int .i64) (.pair (.sl (.int .u8)) .unit))) .unit)) (.pair (.sl (.int .i64)) (.pair (.sl (.int .i64)) .unit))) (.pair (.int .i64) .unit))))] [(135, (.pair (.pair (.sl (.sl (.int .u8))) (.pair (.sl (.pair (.int .i64) (.pair (.sl (.int .u8)) .unit))) .unit)) (.pair (.sl (.int .i64)) (.pair (.sl (.int .i64)) .unit))))] []

theorem ct_i_Draft_laid (d : ((List (List (Int))) × (List ((Int) × (List (Int)) × Unit)) × Unit) × (List (Int)) × (List (Int)) × Unit) (page : Int) (ok : Bool) : Ct pg 136 [.mp (.pair (.pair (.sl (.sl (.int .u8))) (.pair (.sl (.pair (.int .i64) (.pair (.sl (.int .u8)) .unit))) .unit)) (.pair (.sl (.int .i64)) (.pair (.sl (.int .i64)) .unit))) (.pr (.pr (.ow (.ow .sh)) (.pr (.ow (.pr .sh (.pr (.ow .sh) .sh))) .sh)) (.pr (.ow .sh) (.pr (.ow .sh) .sh))) d, .dat (.int .i64) page, .dat .bool ok] ⟨[Q_i_Draft_laid d page ok], [⟨(.pair (.int .i64) (.pair (.pair (.pair (.sl (.sl (.int .u8))) (.pair (.sl (.pair (.int .i64) (.pair (.sl (.int .u8)) .unit))) .unit)) (.pair (.sl (.int .i64)) (.pair (.sl (.int .i64)) .unit))) (.pair (.int .i64) .unit))), (.pr .sh (.pr (.pr (.pr (.ow (.ow .sh)) (.pr (.ow (.pr .sh (.pr (.ow .sh) .sh))) .sh)) (.pr (.ow .sh) (.pr (.ow .sh) .sh))) (.pr .sh .sh))), F_i_Draft_laid d page ok⟩], [.junk]⟩ := by
  refine ct_claim (O := O_i_Draft_laid) (τ := τ_i_Draft_laid) (EnvOk.of (by kernel_rfl) (by kernel_rfl)) (GOk.of (.nil : AllOk pg [])) mixed (Enters.of (by kernel_rfl)) (fn := Go.Proofs.Try.f136) (by kernel_rfl) rfl (by kernel_rfl) ?_
  intro hp hw
  have hq : Q_i_Draft_laid d page ok := hp _ (List.mem_singleton.2 rfl)
  clear hp
  change claim Lg.std Alg.std τ_i_Draft_laid (Gam.of []) O_i_Draft_laid Go.Proofs.Try.f136 [.mp (.pair (.pair (.sl (.sl (.int .u8))) (.pair (.sl (.pair (.int .i64) (.pair (.sl (.int .u8)) .unit))) .unit)) (.pair (.sl (.int .i64)) (.pair (.sl (.int .i64)) .unit))) (.pr (.pr (.ow (.ow .sh)) (.pr (.ow (.pr .sh (.pr (.ow .sh) .sh))) .sh)) (.pr (.ow .sh) (.pr (.ow .sh) .sh))) d, .dat (.int .i64) page, .dat .bool ok] ⟨[Q_i_Draft_laid d page ok], [⟨(.pair (.int .i64) (.pair (.pair (.pair (.sl (.sl (.int .u8))) (.pair (.sl (.pair (.int .i64) (.pair (.sl (.int .u8)) .unit))) .unit)) (.pair (.sl (.int .i64)) (.pair (.sl (.int .i64)) .unit))) (.pair (.int .i64) .unit))), (.pr .sh (.pr (.pr (.pr (.ow (.ow .sh)) (.pr (.ow (.pr .sh (.pr (.ow .sh) .sh))) .sh)) (.pr (.ow .sh) (.pr (.ow .sh) .sh))) (.pr .sh .sh))), F_i_Draft_laid d page ok⟩], [.junk]⟩
  generalize hR0 : F_i_Draft_laid d page ok = R0
  generalize Q_i_Draft_laid d page ok = Q0
  generalize hL : Lg.std = L
  generalize hA : Alg.std = A
  cbv
  subst hL hA
  try dsimp only [Ty.den]
  obtain ⟨⟨d_0_0, d_0_1, ⟨⟩⟩, d_1, d_2, ⟨⟩⟩ := d
  subst hR0
  simp only [Q_i_Draft_laid] at hq
  simp only [Lg.std, Alg.std, List.drop_zero, List.take_length, F_i_Draft_laid]
  all_goals grind
def con_i_Draft_laid : Con := ⟨true, g3 (pW (.pair (.pair (.sl (.sl (.int .u8))) (.pair (.sl (.pair (.int .i64) (.pair (.sl (.int .u8)) .unit))) .unit)) (.pair (.sl (.int .i64)) (.pair (.sl (.int .i64)) .unit))) (.pr (.pr (.ow (.ow .sh)) (.pr (.ow (.pr .sh (.pr (.ow .sh) .sh))) .sh)) (.pr (.ow .sh) (.pr (.ow .sh) .sh)))) (pD (.int .i64)) (pD .bool) fun d page ok => ⟨[Q_i_Draft_laid d page ok], [⟨(.pair (.int .i64) (.pair (.pair (.pair (.sl (.sl (.int .u8))) (.pair (.sl (.pair (.int .i64) (.pair (.sl (.int .u8)) .unit))) .unit)) (.pair (.sl (.int .i64)) (.pair (.sl (.int .i64)) .unit))) (.pair (.int .i64) .unit))), (.pr .sh (.pr (.pr (.pr (.ow (.ow .sh)) (.pr (.ow (.pr .sh (.pr (.ow .sh) .sh))) .sh)) (.pr (.ow .sh) (.pr (.ow .sh) .sh))) (.pr .sh .sh))), F_i_Draft_laid d page ok⟩], [.junk]⟩, [(.pr (.pr (.ow (.ow .sh)) (.pr (.ow (.pr .sh (.pr (.ow .sh) .sh))) .sh)) (.pr (.ow .sh) (.pr (.ow .sh) .sh)))], false, 0⟩
theorem ok_i_Draft_laid : ConOk pg 136 con_i_Draft_laid := ConOk.g3 (Enters.of (by kernel_rfl)) ct_i_Draft_laid

def F_s_TakePage (d : ((List (List (Int))) × (List ((Int) × (List (Int)) × Unit)) × Unit) × (List (Int)) × (List (Int)) × Unit) : (Int) × (((List (List (Int))) × (List ((Int) × (List (Int)) × Unit)) × Unit) × (List (Int)) × (List (Int)) × Unit) × (Int) × Unit := takePg d
def Q_s_TakePage (d : ((List (List (Int))) × (List ((Int) × (List (Int)) × Unit)) × Unit) × (List (Int)) × (List (Int)) × Unit) : Prop := tot tDisk d.1 ≤ 1048576 ∧ d.2.1.length ≤ 1048576 ∧ d.2.2.1.length ≤ 1048576
def O_s_TakePage : Opt := ⟨fun i => false, fun i => [], fun i => .done, fun i => none, fun i => false, fun i => []⟩
def τ_s_TakePage : Env := Env.of [(2, (.int .i64)), (4, .bool), (56, (.pair (.pair (.sl (.sl (.int .u8))) (.pair (.sl (.pair (.int .i64) (.pair (.sl (.int .u8)) .unit))) .unit)) (.pair (.sl (.int .i64)) (.pair (.sl (.int .i64)) .unit)))), (97, (.pair (.int .i64) (.pair (.pair (.pair (.sl (.sl (.int .u8))) (.pair (.sl (.pair (.int .i64) (.pair (.sl (.int .u8)) .unit))) .unit)) (.pair (.sl (.int .i64)) (.pair (.sl (.int .i64)) .unit))) (.pair (.int .i64) .unit))))] [(135, (.pair (.pair (.sl (.sl (.int .u8))) (.pair (.sl (.pair (.int .i64) (.pair (.sl (.int .u8)) .unit))) .unit)) (.pair (.sl (.int .i64)) (.pair (.sl (.int .i64)) .unit))))] []

theorem ct_s_TakePage (d : ((List (List (Int))) × (List ((Int) × (List (Int)) × Unit)) × Unit) × (List (Int)) × (List (Int)) × Unit) : Ct pg 68 [.dat (.pair (.pair (.sl (.sl (.int .u8))) (.pair (.sl (.pair (.int .i64) (.pair (.sl (.int .u8)) .unit))) .unit)) (.pair (.sl (.int .i64)) (.pair (.sl (.int .i64)) .unit))) d] ⟨[Q_s_TakePage d], [⟨(.pair (.int .i64) (.pair (.pair (.pair (.sl (.sl (.int .u8))) (.pair (.sl (.pair (.int .i64) (.pair (.sl (.int .u8)) .unit))) .unit)) (.pair (.sl (.int .i64)) (.pair (.sl (.int .i64)) .unit))) (.pair (.int .i64) .unit))), (.pr .sh (.pr (.pr (.pr (.ow (.ow .sh)) (.pr (.ow (.pr .sh (.pr (.ow .sh) .sh))) .sh)) (.pr (.ow .sh) (.pr (.ow .sh) .sh))) (.pr .sh .sh))), F_s_TakePage d⟩], []⟩ := by
  refine ct_claim (O := O_s_TakePage) (τ := τ_s_TakePage) (EnvOk.of (by kernel_rfl) (by kernel_rfl)) (GOk.of (.cons ok_s_DraftFault (.cons ok_s_l16Copy (.cons ok_s_l16Take .nil)) : AllOk pg [(105, con_s_DraftFault), (110, con_s_l16Copy), (134, con_s_l16Take)])) mixed (Enters.of (by kernel_rfl)) (fn := Go.Proofs.Try.f68) (by kernel_rfl) rfl (by kernel_rfl) ?_
  intro hp hw
  have hq : Q_s_TakePage d := hp _ (List.mem_singleton.2 rfl)
  clear hp
  change claim Lg.std Alg.std τ_s_TakePage (Gam.of [(105, ⟨true, g1 (pD (.pair (.pair (.sl (.sl (.int .u8))) (.pair (.sl (.pair (.int .i64) (.pair (.sl (.int .u8)) .unit))) .unit)) (.pair (.sl (.int .i64)) (.pair (.sl (.int .i64)) .unit)))) fun d => ⟨[Q_s_DraftFault d], [⟨(.int .i64), .sh, F_s_DraftFault d⟩], []⟩, [], false, 0⟩), (110, ⟨true, g1 (pP (.pair (.pair (.sl (.sl (.int .u8))) (.pair (.sl (.pair (.int .i64) (.pair (.sl (.int .u8)) .unit))) .unit)) (.pair (.sl (.int .i64)) (.pair (.sl (.int .i64)) .unit)))) fun d => ⟨[Q_s_l16Copy d], [⟨(.pair (.pair (.sl (.sl (.int .u8))) (.pair (.sl (.pair (.int .i64) (.pair (.sl (.int .u8)) .unit))) .unit)) (.pair (.sl (.int .i64)) (.pair (.sl (.int .i64)) .unit))), (.pr (.pr (.ow (.ow .sh)) (.pr (.ow (.pr .sh (.pr (.ow .sh) .sh))) .sh)) (.pr (.ow .sh) (.pr (.ow .sh) .sh))), F_s_l16Copy d⟩], []⟩, [], false, 0⟩), (134, ⟨true, g1 (pW (.pair (.pair (.sl (.sl (.int .u8))) (.pair (.sl (.pair (.int .i64) (.pair (.sl (.int .u8)) .unit))) .unit)) (.pair (.sl (.int .i64)) (.pair (.sl (.int .i64)) .unit))) (.pr (.pr (.ow (.ow .sh)) (.pr (.ow (.pr .sh (.pr (.ow .sh) .sh))) .sh)) (.pr (.ow .sh) (.pr (.ow .sh) .sh)))) fun d => ⟨[Q_s_l16Take d], [⟨(.int .i64), .sh, F_s_l16Take d⟩], [.mp (.pair (.pair (.sl (.sl (.int .u8))) (.pair (.sl (.pair (.int .i64) (.pair (.sl (.int .u8)) .unit))) .unit)) (.pair (.sl (.int .i64)) (.pair (.sl (.int .i64)) .unit))) (.pr (.pr (.ow (.ow .sh)) (.pr (.ow (.pr .sh (.pr (.ow .sh) .sh))) .sh)) (.pr (.ow .sh) (.pr (.ow .sh) .sh))) (B_s_l16Take_d d)]⟩, [(.pr (.pr (.ow (.ow .sh)) (.pr (.ow (.pr .sh (.pr (.ow .sh) .sh))) .sh)) (.pr (.ow .sh) (.pr (.ow .sh) .sh)))], false, 0⟩)]) O_s_TakePage Go.Proofs.Try.f68 [.dat (.pair (.pair (.sl (.sl (.int .u8))) (.pair (.sl (.pair (.int .i64) (.pair (.sl (.int .u8)) .unit))) .unit)) (.pair (.sl (.int .i64)) (.pair (.sl (.int .i64)) .unit))) d] ⟨[Q_s_TakePage d], [⟨(.pair (.int .i64) (.pair (.pair (.pair (.sl (.sl (.int .u8))) (.pair (.sl (.pair (.int .i64) (.pair (.sl (.int .u8)) .unit))) .unit)) (.pair (.sl (.int .i64)) (.pair (.sl (.int .i64)) .unit))) (.pair (.int .i64) .unit))), (.pr .sh (.pr (.pr (.pr (.ow (.ow .sh)) (.pr (.ow (.pr .sh (.pr (.ow .sh) .sh))) .sh)) (.pr (.ow .sh) (.pr (.ow .sh) .sh))) (.pr .sh .sh))), F_s_TakePage d⟩], []⟩
  generalize hg_F_s_DraftFault : F_s_DraftFault = g_F_s_DraftFault
  generalize hg_Q_s_DraftFault : Q_s_DraftFault = g_Q_s_DraftFault
  generalize hg_F_s_l16Copy : F_s_l16Copy = g_F_s_l16Copy
  generalize hg_Q_s_l16Copy : Q_s_l16Copy = g_Q_s_l16Copy
  generalize hg_F_s_l16Take : F_s_l16Take = g_F_s_l16Take
  generalize hg_B_s_l16Take_d : B_s_l16Take_d = g_B_s_l16Take_d
  generalize hg_Q_s_l16Take : Q_s_l16Take = g_Q_s_l16Take
  generalize hR0 : F_s_TakePage d = R0
  generalize Q_s_TakePage d = Q0
  generalize hL : Lg.std = L
  generalize hA : Alg.std = A
  cbv
  subst hL hA
  try dsimp only [Ty.den]
  obtain ⟨⟨d_0_0, d_0_1, ⟨⟩⟩, d_1, d_2, ⟨⟩⟩ := d
  have hdr := draftFault_rise ((d_0_0, d_0_1, ()), d_1, d_2, ())
  have hfr := takeN_free ((d_0_0, d_0_1, ()), d_1, d_2, ())
  have hno := takeN_none ((d_0_0, d_0_1, ()), d_1, d_2, ())
  have hle1 := tot_len tPut d_0_1
  have hle0 := tot_len (.sl (.int .u8)) d_0_0
  subst hR0 hg_F_s_DraftFault hg_Q_s_DraftFault hg_F_s_l16Copy hg_Q_s_l16Copy hg_F_s_l16Take hg_B_s_l16Take_d hg_Q_s_l16Take
  simp only [Q_s_TakePage] at hq
  simp only [tot_p, tot_u, tot_int] at hq
  simp only [Lg.std, Alg.std, List.drop_zero, List.take_length, F_s_DraftFault, F_s_l16Copy, F_s_l16Take, B_s_l16Take_d, Q_s_DraftFault, Q_s_l16Copy, Q_s_l16Take, F_s_TakePage, takePg] at *
  try simp only [true_and, and_true, false_implies, implies_true, imp_self]
  try simp only [tot_p, tot_u, tot_int, List.length_nil]
  repeat' (first | intro _ | apply And.intro)
  all_goals grind
def con_s_TakePage : Con := ⟨true, g1 (pD (.pair (.pair (.sl (.sl (.int .u8))) (.pair (.sl (.pair (.int .i64) (.pair (.sl (.int .u8)) .unit))) .unit)) (.pair (.sl (.int .i64)) (.pair (.sl (.int .i64)) .unit)))) fun d => ⟨[Q_s_TakePage d], [⟨(.pair (.int .i64) (.pair (.pair (.pair (.sl (.sl (.int .u8))) (.pair (.sl (.pair (.int .i64) (.pair (.sl (.int .u8)) .unit))) .unit)) (.pair (.sl (.int .i64)) (.pair (.sl (.int .i64)) .unit))) (.pair (.int .i64) .unit))), (.pr .sh (.pr (.pr (.pr (.ow (.ow .sh)) (.pr (.ow (.pr .sh (.pr (.ow .sh) .sh))) .sh)) (.pr (.ow .sh) (.pr (.ow .sh) .sh))) (.pr .sh .sh))), F_s_TakePage d⟩], []⟩, [], false, 0⟩
theorem ok_s_TakePage : ConOk pg 68 con_s_TakePage := ConOk.g1 (Enters.of (by kernel_rfl)) ct_s_TakePage

def F_i_TakePage (d : ((List (List (Int))) × (List ((Int) × (List (Int)) × Unit)) × Unit) × (List (Int)) × (List (Int)) × Unit) : (Int) × (((List (List (Int))) × (List ((Int) × (List (Int)) × Unit)) × Unit) × (List (Int)) × (List (Int)) × Unit) × (Int) × Unit := takePg d
def Q_i_TakePage (d : ((List (List (Int))) × (List ((Int) × (List (Int)) × Unit)) × Unit) × (List (Int)) × (List (Int)) × Unit) : Prop := tot tDisk d.1 ≤ 1048576 ∧ d.2.1.length ≤ 1048576 ∧ d.2.2.1.length ≤ 1048576
def O_i_TakePage : Opt := ⟨fun i => false, fun i => [], fun i => .done, fun i => none, fun i => false, fun i => []⟩
def τ_i_TakePage : Env := Env.of [(2, (.int .i64)), (4, .bool), (56, (.pair (.pair (.sl (.sl (.int .u8))) (.pair (.sl (.pair (.int .i64) (.pair (.sl (.int .u8)) .unit))) .unit)) (.pair (.sl (.int .i64)) (.pair (.sl (.int .i64)) .unit)))), (97, (.pair (.int .i64) (.pair (.pair (.pair (.sl (.sl (.int .u8))) (.pair (.sl (.pair (.int .i64) (.pair (.sl (.int .u8)) .unit))) .unit)) (.pair (.sl (.int .i64)) (.pair (.sl (.int .i64)) .unit))) (.pair (.int .i64) .unit))))] [(135, (.pair (.pair (.sl (.sl (.int .u8))) (.pair (.sl (.pair (.int .i64) (.pair (.sl (.int .u8)) .unit))) .unit)) (.pair (.sl (.int .i64)) (.pair (.sl (.int .i64)) .unit))))] []

theorem ct_i_TakePage (d : ((List (List (Int))) × (List ((Int) × (List (Int)) × Unit)) × Unit) × (List (Int)) × (List (Int)) × Unit) : Ct pg 69 [.dat (.pair (.pair (.sl (.sl (.int .u8))) (.pair (.sl (.pair (.int .i64) (.pair (.sl (.int .u8)) .unit))) .unit)) (.pair (.sl (.int .i64)) (.pair (.sl (.int .i64)) .unit))) d] ⟨[Q_i_TakePage d], [⟨(.pair (.int .i64) (.pair (.pair (.pair (.sl (.sl (.int .u8))) (.pair (.sl (.pair (.int .i64) (.pair (.sl (.int .u8)) .unit))) .unit)) (.pair (.sl (.int .i64)) (.pair (.sl (.int .i64)) .unit))) (.pair (.int .i64) .unit))), (.pr .sh (.pr (.pr (.pr (.ow (.ow .sh)) (.pr (.ow (.pr .sh (.pr (.ow .sh) .sh))) .sh)) (.pr (.ow .sh) (.pr (.ow .sh) .sh))) (.pr .sh .sh))), F_i_TakePage d⟩], []⟩ := by
  refine ct_claim (O := O_i_TakePage) (τ := τ_i_TakePage) (EnvOk.of (by kernel_rfl) (by kernel_rfl)) (GOk.of (.cons ok_i_DraftFault (.cons ok_i_ownDraft (.cons ok_i_Draft_take (.cons ok_i_Draft_laid .nil))) : AllOk pg [(107, con_i_DraftFault), (111, con_i_ownDraft), (135, con_i_Draft_take), (136, con_i_Draft_laid)])) mixed (Enters.of (by kernel_rfl)) (fn := Go.Proofs.Try.f69) (by kernel_rfl) rfl (by kernel_rfl) ?_
  intro hp hw
  have hq : Q_i_TakePage d := hp _ (List.mem_singleton.2 rfl)
  clear hp
  change claim Lg.std Alg.std τ_i_TakePage (Gam.of [(107, ⟨true, g1 (pD (.pair (.pair (.sl (.sl (.int .u8))) (.pair (.sl (.pair (.int .i64) (.pair (.sl (.int .u8)) .unit))) .unit)) (.pair (.sl (.int .i64)) (.pair (.sl (.int .i64)) .unit)))) fun d => ⟨[Q_i_DraftFault d], [⟨(.int .i64), .sh, F_i_DraftFault d⟩], []⟩, [], false, 0⟩), (111, ⟨true, g1 (pD (.pair (.pair (.sl (.sl (.int .u8))) (.pair (.sl (.pair (.int .i64) (.pair (.sl (.int .u8)) .unit))) .unit)) (.pair (.sl (.int .i64)) (.pair (.sl (.int .i64)) .unit)))) fun d => ⟨[Q_i_ownDraft d], [⟨(.pair (.pair (.sl (.sl (.int .u8))) (.pair (.sl (.pair (.int .i64) (.pair (.sl (.int .u8)) .unit))) .unit)) (.pair (.sl (.int .i64)) (.pair (.sl (.int .i64)) .unit))), (.np (.pr (.pr (.ow (.ow .sh)) (.pr (.ow (.pr .sh (.pr (.ow .sh) .sh))) .sh)) (.pr (.ow .sh) (.pr (.ow .sh) .sh)))), F_i_ownDraft d⟩], []⟩, [], false, 0⟩), (135, ⟨true, g1 (pW (.pair (.pair (.sl (.sl (.int .u8))) (.pair (.sl (.pair (.int .i64) (.pair (.sl (.int .u8)) .unit))) .unit)) (.pair (.sl (.int .i64)) (.pair (.sl (.int .i64)) .unit))) (.pr (.pr (.ow (.ow .sh)) (.pr (.ow (.pr .sh (.pr (.ow .sh) .sh))) .sh)) (.pr (.ow .sh) (.pr (.ow .sh) .sh)))) fun d => ⟨[Q_i_Draft_take d], [⟨(.int .i64), .sh, F_i_Draft_take d⟩, ⟨.bool, .sh, F_i_Draft_take_1 d⟩], [.mp (.pair (.pair (.sl (.sl (.int .u8))) (.pair (.sl (.pair (.int .i64) (.pair (.sl (.int .u8)) .unit))) .unit)) (.pair (.sl (.int .i64)) (.pair (.sl (.int .i64)) .unit))) (.pr (.pr (.ow (.ow .sh)) (.pr (.ow (.pr .sh (.pr (.ow .sh) .sh))) .sh)) (.pr (.ow .sh) (.pr (.ow .sh) .sh))) (B_i_Draft_take_d d)]⟩, [(.pr (.pr (.ow (.ow .sh)) (.pr (.ow (.pr .sh (.pr (.ow .sh) .sh))) .sh)) (.pr (.ow .sh) (.pr (.ow .sh) .sh)))], false, 0⟩), (136, ⟨true, g3 (pW (.pair (.pair (.sl (.sl (.int .u8))) (.pair (.sl (.pair (.int .i64) (.pair (.sl (.int .u8)) .unit))) .unit)) (.pair (.sl (.int .i64)) (.pair (.sl (.int .i64)) .unit))) (.pr (.pr (.ow (.ow .sh)) (.pr (.ow (.pr .sh (.pr (.ow .sh) .sh))) .sh)) (.pr (.ow .sh) (.pr (.ow .sh) .sh)))) (pD (.int .i64)) (pD .bool) fun d page ok => ⟨[Q_i_Draft_laid d page ok], [⟨(.pair (.int .i64) (.pair (.pair (.pair (.sl (.sl (.int .u8))) (.pair (.sl (.pair (.int .i64) (.pair (.sl (.int .u8)) .unit))) .unit)) (.pair (.sl (.int .i64)) (.pair (.sl (.int .i64)) .unit))) (.pair (.int .i64) .unit))), (.pr .sh (.pr (.pr (.pr (.ow (.ow .sh)) (.pr (.ow (.pr .sh (.pr (.ow .sh) .sh))) .sh)) (.pr (.ow .sh) (.pr (.ow .sh) .sh))) (.pr .sh .sh))), F_i_Draft_laid d page ok⟩], [.junk]⟩, [(.pr (.pr (.ow (.ow .sh)) (.pr (.ow (.pr .sh (.pr (.ow .sh) .sh))) .sh)) (.pr (.ow .sh) (.pr (.ow .sh) .sh)))], false, 0⟩)]) O_i_TakePage Go.Proofs.Try.f69 [.dat (.pair (.pair (.sl (.sl (.int .u8))) (.pair (.sl (.pair (.int .i64) (.pair (.sl (.int .u8)) .unit))) .unit)) (.pair (.sl (.int .i64)) (.pair (.sl (.int .i64)) .unit))) d] ⟨[Q_i_TakePage d], [⟨(.pair (.int .i64) (.pair (.pair (.pair (.sl (.sl (.int .u8))) (.pair (.sl (.pair (.int .i64) (.pair (.sl (.int .u8)) .unit))) .unit)) (.pair (.sl (.int .i64)) (.pair (.sl (.int .i64)) .unit))) (.pair (.int .i64) .unit))), (.pr .sh (.pr (.pr (.pr (.ow (.ow .sh)) (.pr (.ow (.pr .sh (.pr (.ow .sh) .sh))) .sh)) (.pr (.ow .sh) (.pr (.ow .sh) .sh))) (.pr .sh .sh))), F_i_TakePage d⟩], []⟩
  generalize hg_F_i_DraftFault : F_i_DraftFault = g_F_i_DraftFault
  generalize hg_Q_i_DraftFault : Q_i_DraftFault = g_Q_i_DraftFault
  generalize hg_F_i_ownDraft : F_i_ownDraft = g_F_i_ownDraft
  generalize hg_Q_i_ownDraft : Q_i_ownDraft = g_Q_i_ownDraft
  generalize hg_F_i_Draft_take : F_i_Draft_take = g_F_i_Draft_take
  generalize hg_F_i_Draft_take_1 : F_i_Draft_take_1 = g_F_i_Draft_take_1
  generalize hg_B_i_Draft_take_d : B_i_Draft_take_d = g_B_i_Draft_take_d
  generalize hg_Q_i_Draft_take : Q_i_Draft_take = g_Q_i_Draft_take
  generalize hg_F_i_Draft_laid : F_i_Draft_laid = g_F_i_Draft_laid
  generalize hg_Q_i_Draft_laid : Q_i_Draft_laid = g_Q_i_Draft_laid
  generalize hR0 : F_i_TakePage d = R0
  generalize Q_i_TakePage d = Q0
  generalize hL : Lg.std = L
  generalize hA : Alg.std = A
  cbv
  subst hL hA
  try dsimp only [Ty.den]
  obtain ⟨⟨d_0_0, d_0_1, ⟨⟩⟩, d_1, d_2, ⟨⟩⟩ := d
  have hdr := draftFault_rise ((d_0_0, d_0_1, ()), d_1, d_2, ())
  have hfr := takeN_free ((d_0_0, d_0_1, ()), d_1, d_2, ())
  have hno := takeN_none ((d_0_0, d_0_1, ()), d_1, d_2, ())
  have hle1 := tot_len tPut d_0_1
  have hle0 := tot_len (.sl (.int .u8)) d_0_0
  subst hR0 hg_F_i_DraftFault hg_Q_i_DraftFault hg_F_i_ownDraft hg_Q_i_ownDraft hg_F_i_Draft_take hg_F_i_Draft_take_1 hg_B_i_Draft_take_d hg_Q_i_Draft_take hg_F_i_Draft_laid hg_Q_i_Draft_laid
  simp only [Q_i_TakePage] at hq
  simp only [tot_p, tot_u, tot_int] at hq
  simp only [Lg.std, Alg.std, List.drop_zero, List.take_length, F_i_DraftFault, F_i_ownDraft, F_i_Draft_take, F_i_Draft_laid, F_i_Draft_take_1, B_i_Draft_take_d, Q_i_DraftFault, Q_i_ownDraft, Q_i_Draft_take, Q_i_Draft_laid, F_i_TakePage, takePg] at *
  try simp only [true_and, and_true, false_implies, implies_true, imp_self]
  try simp only [tot_p, tot_u, tot_int, List.length_nil]
  repeat' (first | intro _ | apply And.intro)
  all_goals grind
def con_i_TakePage : Con := ⟨true, g1 (pD (.pair (.pair (.sl (.sl (.int .u8))) (.pair (.sl (.pair (.int .i64) (.pair (.sl (.int .u8)) .unit))) .unit)) (.pair (.sl (.int .i64)) (.pair (.sl (.int .i64)) .unit)))) fun d => ⟨[Q_i_TakePage d], [⟨(.pair (.int .i64) (.pair (.pair (.pair (.sl (.sl (.int .u8))) (.pair (.sl (.pair (.int .i64) (.pair (.sl (.int .u8)) .unit))) .unit)) (.pair (.sl (.int .i64)) (.pair (.sl (.int .i64)) .unit))) (.pair (.int .i64) .unit))), (.pr .sh (.pr (.pr (.pr (.ow (.ow .sh)) (.pr (.ow (.pr .sh (.pr (.ow .sh) .sh))) .sh)) (.pr (.ow .sh) (.pr (.ow .sh) .sh))) (.pr .sh .sh))), F_i_TakePage d⟩], []⟩, [], false, 0⟩
theorem ok_i_TakePage : ConOk pg 69 con_i_TakePage := ConOk.g1 (Enters.of (by kernel_rfl)) ct_i_TakePage

def F_w_FnExactTakePage (d : ((List (List (Int))) × (List ((Int) × (List (Int)) × Unit)) × Unit) × (List (Int)) × (List (Int)) × Unit) : Bool := true
def Q_w_FnExactTakePage (d : ((List (List (Int))) × (List ((Int) × (List (Int)) × Unit)) × Unit) × (List (Int)) × (List (Int)) × Unit) : Prop := True
def O_w_FnExactTakePage : Opt := ⟨fun i => false, fun i => [], fun i => (match decide (i = 10) with | true => (.alt 0 (.alt 1 (.alt 2 (.alt 3 (.take 4 .done) .no) .no) .no) (.alt 1 (.alt 0 (.alt 2 (.alt 3 (.take 4 .done) .no) .no) (.alt 2 (.alt 0 (.alt 3 (.take 4 .done) .no) .no) .no)) .no)) | false => .done), fun i => (match decide (i = 10) with | true => some [false, true, false, false, true, true, true, false, false, false, false, false, false, false, false, false, false, false, false, false, false, false, false, false, false, false, false, false, false, false, false, true, false, false, false, false, false, false, false, false, false, false, false, false, false, false, false, false, false, false, false, false, false, false, false, false, false, false, false, false, false, false, false, false, false, false, false, false, false] | false => none), fun i => false, fun i => []⟩
def τ_w_FnExactTakePage : Env := Env.of [(2, (.int .i64)), (3, (.int .i64)), (4, .bool), (50, (.pair (.pair (.sl (.sl (.int .u8))) (.pair (.sl (.pair (.int .i64) (.pair (.sl (.int .u8)) .unit))) .unit)) (.pair (.sl (.int .i64)) (.pair (.sl (.int .i64)) .unit)))), (56, (.pair (.pair (.sl (.sl (.int .u8))) (.pair (.sl (.pair (.int .i64) (.pair (.sl (.int .u8)) .unit))) .unit)) (.pair (.sl (.int .i64)) (.pair (.sl (.int .i64)) .unit)))), (97, (.pair (.int .i64) (.pair (.pair (.pair (.sl (.sl (.int .u8))) (.pair (.sl (.pair (.int .i64) (.pair (.sl (.int .u8)) .unit))) .unit)) (.pair (.sl (.int .i64)) (.pair (.sl (.int .i64)) .unit))) (.pair (.int .i64) .unit))))] [] []

theorem ct_w_FnExactTakePage (d : ((List (List (Int))) × (List ((Int) × (List (Int)) × Unit)) × Unit) × (List (Int)) × (List (Int)) × Unit) : Ct pg 12 [.dat (.pair (.pair (.sl (.sl (.int .u8))) (.pair (.sl (.pair (.int .i64) (.pair (.sl (.int .u8)) .unit))) .unit)) (.pair (.sl (.int .i64)) (.pair (.sl (.int .i64)) .unit))) d] ⟨[Q_w_FnExactTakePage d], [⟨.bool, .sh, F_w_FnExactTakePage d⟩], []⟩ := by
  refine ct_claim (O := O_w_FnExactTakePage) (τ := τ_w_FnExactTakePage) (EnvOk.of (by kernel_rfl) (by kernel_rfl)) (GOk.of (.cons ok_w_toDraft (.cons ok_w_eqDraft (.cons ok_w_szDraft (.cons ok_w_markDraft (.cons ok_w_eqLaidResult (.cons ok_w_markLaidResult (.cons ok_w_heldLaidResult (.cons ok_s_TakePage (.cons ok_i_TakePage .nil)))))))) : AllOk pg [(33, con_w_toDraft), (36, con_w_eqDraft), (31, con_w_szDraft), (37, con_w_markDraft), (70, con_w_eqLaidResult), (71, con_w_markLaidResult), (72, con_w_heldLaidResult), (68, con_s_TakePage), (69, con_i_TakePage)])) mixed (Enters.of (by kernel_rfl)) (fn := Go.Proofs.Try.f12) (by kernel_rfl) rfl (by kernel_rfl) ?_
  intro hp hw
  have hq : Q_w_FnExactTakePage d := hp _ (List.mem_singleton.2 rfl)
  clear hp
  change claim Lg.std Alg.std τ_w_FnExactTakePage (Gam.of [(33, ⟨true, g1 (pD (.pair (.pair (.sl (.sl (.int .u8))) (.pair (.sl (.pair (.int .i64) (.pair (.sl (.int .u8)) .unit))) .unit)) (.pair (.sl (.int .i64)) (.pair (.sl (.int .i64)) .unit)))) fun a => ⟨[Q_w_toDraft a], [⟨(.pair (.pair (.sl (.sl (.int .u8))) (.pair (.sl (.pair (.int .i64) (.pair (.sl (.int .u8)) .unit))) .unit)) (.pair (.sl (.int .i64)) (.pair (.sl (.int .i64)) .unit))), (.pr (.pr (.ow (.ow .sh)) (.pr (.ow (.pr .sh (.pr (.ow .sh) .sh))) .sh)) (.pr (.ow .sh) (.pr (.ow .sh) .sh))), F_w_toDraft a⟩], []⟩, [], false, 0⟩), (36, ⟨true, g2 (pD (.pair (.pair (.sl (.sl (.int .u8))) (.pair (.sl (.pair (.int .i64) (.pair (.sl (.int .u8)) .unit))) .unit)) (.pair (.sl (.int .i64)) (.pair (.sl (.int .i64)) .unit)))) (pD (.pair (.pair (.sl (.sl (.int .u8))) (.pair (.sl (.pair (.int .i64) (.pair (.sl (.int .u8)) .unit))) .unit)) (.pair (.sl (.int .i64)) (.pair (.sl (.int .i64)) .unit)))) fun a b => ⟨[Q_w_eqDraft a b], [⟨.bool, .sh, F_w_eqDraft a b⟩], []⟩, [], false, 0⟩), (31, ⟨true, g2 (pD (.pair (.pair (.sl (.sl (.int .u8))) (.pair (.sl (.pair (.int .i64) (.pair (.sl (.int .u8)) .unit))) .unit)) (.pair (.sl (.int .i64)) (.pair (.sl (.int .i64)) .unit)))) (pD (.int .i64)) fun a left => ⟨[Q_w_szDraft a left], [⟨(.int .i64), .sh, F_w_szDraft a left⟩], []⟩, [], false, 0⟩), (37, ⟨true, g2 (pV (.pair (.pair (.sl (.sl (.int .u8))) (.pair (.sl (.pair (.int .i64) (.pair (.sl (.int .u8)) .unit))) .unit)) (.pair (.sl (.int .i64)) (.pair (.sl (.int .i64)) .unit))) (.pr (.pr (.ow (.ow .sh)) (.pr (.ow (.pr .sh (.pr (.ow .sh) .sh))) .sh)) (.pr (.ow .sh) (.pr (.ow .sh) .sh)))) (pD (.int .i64)) fun a k => ⟨[Q_w_markDraft a k], [⟨(.int .i64), .sh, F_w_markDraft a k⟩], [.mv (.pair (.pair (.sl (.sl (.int .u8))) (.pair (.sl (.pair (.int .i64) (.pair (.sl (.int .u8)) .unit))) .unit)) (.pair (.sl (.int .i64)) (.pair (.sl (.int .i64)) .unit))) (.pr (.pr (.ow (.ow .sh)) (.pr (.ow (.pr .sh (.pr (.ow .sh) .sh))) .sh)) (.pr (.ow .sh) (.pr (.ow .sh) .sh))) (B_w_markDraft_a a k)]⟩, [(.pr (.pr (.ow (.ow .sh)) (.pr (.ow (.pr .sh (.pr (.ow .sh) .sh))) .sh)) (.pr (.ow .sh) (.pr (.ow .sh) .sh)))], false, 0⟩), (70, ⟨true, g2 (pD (.pair (.int .i64) (.pair (.pair (.pair (.sl (.sl (.int .u8))) (.pair (.sl (.pair (.int .i64) (.pair (.sl (.int .u8)) .unit))) .unit)) (.pair (.sl (.int .i64)) (.pair (.sl (.int .i64)) .unit))) (.pair (.int .i64) .unit)))) (pD (.pair (.int .i64) (.pair (.pair (.pair (.sl (.sl (.int .u8))) (.pair (.sl (.pair (.int .i64) (.pair (.sl (.int .u8)) .unit))) .unit)) (.pair (.sl (.int .i64)) (.pair (.sl (.int .i64)) .unit))) (.pair (.int .i64) .unit)))) fun a b => ⟨[Q_w_eqLaidResult a b], [⟨.bool, .sh, F_w_eqLaidResult a b⟩], []⟩, [], false, 0⟩), (71, ⟨true, g2 (pV (.pair (.int .i64) (.pair (.pair (.pair (.sl (.sl (.int .u8))) (.pair (.sl (.pair (.int .i64) (.pair (.sl (.int .u8)) .unit))) .unit)) (.pair (.sl (.int .i64)) (.pair (.sl (.int .i64)) .unit))) (.pair (.int .i64) .unit))) (.pr .sh (.pr (.pr (.pr (.ow (.ow .sh)) (.pr (.ow (.pr .sh (.pr (.ow .sh) .sh))) .sh)) (.pr (.ow .sh) (.pr (.ow .sh) .sh))) (.pr .sh .sh)))) (pD (.int .i64)) fun a k => ⟨[Q_w_markLaidResult a k], [⟨(.int .i64), .sh, F_w_markLaidResult a k⟩], [.mv (.pair (.int .i64) (.pair (.pair (.pair (.sl (.sl (.int .u8))) (.pair (.sl (.pair (.int .i64) (.pair (.sl (.int .u8)) .unit))) .unit)) (.pair (.sl (.int .i64)) (.pair (.sl (.int .i64)) .unit))) (.pair (.int .i64) .unit))) (.pr .sh (.pr (.pr (.pr (.ow (.ow .sh)) (.pr (.ow (.pr .sh (.pr (.ow .sh) .sh))) .sh)) (.pr (.ow .sh) (.pr (.ow .sh) .sh))) (.pr .sh .sh))) (B_w_markLaidResult_a a k)]⟩, [(.pr .sh (.pr (.pr (.pr (.ow (.ow .sh)) (.pr (.ow (.pr .sh (.pr (.ow .sh) .sh))) .sh)) (.pr (.ow .sh) (.pr (.ow .sh) .sh))) (.pr .sh .sh)))], false, 0⟩), (72, ⟨true, g2 (pD (.pair (.int .i64) (.pair (.pair (.pair (.sl (.sl (.int .u8))) (.pair (.sl (.pair (.int .i64) (.pair (.sl (.int .u8)) .unit))) .unit)) (.pair (.sl (.int .i64)) (.pair (.sl (.int .i64)) .unit))) (.pair (.int .i64) .unit)))) (pD (.int .i64)) fun a k => ⟨[Q_w_heldLaidResult a k], [⟨(.int .i64), .sh, F_w_heldLaidResult a k⟩], []⟩, [], false, 0⟩), (68, ⟨true, g1 (pD (.pair (.pair (.sl (.sl (.int .u8))) (.pair (.sl (.pair (.int .i64) (.pair (.sl (.int .u8)) .unit))) .unit)) (.pair (.sl (.int .i64)) (.pair (.sl (.int .i64)) .unit)))) fun d => ⟨[Q_s_TakePage d], [⟨(.pair (.int .i64) (.pair (.pair (.pair (.sl (.sl (.int .u8))) (.pair (.sl (.pair (.int .i64) (.pair (.sl (.int .u8)) .unit))) .unit)) (.pair (.sl (.int .i64)) (.pair (.sl (.int .i64)) .unit))) (.pair (.int .i64) .unit))), (.pr .sh (.pr (.pr (.pr (.ow (.ow .sh)) (.pr (.ow (.pr .sh (.pr (.ow .sh) .sh))) .sh)) (.pr (.ow .sh) (.pr (.ow .sh) .sh))) (.pr .sh .sh))), F_s_TakePage d⟩], []⟩, [], false, 0⟩), (69, ⟨true, g1 (pD (.pair (.pair (.sl (.sl (.int .u8))) (.pair (.sl (.pair (.int .i64) (.pair (.sl (.int .u8)) .unit))) .unit)) (.pair (.sl (.int .i64)) (.pair (.sl (.int .i64)) .unit)))) fun d => ⟨[Q_i_TakePage d], [⟨(.pair (.int .i64) (.pair (.pair (.pair (.sl (.sl (.int .u8))) (.pair (.sl (.pair (.int .i64) (.pair (.sl (.int .u8)) .unit))) .unit)) (.pair (.sl (.int .i64)) (.pair (.sl (.int .i64)) .unit))) (.pair (.int .i64) .unit))), (.pr .sh (.pr (.pr (.pr (.ow (.ow .sh)) (.pr (.ow (.pr .sh (.pr (.ow .sh) .sh))) .sh)) (.pr (.ow .sh) (.pr (.ow .sh) .sh))) (.pr .sh .sh))), F_i_TakePage d⟩], []⟩, [], false, 0⟩)]) O_w_FnExactTakePage Go.Proofs.Try.f12 [.dat (.pair (.pair (.sl (.sl (.int .u8))) (.pair (.sl (.pair (.int .i64) (.pair (.sl (.int .u8)) .unit))) .unit)) (.pair (.sl (.int .i64)) (.pair (.sl (.int .i64)) .unit))) d] ⟨[Q_w_FnExactTakePage d], [⟨.bool, .sh, F_w_FnExactTakePage d⟩], []⟩
  generalize hg_F_w_toDraft : F_w_toDraft = g_F_w_toDraft
  generalize hg_Q_w_toDraft : Q_w_toDraft = g_Q_w_toDraft
  generalize hg_F_w_eqDraft : F_w_eqDraft = g_F_w_eqDraft
  generalize hg_Q_w_eqDraft : Q_w_eqDraft = g_Q_w_eqDraft
  generalize hg_F_w_szDraft : F_w_szDraft = g_F_w_szDraft
  generalize hg_Q_w_szDraft : Q_w_szDraft = g_Q_w_szDraft
  generalize hg_F_w_markDraft : F_w_markDraft = g_F_w_markDraft
  generalize hg_B_w_markDraft_a : B_w_markDraft_a = g_B_w_markDraft_a
  generalize hg_Q_w_markDraft : Q_w_markDraft = g_Q_w_markDraft
  generalize hg_F_w_eqLaidResult : F_w_eqLaidResult = g_F_w_eqLaidResult
  generalize hg_Q_w_eqLaidResult : Q_w_eqLaidResult = g_Q_w_eqLaidResult
  generalize hg_F_w_markLaidResult : F_w_markLaidResult = g_F_w_markLaidResult
  generalize hg_B_w_markLaidResult_a : B_w_markLaidResult_a = g_B_w_markLaidResult_a
  generalize hg_Q_w_markLaidResult : Q_w_markLaidResult = g_Q_w_markLaidResult
  generalize hg_F_w_heldLaidResult : F_w_heldLaidResult = g_F_w_heldLaidResult
  generalize hg_Q_w_heldLaidResult : Q_w_heldLaidResult = g_Q_w_heldLaidResult
  generalize hg_F_s_TakePage : F_s_TakePage = g_F_s_TakePage
  generalize hg_Q_s_TakePage : Q_s_TakePage = g_Q_s_TakePage
  generalize hg_F_i_TakePage : F_i_TakePage = g_F_i_TakePage
  generalize hg_Q_i_TakePage : Q_i_TakePage = g_Q_i_TakePage
  generalize hR0 : F_w_FnExactTakePage d = R0
  generalize Q_w_FnExactTakePage d = Q0
  generalize hL : Lg.std = L
  generalize hA : Alg.std = A
  cbv
  subst hL hA
  try dsimp only [Ty.den]
  obtain ⟨⟨d_0_0, d_0_1, ⟨⟩⟩, d_1, d_2, ⟨⟩⟩ := d
  have hct_d := cnt_tot (.pair (.pair (.sl (.sl (.int .u8))) (.pair (.sl (.pair (.int .i64) (.pair (.sl (.int .u8)) .unit))) .unit)) (.pair (.sl (.int .i64)) (.pair (.sl (.int .i64)) .unit))) ((d_0_0, d_0_1, PUnit.unit), d_1, d_2, PUnit.unit) (by decide)
  rcases Classical.em (tot (.pair (.pair (.sl (.sl (.int .u8))) (.pair (.sl (.pair (.int .i64) (.pair (.sl (.int .u8)) .unit))) .unit)) (.pair (.sl (.int .i64)) (.pair (.sl (.int .i64)) .unit))) ((d_0_0, d_0_1, PUnit.unit), d_1, d_2, PUnit.unit) ≤ 1048576) with hB | hB
  · have htt := takePg_tot ((d_0_0, d_0_1, PUnit.unit), d_1, d_2, PUnit.unit)
    have hct := cnt_tot (.pair (.int .i64) (.pair (.pair (.pair (.sl (.sl (.int .u8))) (.pair (.sl (.pair (.int .i64) (.pair (.sl (.int .u8)) .unit))) .unit)) (.pair (.sl (.int .i64)) (.pair (.sl (.int .i64)) .unit))) (.pair (.int .i64) .unit))) (takePg ((d_0_0, d_0_1, PUnit.unit), d_1, d_2, PUnit.unit)) (by decide)
    have htr : tot (.pair (.int .i64) (.pair (.pair (.pair (.sl (.sl (.int .u8))) (.pair (.sl (.pair (.int .i64) (.pair (.sl (.int .u8)) .unit))) .unit)) (.pair (.sl (.int .i64)) (.pair (.sl (.int .i64)) .unit))) (.pair (.int .i64) .unit))) (takePg ((d_0_0, d_0_1, PUnit.unit), d_1, d_2, PUnit.unit)) = tot (.pair (.pair (.sl (.sl (.int .u8))) (.pair (.sl (.pair (.int .i64) (.pair (.sl (.int .u8)) .unit))) .unit)) (.pair (.sl (.int .i64)) (.pair (.sl (.int .i64)) .unit))) (takePg ((d_0_0, d_0_1, PUnit.unit), d_1, d_2, PUnit.unit)).2.1 := by simp only [tot_p, tot_u, tot_i, Nat.zero_add, Nat.add_zero]
    have hc0 : cnt false (.pair (.int .i64) (.pair (.pair (.pair (.sl (.sl (.int .u8))) (.pair (.sl (.pair (.int .i64) (.pair (.sl (.int .u8)) .unit))) .unit)) (.pair (.sl (.int .i64)) (.pair (.sl (.int .i64)) .unit))) (.pair (.int .i64) .unit))) (takePg ((d_0_0, d_0_1, PUnit.unit), d_1, d_2, PUnit.unit)) ≤ 4000000000 := by
      have := hct
      omega
    try simp only [tDisk, tPut, tot_int] at *
    subst hR0 hg_F_w_toDraft hg_Q_w_toDraft hg_F_w_eqDraft hg_Q_w_eqDraft hg_F_w_szDraft hg_Q_w_szDraft hg_F_w_markDraft hg_B_w_markDraft_a hg_Q_w_markDraft hg_F_w_eqLaidResult hg_Q_w_eqLaidResult hg_F_w_markLaidResult hg_B_w_markLaidResult_a hg_Q_w_markLaidResult hg_F_w_heldLaidResult hg_Q_w_heldLaidResult hg_F_s_TakePage hg_Q_s_TakePage hg_F_i_TakePage hg_Q_i_TakePage
    simp only [Lg.std, Alg.std, List.drop_zero, List.take_length, F_w_toDraft, F_w_eqDraft, F_w_szDraft, F_w_markDraft, F_w_eqLaidResult, F_w_markLaidResult, F_w_heldLaidResult, F_s_TakePage, F_i_TakePage, B_w_markDraft_a, B_w_markLaidResult_a, Q_w_toDraft, Q_w_eqDraft, Q_w_szDraft, Q_w_markDraft, Q_w_eqLaidResult, Q_w_markLaidResult, Q_w_heldLaidResult, Q_s_TakePage, Q_i_TakePage, F_w_FnExactTakePage]
    generalize hW : (takePg ((d_0_0, d_0_1, PUnit.unit), d_1, d_2, PUnit.unit) : (Int) × (((List (List (Int))) × (List ((Int) × (List (Int)) × Unit)) × Unit) × (List (Int)) × (List (Int)) × Unit) × (Int) × Unit) = w at *
    clear hW
    obtain ⟨w_0, ⟨⟨w_1_0_0, w_1_0_1, ⟨⟩⟩, w_1_1, w_1_2, ⟨⟩⟩, w_2, ⟨⟩⟩ := w
    try dsimp only at *
    have hm := hd_mk false (.pair (.int .i64) (.pair (.pair (.pair (.sl (.sl (.int .u8))) (.pair (.sl (.pair (.int .i64) (.pair (.sl (.int .u8)) .unit))) .unit)) (.pair (.sl (.int .i64)) (.pair (.sl (.int .i64)) .unit))) (.pair (.int .i64) .unit))) (w_0, ((w_1_0_0, w_1_0_1, PUnit.unit), w_1_1, w_1_2, PUnit.unit), w_2, PUnit.unit) 1 (by omega)
    have mt_w_1_0_0 := fun k => mk_take false (.sl (.int .u8)) w_1_0_0 k
    dsimp only [Ty.den] at mt_w_1_0_0
    have mt_w_1_0_1 := fun k => mk_take false (.pair (.int .i64) (.pair (.sl (.int .u8)) .unit)) w_1_0_1 k
    dsimp only [Ty.den] at mt_w_1_0_1
    have mt_w_1_1 := fun k => mk_take false (.int .i64) w_1_1 k
    dsimp only [Ty.den] at mt_w_1_1
    have mt_w_1_2 := fun k => mk_take false (.int .i64) w_1_2 k
    dsimp only [Ty.den] at mt_w_1_2
    simp only [tot_p, tot_u, tot_i, tot_b, tot_s, cnt_p, cnt_u, cnt_i0, cnt_b0, cnt_s0, cnt_i1, cnt_b1, cnt_s1, cnt_l, mk_p, mk_u, mk_i0, mk_b0, mk_s0, mk_i1, mk_s1, mk_l, hd_p, hd_u, hd_i0, hd_b0, hd_s0, hd_i1, hd_b1, hd_s1, hd_l, mt_w_1_0_0, mt_w_1_0_1, mt_w_1_1, mt_w_1_2] at *
    try simp only [tDisk, tPut, tot_int] at *
    repeat' (first | intro _ | apply And.intro)
    all_goals grind [szf, cnt_mk, hd_mk]
  · subst hR0 hg_F_w_toDraft hg_Q_w_toDraft hg_F_w_eqDraft hg_Q_w_eqDraft hg_F_w_szDraft hg_Q_w_szDraft hg_F_w_markDraft hg_B_w_markDraft_a hg_Q_w_markDraft hg_F_w_eqLaidResult hg_Q_w_eqLaidResult hg_F_w_markLaidResult hg_B_w_markLaidResult_a hg_Q_w_markLaidResult hg_F_w_heldLaidResult hg_Q_w_heldLaidResult hg_F_s_TakePage hg_Q_s_TakePage hg_F_i_TakePage hg_Q_i_TakePage
    simp only [Lg.std, Alg.std, List.drop_zero, List.take_length, F_w_toDraft, F_w_eqDraft, F_w_szDraft, F_w_markDraft, F_w_eqLaidResult, F_w_markLaidResult, F_w_heldLaidResult, F_s_TakePage, F_i_TakePage, B_w_markDraft_a, B_w_markLaidResult_a, Q_w_toDraft, Q_w_eqDraft, Q_w_szDraft, Q_w_markDraft, Q_w_eqLaidResult, Q_w_markLaidResult, Q_w_heldLaidResult, Q_s_TakePage, Q_i_TakePage, F_w_FnExactTakePage]
    generalize hW : (takePg ((d_0_0, d_0_1, PUnit.unit), d_1, d_2, PUnit.unit) : (Int) × (((List (List (Int))) × (List ((Int) × (List (Int)) × Unit)) × Unit) × (List (Int)) × (List (Int)) × Unit) × (Int) × Unit) = w at *
    clear hW
    try simp only [tDisk, tPut, tot_int] at *
    simp only [tot_p, tot_u, tot_i, tot_b, tot_s, szf] at *
    repeat' (first | intro _ | apply And.intro)
    all_goals grind
def con_w_FnExactTakePage : Con := ⟨true, g1 (pD (.pair (.pair (.sl (.sl (.int .u8))) (.pair (.sl (.pair (.int .i64) (.pair (.sl (.int .u8)) .unit))) .unit)) (.pair (.sl (.int .i64)) (.pair (.sl (.int .i64)) .unit)))) fun d => ⟨[Q_w_FnExactTakePage d], [⟨.bool, .sh, F_w_FnExactTakePage d⟩], []⟩, [], false, 0⟩
theorem ok_w_FnExactTakePage : ConOk pg 12 con_w_FnExactTakePage := ConOk.g1 (Enters.of (by kernel_rfl)) ct_w_FnExactTakePage
end Go.Vee
