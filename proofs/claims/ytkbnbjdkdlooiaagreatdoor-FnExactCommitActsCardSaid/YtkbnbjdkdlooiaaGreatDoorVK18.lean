/-
  Contracts of functions of the program: what each returns for all arguments that its precondition lets in.
-/
import Derived.Test.YtkbnbjdkdlooiaaGreatDoorVK17
set_option linter.unusedSimpArgs false
set_option linter.unusedVariables false
set_option maxRecDepth 100000
set_option maxHeartbeats 4000000
set_option synthInstance.maxHeartbeats 4000000
set_option synthInstance.maxSize 20000
namespace Go.Vee
open Go
theorem dig_len (n k : Int) (m : Nat) (h : n * 10 ^ m ≤ k) (hk : k ≤ 4611686018427387904) (hn : 0 < n) : m ≤ 18 := by
  have h1 : (10 : Int) ^ m ≤ n * 10 ^ m := by
    have : 0 < (10 : Int) ^ m := Int.pow_pos (by omega)
    have h2 : 1 * (10 : Int) ^ m ≤ n * 10 ^ m := Int.mul_le_mul_of_nonneg_right (by omega) (by omega)
    omega
  by_cases hm : m ≤ 18
  · exact hm
  · have h3 : (10 : Int) ^ 19 ≤ 10 ^ m := by
      have := Nat.pow_le_pow_right (n := 10) (by omega) (show 19 ≤ m by omega)
      exact_mod_cast this
    have h4 : (10 : Int) ^ 19 = 10000000000000000000 := by decide
    omega
theorem dig_step (n k : Int) (m : Nat) (h : n * 10 ^ m ≤ k) : (n / 10) * 10 ^ (m + 1) ≤ k := by
  have : (n / 10) * 10 ^ (m + 1) = (n / 10 * 10) * 10 ^ m := by rw [Int.pow_succ, Int.mul_comm ((10 : Int) ^ m) 10, Int.mul_assoc]
  rw [this]
  have h2 : 0 < (10 : Int) ^ m := Int.pow_pos (by omega)
  have h1 : (n / 10 * 10) * 10 ^ m ≤ n * 10 ^ m := Int.mul_le_mul_of_nonneg_right (by omega) (by omega)
  omega
theorem dig_wrap (n : Int) : IntKind.u8.wrap (n % 10 + 48) = 48 + n % 10 := by rw [wrap8]; omega
def packSyms : List SymT → List Int
  | [] => []
  | x :: l => ((x.1.length : Int) % 256 :: x.1) ++ (x.2.1 % 256 :: packSyms l)
def packSig (s : SigT) : List Int := (s.1.length : Int) % 256 :: packSyms s.1
theorem ps_step (l : List SymT) (i : Nat) (h : i < l.length) : packSyms (l.drop i) = ((l.getD i symD).1.length : Int) % 256 :: ((l.getD i symD).1 ++ ((l.getD i symD).2.1 % 256 :: packSyms (l.drop (i + 1)))) := by
  rw [drop_cons l symD i h]; rfl
theorem ps_end (l : List SymT) (i : Nat) (h : l.length ≤ i) : packSyms (l.drop i) = [] := by rw [drop_nil l i h]; rfl
theorem symBad_ok : ∀ (l : List SymT), symBad l = 0 → ∀ x ∈ l, nameOk x.1 = true ∧ 0 ≤ x.2.1 ∧ x.2.1 ≤ 2
  | [], _, x, hx => by cases hx
  | y :: l, h, x, hx => by
    unfold symBad at h
    split at h
    · cases h
    rename_i h1
    split at h
    · cases h
    rename_i h2
    rcases List.mem_cons.1 hx with rfl | hx
    · exact ⟨by simpa using h1, by omega, by omega⟩
    · exact symBad_ok l h x hx
theorem nameOk_len (s : List Int) (h : nameOk s = true) : 1 ≤ s.length ∧ s.length ≤ 3 := by
  unfold nameOk at h
  simp only [Bool.and_eq_true, decide_eq_true_eq] at h
  exact h.1
theorem sig_good (s : SigT) (h : sigFault s = 0) : (1 ≤ s.1.length ∧ s.1.length ≤ 6) ∧ ∀ x ∈ s.1, nameOk x.1 = true ∧ 0 ≤ x.2.1 ∧ x.2.1 ≤ 2 := by
  unfold sigFault at h
  split at h
  · cases h
  rename_i h1
  split at h
  · rename_i h2; exact absurd h h2
  rename_i h2
  exact ⟨Decidable.not_not.1 h1, symBad_ok s.1 (Decidable.not_not.1 h2)⟩
theorem sig_at (s : SigT) (h : sigFault s = 0) (i : Nat) (hi : i < s.1.length) : (s.1.getD i symD).1.length ≤ 3 :=
  (nameOk_len _ ((sig_good s h).2 _ (getD_mem s.1 symD i hi)).1).2

def F_w_markText (k : Int) : List Int := markText k
def Q_w_markText (k : Int) : Prop := k ≤ 4611686018427387904
def O_w_markText : Opt := ⟨fun i => false, fun i => (match decide (i = 4) with | true => [true, false, false, true, false, false, false, false, false, false, false, false, false, false, false, false, false, false, false, false] | false => []), fun i => .done, fun i => none, fun i => false, fun i => [], fun i => false, fun i => none⟩
def τ_w_markText : Env := Env.of [(2, (.int .i64)), (3, (.int .i64)), (4, .bool), (5, (.int .u8)), (9, .str), (27, (.sl (.int .u8)))] [] []

theorem ct_w_markText (k : Int) : Ct pg 140 [.dat (.int .i64) k] ⟨[Q_w_markText k], [⟨.str, .sh, F_w_markText k⟩], []⟩ := by
  refine ct_claim (O := O_w_markText) (τ := τ_w_markText) (EnvOk.of (by kernel_rfl) (by kernel_rfl)) (GOk.of (.nil : AllOk pg [])) mixed (Enters.of (by kernel_rfl)) (fn := Go.Proofs.Tryz.f140) (by kernel_rfl) rfl (by kernel_rfl) ?_
  intro hp hw
  have hq : Q_w_markText k := hp _ (List.mem_singleton.2 rfl)
  clear hp
  change claim Lg.std Alg.std τ_w_markText (Gam.of []) O_w_markText Go.Proofs.Tryz.f140 [.dat (.int .i64) k] ⟨[Q_w_markText k], [⟨.str, .sh, F_w_markText k⟩], []⟩
  generalize hR0 : F_w_markText k = R0
  generalize Q_w_markText k = Q0
  generalize hL : Lg.std = L
  generalize hA : Alg.std = A
  cbv
  subst hL hA
  try dsimp only [Ty.den]
  simp only [Q_w_markText] at hq
  refine ⟨fun h => ?_, fun h => ?_⟩
  · subst hR0
    simp only [Lg.std, Alg.std, List.drop_zero, List.take_length, F_w_markText, markText] at *
    all_goals grind
  · refine lp_v (V := (Int) × (List Int)) (fun ((n, out) : (Int) × (List Int)) => ⟨[.dat (.int .i64) n, .junk, .junk, .dat .str out, .junk, .junk, .junk, .junk, .junk, .junk, .junk, .junk, .junk, .junk, .junk, .junk, .junk, .junk, .junk, .junk], []⟩) (fun ((n, out) : (Int) × (List Int)) => digs n out = digs k [] ∧ n * 10 ^ out.length ≤ k ∧ 0 ≤ n ∧ 0 < k ∧ out.length ≤ 19) (fun ((n, out) : (Int) × (List Int)) => n.toNat) (k, []) rfl ?_ ?_
    · simp [Alg.std] at *; omega
    rintro ⟨n, out⟩ hf I hI
    replace hf : digs n out = digs k [] ∧ n * 10 ^ out.length ≤ k ∧ 0 ≤ n ∧ 0 < k ∧ out.length ≤ 19 := hf
    generalize hL : Lg.std = L
    generalize hA : Alg.std = A
    cbv
    subst hL hA
    try dsimp only [Ty.den]
    subst hI
    simp only [Lg.std, Alg.std, List.drop_zero, List.take_length]
    obtain ⟨h1, h2, h3, h4, h5⟩ := hf
    have hd1 := digs_pos n out
    have hd2 := digs_end n out
    have hd3 := dig_len n k out.length h2 hq
    have hd4 := dig_step n k out.length h2
    have hd5 := dig_wrap n
    have hkt : (109 :: digs k [] : List Int) = markText k := by rw [markText, if_neg (by omega)]; rfl
    repeat' (first | intro _ | apply And.intro)
    all_goals (try refine ⟨(_, _), rfl, ?_, ?_⟩)
    all_goals subst hR0
    all_goals (try simp only [F_w_markText] at *)
    all_goals grind [markText]
def con_w_markText : Con := ⟨true, g1 (pD (.int .i64)) fun k => ⟨[Q_w_markText k], [⟨.str, .sh, F_w_markText k⟩], []⟩, [], false, 0⟩
theorem ok_w_markText : ConOk pg 140 con_w_markText := ConOk.g1 (Enters.of (by kernel_rfl)) ct_w_markText

def F_w_markSymbolS (a : List ((List Int) × (Int) × Unit)) (k : Int) : Int := k + cnt false (.sl (.pair .str (.pair (.int .i64) .unit))) a
def B_w_markSymbolS_a (a : List ((List Int) × (Int) × Unit)) (k : Int) : List ((List Int) × (Int) × Unit) := mk false (.sl (.pair .str (.pair (.int .i64) .unit))) a k
def Q_w_markSymbolS (a : List ((List Int) × (Int) × Unit)) (k : Int) : Prop := 0 ≤ k ∧ k + cnt false (.sl (.pair .str (.pair (.int .i64) .unit))) a ≤ 4611686018427387904
def O_w_markSymbolS : Opt := ⟨fun i => false, fun i => (match decide (i = 2) with | true => [true, true, false, false, false, true, false, false, false, false, false, false, false, false, false, false, false, false, false, false, false, false, false, false, false, false, false, false] | false => []), fun i => .done, fun i => none, fun i => false, fun i => [], fun i => false, fun i => none⟩
def τ_w_markSymbolS : Env := Env.of [(2, (.int .i64)), (3, (.int .i64)), (4, .bool), (9, .str), (28, (.sl (.pair .str (.pair (.int .i64) .unit)))), (175, (.pair .str (.pair (.int .i64) .unit)))] [] []

theorem ct_w_markSymbolS (a : List ((List Int) × (Int) × Unit)) (k : Int) : Ct pg 76 [.mv (.sl (.pair .str (.pair (.int .i64) .unit))) (.ow (.pr .sh (.pr .sh .sh))) a, .dat (.int .i64) k] ⟨[Q_w_markSymbolS a k], [⟨(.int .i64), .sh, F_w_markSymbolS a k⟩], [.mv (.sl (.pair .str (.pair (.int .i64) .unit))) (.ow (.pr .sh (.pr .sh .sh))) (B_w_markSymbolS_a a k)]⟩ := by
  refine ct_claim (O := O_w_markSymbolS) (τ := τ_w_markSymbolS) (EnvOk.of (by kernel_rfl) (by kernel_rfl)) (GOk.of (.cons ok_w_markText .nil : AllOk pg [(140, con_w_markText)])) mixed (Enters.of (by kernel_rfl)) (fn := Go.Proofs.Tryz.f76) (by kernel_rfl) rfl (by kernel_rfl) ?_
  intro hp hw
  have hq : Q_w_markSymbolS a k := hp _ (List.mem_singleton.2 rfl)
  clear hp
  change claim Lg.std Alg.std τ_w_markSymbolS (Gam.of [(140, ⟨true, g1 (pD (.int .i64)) fun k => ⟨[Q_w_markText k], [⟨.str, .sh, F_w_markText k⟩], []⟩, [], false, 0⟩)]) O_w_markSymbolS Go.Proofs.Tryz.f76 [.mv (.sl (.pair .str (.pair (.int .i64) .unit))) (.ow (.pr .sh (.pr .sh .sh))) a, .dat (.int .i64) k] ⟨[Q_w_markSymbolS a k], [⟨(.int .i64), .sh, F_w_markSymbolS a k⟩], [.mv (.sl (.pair .str (.pair (.int .i64) .unit))) (.ow (.pr .sh (.pr .sh .sh))) (B_w_markSymbolS_a a k)]⟩
  generalize hg_F_w_markText : F_w_markText = g_F_w_markText
  generalize hg_Q_w_markText : Q_w_markText = g_Q_w_markText
  generalize hR0 : F_w_markSymbolS a k = R0
  generalize hB_a : B_w_markSymbolS_a a k = B_a
  generalize Q_w_markSymbolS a k = Q0
  generalize hL : Lg.std = L
  generalize hA : Alg.std = A
  cbv
  subst hL hA
  try dsimp only [Ty.den]
  simp only [Q_w_markSymbolS] at hq
  refine lp_v (V := (Int) × (Int) × (Nat) × (List ((List Int) × (Int) × Unit))) (fun ((i, j, N, xs) : (Int) × (Int) × (Nat) × (List ((List Int) × (Int) × Unit))) => ⟨[.ref (.pair .str (.pair (.int .i64) .unit)) 0 0 [] 0 N, .dat (.int .i64) j, .junk, .junk, .junk, .dat (.int .i64) i, .junk, .junk, .junk, .junk, .junk, .junk, .junk, .junk, .junk, .junk, .junk, .junk, .junk, .junk, .junk, .junk, .junk, .junk, .junk, .junk, .junk, .junk], [some (.row 0 (.pair .str (.pair (.int .i64) .unit)) (.pr .sh (.pr .sh .sh)) xs), some (.gh [.ref (.pair .str (.pair (.int .i64) .unit)) 0 0 [] 0 N])]⟩) (fun ((i, j, N, xs) : (Int) × (Int) × (Nat) × (List ((List Int) × (Int) × Unit))) => N = a.length ∧ 0 ≤ i ∧ i ≤ a.length ∧ j = k + cnt false (.sl (.pair .str (.pair (.int .i64) .unit))) (a.take i.toNat : List ((List Int) × (Int) × Unit)) ∧ xs = (mk false (.sl (.pair .str (.pair (.int .i64) .unit))) a k : List ((List Int) × (Int) × Unit)).take i.toNat ++ a.drop i.toNat) (fun ((i, j, N, xs) : (Int) × (Int) × (Nat) × (List ((List Int) × (Int) × Unit))) => a.length - i.toNat) (0, k, _, _) rfl ?_ ?_
  · simp [Alg.std, cnt, cntL]
  rintro ⟨i, j, N, xs⟩ hf I hI
  replace hf : N = a.length ∧ 0 ≤ i ∧ i ≤ a.length ∧ j = k + cnt false (.sl (.pair .str (.pair (.int .i64) .unit))) (a.take i.toNat : List ((List Int) × (Int) × Unit)) ∧ xs = (mk false (.sl (.pair .str (.pair (.int .i64) .unit))) a k : List ((List Int) × (Int) × Unit)).take i.toNat ++ a.drop i.toNat := hf
  generalize hL : Lg.std = L
  generalize hA : Alg.std = A
  cbv
  subst hL hA
  try dsimp only [Ty.den]
  subst hI
  simp only [Lg.std, Alg.std, List.drop_zero, List.take_length]
  obtain ⟨h1, h2, h3, h4, h5⟩ := hf
  have hl := hw.1.1
  have hk := fun (h : i.toNat < a.length) => mk_stepT (.pair .str (.pair (.int .i64) .unit)) a (([], 0, PUnit.unit) : (List Int) × (Int) × Unit) k i.toNat h
  have hm := fun (h : i.toNat < a.length) => mk_mid (.pair .str (.pair (.int .i64) .unit)) a (([], 0, PUnit.unit) : (List Int) × (Int) × Unit) k i.toNat h
  have hml := fun (h : i.toNat ≤ a.length) => mk_midlen (.pair .str (.pair (.int .i64) .unit)) a k i.toNat h
  have hct := fun (h : i.toNat < a.length) => cnt_take (.pair .str (.pair (.int .i64) .unit)) a (([], 0, PUnit.unit) : (List Int) × (Int) × Unit) i.toNat h
  have hcl := cnt_le (.pair .str (.pair (.int .i64) .unit)) a (i.toNat + 1)
  have hcl0 := cnt_le (.pair .str (.pair (.int .i64) .unit)) a i.toNat
  have hta := fun (h : a.length ≤ i.toNat) => List.take_of_length_le h
  have htm := fun (h : a.length ≤ i.toNat) => List.take_of_length_le (l := (mk false (.sl (.pair .str (.pair (.int .i64) .unit))) a k : List ((List Int) × (Int) × Unit))) (Nat.le_trans (Nat.le_of_eq (mk_len false (.pair .str (.pair (.int .i64) .unit)) a k)) h)
  have hdc := fun (h : i.toNat < a.length) => drop_cons a (([], 0, PUnit.unit) : (List Int) × (Int) × Unit) i.toNat h
  have he := fun (h : a.length ≤ i.toNat) => drop_nil a i.toNat h
  repeat' (first | intro _ | apply And.intro)
  all_goals (try refine ⟨(_, _, _, _), rfl, ?_, ?_⟩)
  all_goals subst hR0 hB_a hg_F_w_markText hg_Q_w_markText
  all_goals (try simp only [F_w_markText, Q_w_markText, F_w_markSymbolS, B_w_markSymbolS_a] at *)
  all_goals (try simp only [szf, tot_p, tot_u, tot_i, tot_b, tot_s, cnt_p, cnt_u, cnt_i0, cnt_b0, cnt_s0, cnt_i1, cnt_b1, cnt_s1, cnt_l, mk_p, mk_u, mk_i0, mk_b0, mk_s0, mk_i1, mk_s1, mk_l, hd_p, hd_u, hd_i0, hd_b0, hd_s0, hd_i1, hd_b1, hd_s1, hd_l] at *)
  all_goals grind [getD_set_self, List.set_set, i64_wrap]
def con_w_markSymbolS : Con := ⟨true, g2 (pV (.sl (.pair .str (.pair (.int .i64) .unit))) (.ow (.pr .sh (.pr .sh .sh)))) (pD (.int .i64)) fun a k => ⟨[Q_w_markSymbolS a k], [⟨(.int .i64), .sh, F_w_markSymbolS a k⟩], [.mv (.sl (.pair .str (.pair (.int .i64) .unit))) (.ow (.pr .sh (.pr .sh .sh))) (B_w_markSymbolS_a a k)]⟩, [(.ow (.pr .sh (.pr .sh .sh)))], false, 0⟩
theorem ok_w_markSymbolS : ConOk pg 76 con_w_markSymbolS := ConOk.g2 (Enters.of (by kernel_rfl)) ct_w_markSymbolS

def F_w_markSignature (a : (List ((List Int) × (Int) × Unit)) × Unit) (k : Int) : Int := k + cnt false (.pair (.sl (.pair .str (.pair (.int .i64) .unit))) .unit) a
def B_w_markSignature_a (a : (List ((List Int) × (Int) × Unit)) × Unit) (k : Int) : (List ((List Int) × (Int) × Unit)) × Unit := mk false (.pair (.sl (.pair .str (.pair (.int .i64) .unit))) .unit) a k
def Q_w_markSignature (a : (List ((List Int) × (Int) × Unit)) × Unit) (k : Int) : Prop := 0 ≤ k ∧ k + cnt false (.pair (.sl (.pair .str (.pair (.int .i64) .unit))) .unit) a ≤ 4611686018427387904
def O_w_markSignature : Opt := ⟨fun i => false, fun i => [], fun i => .done, fun i => none, fun i => false, fun i => [], fun i => false, fun i => none⟩
def τ_w_markSignature : Env := Env.of [(3, (.int .i64)), (4, .bool), (28, (.sl (.pair .str (.pair (.int .i64) .unit)))), (30, (.pair (.sl (.pair .str (.pair (.int .i64) .unit))) .unit))] [] []

theorem ct_w_markSignature (a : (List ((List Int) × (Int) × Unit)) × Unit) (k : Int) : Ct pg 25 [.mv (.pair (.sl (.pair .str (.pair (.int .i64) .unit))) .unit) (.pr (.ow (.pr .sh (.pr .sh .sh))) .sh) a, .dat (.int .i64) k] ⟨[Q_w_markSignature a k], [⟨(.int .i64), .sh, F_w_markSignature a k⟩], [.mv (.pair (.sl (.pair .str (.pair (.int .i64) .unit))) .unit) (.pr (.ow (.pr .sh (.pr .sh .sh))) .sh) (B_w_markSignature_a a k)]⟩ := by
  refine ct_claim (O := O_w_markSignature) (τ := τ_w_markSignature) (EnvOk.of (by kernel_rfl) (by kernel_rfl)) (GOk.of (.cons ok_w_markSymbolS .nil : AllOk pg [(76, con_w_markSymbolS)])) mixed (Enters.of (by kernel_rfl)) (fn := Go.Proofs.Tryz.f25) (by kernel_rfl) rfl (by kernel_rfl) ?_
  intro hp hw
  have hq : Q_w_markSignature a k := hp _ (List.mem_singleton.2 rfl)
  clear hp
  change claim Lg.std Alg.std τ_w_markSignature (Gam.of [(76, ⟨true, g2 (pV (.sl (.pair .str (.pair (.int .i64) .unit))) (.ow (.pr .sh (.pr .sh .sh)))) (pD (.int .i64)) fun a k => ⟨[Q_w_markSymbolS a k], [⟨(.int .i64), .sh, F_w_markSymbolS a k⟩], [.mv (.sl (.pair .str (.pair (.int .i64) .unit))) (.ow (.pr .sh (.pr .sh .sh))) (B_w_markSymbolS_a a k)]⟩, [(.ow (.pr .sh (.pr .sh .sh)))], false, 0⟩)]) O_w_markSignature Go.Proofs.Tryz.f25 [.mv (.pair (.sl (.pair .str (.pair (.int .i64) .unit))) .unit) (.pr (.ow (.pr .sh (.pr .sh .sh))) .sh) a, .dat (.int .i64) k] ⟨[Q_w_markSignature a k], [⟨(.int .i64), .sh, F_w_markSignature a k⟩], [.mv (.pair (.sl (.pair .str (.pair (.int .i64) .unit))) .unit) (.pr (.ow (.pr .sh (.pr .sh .sh))) .sh) (B_w_markSignature_a a k)]⟩
  generalize hg_F_w_markSymbolS : F_w_markSymbolS = g_F_w_markSymbolS
  generalize hg_B_w_markSymbolS_a : B_w_markSymbolS_a = g_B_w_markSymbolS_a
  generalize hg_Q_w_markSymbolS : Q_w_markSymbolS = g_Q_w_markSymbolS
  generalize hR0 : F_w_markSignature a k = R0
  generalize hB_a : B_w_markSignature_a a k = B_a
  generalize Q_w_markSignature a k = Q0
  generalize hL : Lg.std = L
  generalize hA : Alg.std = A
  cbv
  subst hL hA
  try dsimp only [Ty.den]
  obtain ⟨f0, ⟨⟩⟩ := a
  simp only [Q_w_markSignature] at hq
  subst hR0 hB_a hg_F_w_markSymbolS hg_B_w_markSymbolS_a hg_Q_w_markSymbolS
  simp only [Lg.std, Alg.std, List.drop_zero, List.take_length, F_w_markSymbolS, B_w_markSymbolS_a, Q_w_markSymbolS, F_w_markSignature, B_w_markSignature_a, szf, tot_p, tot_u, tot_i, tot_b, tot_s, cnt_p, cnt_u, cnt_i0, cnt_b0, cnt_s0, cnt_i1, cnt_b1, cnt_s1, cnt_l, mk_p, mk_u, mk_i0, mk_b0, mk_s0, mk_i1, mk_s1, mk_l, hd_p, hd_u, hd_i0, hd_b0, hd_s0, hd_i1, hd_b1, hd_s1, hd_l] at *
  all_goals grind [mk_len]
def con_w_markSignature : Con := ⟨true, g2 (pV (.pair (.sl (.pair .str (.pair (.int .i64) .unit))) .unit) (.pr (.ow (.pr .sh (.pr .sh .sh))) .sh)) (pD (.int .i64)) fun a k => ⟨[Q_w_markSignature a k], [⟨(.int .i64), .sh, F_w_markSignature a k⟩], [.mv (.pair (.sl (.pair .str (.pair (.int .i64) .unit))) .unit) (.pr (.ow (.pr .sh (.pr .sh .sh))) .sh) (B_w_markSignature_a a k)]⟩, [(.pr (.ow (.pr .sh (.pr .sh .sh))) .sh)], false, 0⟩
theorem ok_w_markSignature : ConOk pg 25 con_w_markSignature := ConOk.g2 (Enters.of (by kernel_rfl)) ct_w_markSignature

def F_w_markSuper (a : (Int) × (Int) × (Int) × (Int) × (Int) × (Int) × (Bool) × (List (Int)) × ((List ((List Int) × (Int) × Unit)) × Unit) × Unit) (k : Int) : Int := k + cnt false (.pair (.int .i64) (.pair (.int .i64) (.pair (.int .i64) (.pair (.int .i64) (.pair (.int .i64) (.pair (.int .i64) (.pair .bool (.pair (.sl (.int .u8)) (.pair (.pair (.sl (.pair .str (.pair (.int .i64) .unit))) .unit) .unit))))))))) a
def B_w_markSuper_a (a : (Int) × (Int) × (Int) × (Int) × (Int) × (Int) × (Bool) × (List (Int)) × ((List ((List Int) × (Int) × Unit)) × Unit) × Unit) (k : Int) : (Int) × (Int) × (Int) × (Int) × (Int) × (Int) × (Bool) × (List (Int)) × ((List ((List Int) × (Int) × Unit)) × Unit) × Unit := mk false (.pair (.int .i64) (.pair (.int .i64) (.pair (.int .i64) (.pair (.int .i64) (.pair (.int .i64) (.pair (.int .i64) (.pair .bool (.pair (.sl (.int .u8)) (.pair (.pair (.sl (.pair .str (.pair (.int .i64) .unit))) .unit) .unit))))))))) a k
def Q_w_markSuper (a : (Int) × (Int) × (Int) × (Int) × (Int) × (Int) × (Bool) × (List (Int)) × ((List ((List Int) × (Int) × Unit)) × Unit) × Unit) (k : Int) : Prop := 0 ≤ k ∧ k + cnt false (.pair (.int .i64) (.pair (.int .i64) (.pair (.int .i64) (.pair (.int .i64) (.pair (.int .i64) (.pair (.int .i64) (.pair .bool (.pair (.sl (.int .u8)) (.pair (.pair (.sl (.pair .str (.pair (.int .i64) .unit))) .unit) .unit))))))))) a ≤ 4611686018427387904
def O_w_markSuper : Opt := ⟨fun i => false, fun i => [], fun i => .done, fun i => none, fun i => false, fun i => [], fun i => false, fun i => none⟩
def τ_w_markSuper : Env := Env.of [(3, (.int .i64)), (4, .bool), (27, (.sl (.int .u8))), (30, (.pair (.sl (.pair .str (.pair (.int .i64) .unit))) .unit)), (32, (.pair (.int .i64) (.pair (.int .i64) (.pair (.int .i64) (.pair (.int .i64) (.pair (.int .i64) (.pair (.int .i64) (.pair .bool (.pair (.sl (.int .u8)) (.pair (.pair (.sl (.pair .str (.pair (.int .i64) .unit))) .unit) .unit))))))))))] [] []

theorem ct_w_markSuper (a : (Int) × (Int) × (Int) × (Int) × (Int) × (Int) × (Bool) × (List (Int)) × ((List ((List Int) × (Int) × Unit)) × Unit) × Unit) (k : Int) : Ct pg 39 [.mv (.pair (.int .i64) (.pair (.int .i64) (.pair (.int .i64) (.pair (.int .i64) (.pair (.int .i64) (.pair (.int .i64) (.pair .bool (.pair (.sl (.int .u8)) (.pair (.pair (.sl (.pair .str (.pair (.int .i64) .unit))) .unit) .unit))))))))) (.pr .sh (.pr .sh (.pr .sh (.pr .sh (.pr .sh (.pr .sh (.pr .sh (.pr (.ow .sh) (.pr (.pr (.ow (.pr .sh (.pr .sh .sh))) .sh) .sh))))))))) a, .dat (.int .i64) k] ⟨[Q_w_markSuper a k], [⟨(.int .i64), .sh, F_w_markSuper a k⟩], [.mv (.pair (.int .i64) (.pair (.int .i64) (.pair (.int .i64) (.pair (.int .i64) (.pair (.int .i64) (.pair (.int .i64) (.pair .bool (.pair (.sl (.int .u8)) (.pair (.pair (.sl (.pair .str (.pair (.int .i64) .unit))) .unit) .unit))))))))) (.pr .sh (.pr .sh (.pr .sh (.pr .sh (.pr .sh (.pr .sh (.pr .sh (.pr (.ow .sh) (.pr (.pr (.ow (.pr .sh (.pr .sh .sh))) .sh) .sh))))))))) (B_w_markSuper_a a k)]⟩ := by
  refine ct_claim (O := O_w_markSuper) (τ := τ_w_markSuper) (EnvOk.of (by kernel_rfl) (by kernel_rfl)) (GOk.of (.cons ok_w_markByteS (.cons ok_w_markSignature .nil) : AllOk pg [(26, con_w_markByteS), (25, con_w_markSignature)])) mixed (Enters.of (by kernel_rfl)) (fn := Go.Proofs.Tryz.f39) (by kernel_rfl) rfl (by kernel_rfl) ?_
  intro hp hw
  have hq : Q_w_markSuper a k := hp _ (List.mem_singleton.2 rfl)
  clear hp
  change claim Lg.std Alg.std τ_w_markSuper (Gam.of [(26, ⟨true, g2 (pV (.sl (.int .u8)) (.ow .sh)) (pD (.int .i64)) fun a k => ⟨[Q_w_markByteS a k], [⟨(.int .i64), .sh, F_w_markByteS a k⟩], [.mv (.sl (.int .u8)) (.ow .sh) (B_w_markByteS_a a k)]⟩, [(.ow .sh)], false, 0⟩), (25, ⟨true, g2 (pV (.pair (.sl (.pair .str (.pair (.int .i64) .unit))) .unit) (.pr (.ow (.pr .sh (.pr .sh .sh))) .sh)) (pD (.int .i64)) fun a k => ⟨[Q_w_markSignature a k], [⟨(.int .i64), .sh, F_w_markSignature a k⟩], [.mv (.pair (.sl (.pair .str (.pair (.int .i64) .unit))) .unit) (.pr (.ow (.pr .sh (.pr .sh .sh))) .sh) (B_w_markSignature_a a k)]⟩, [(.pr (.ow (.pr .sh (.pr .sh .sh))) .sh)], false, 0⟩)]) O_w_markSuper Go.Proofs.Tryz.f39 [.mv (.pair (.int .i64) (.pair (.int .i64) (.pair (.int .i64) (.pair (.int .i64) (.pair (.int .i64) (.pair (.int .i64) (.pair .bool (.pair (.sl (.int .u8)) (.pair (.pair (.sl (.pair .str (.pair (.int .i64) .unit))) .unit) .unit))))))))) (.pr .sh (.pr .sh (.pr .sh (.pr .sh (.pr .sh (.pr .sh (.pr .sh (.pr (.ow .sh) (.pr (.pr (.ow (.pr .sh (.pr .sh .sh))) .sh) .sh))))))))) a, .dat (.int .i64) k] ⟨[Q_w_markSuper a k], [⟨(.int .i64), .sh, F_w_markSuper a k⟩], [.mv (.pair (.int .i64) (.pair (.int .i64) (.pair (.int .i64) (.pair (.int .i64) (.pair (.int .i64) (.pair (.int .i64) (.pair .bool (.pair (.sl (.int .u8)) (.pair (.pair (.sl (.pair .str (.pair (.int .i64) .unit))) .unit) .unit))))))))) (.pr .sh (.pr .sh (.pr .sh (.pr .sh (.pr .sh (.pr .sh (.pr .sh (.pr (.ow .sh) (.pr (.pr (.ow (.pr .sh (.pr .sh .sh))) .sh) .sh))))))))) (B_w_markSuper_a a k)]⟩
  generalize hg_F_w_markByteS : F_w_markByteS = g_F_w_markByteS
  generalize hg_B_w_markByteS_a : B_w_markByteS_a = g_B_w_markByteS_a
  generalize hg_Q_w_markByteS : Q_w_markByteS = g_Q_w_markByteS
  generalize hg_F_w_markSignature : F_w_markSignature = g_F_w_markSignature
  generalize hg_B_w_markSignature_a : B_w_markSignature_a = g_B_w_markSignature_a
  generalize hg_Q_w_markSignature : Q_w_markSignature = g_Q_w_markSignature
  generalize hR0 : F_w_markSuper a k = R0
  generalize hB_a : B_w_markSuper_a a k = B_a
  generalize Q_w_markSuper a k = Q0
  generalize hL : Lg.std = L
  generalize hA : Alg.std = A
  cbv
  subst hL hA
  try dsimp only [Ty.den]
  obtain ⟨f0, f1, f2, f3, f4, f5, f6, f7, f8, ⟨⟩⟩ := a
  simp only [Q_w_markSuper] at hq
  subst hR0 hB_a hg_F_w_markByteS hg_B_w_markByteS_a hg_Q_w_markByteS hg_F_w_markSignature hg_B_w_markSignature_a hg_Q_w_markSignature
  simp only [Lg.std, Alg.std, List.drop_zero, List.take_length, F_w_markByteS, F_w_markSignature, B_w_markByteS_a, B_w_markSignature_a, Q_w_markByteS, Q_w_markSignature, F_w_markSuper, B_w_markSuper_a, szf, tot_p, tot_u, tot_i, tot_b, tot_s, cnt_p, cnt_u, cnt_i0, cnt_b0, cnt_s0, cnt_i1, cnt_b1, cnt_s1, cnt_l, mk_p, mk_u, mk_i0, mk_b0, mk_s0, mk_i1, mk_s1, mk_l, hd_p, hd_u, hd_i0, hd_b0, hd_s0, hd_i1, hd_b1, hd_s1, hd_l] at *
  all_goals grind [mk_len]
def con_w_markSuper : Con := ⟨true, g2 (pV (.pair (.int .i64) (.pair (.int .i64) (.pair (.int .i64) (.pair (.int .i64) (.pair (.int .i64) (.pair (.int .i64) (.pair .bool (.pair (.sl (.int .u8)) (.pair (.pair (.sl (.pair .str (.pair (.int .i64) .unit))) .unit) .unit))))))))) (.pr .sh (.pr .sh (.pr .sh (.pr .sh (.pr .sh (.pr .sh (.pr .sh (.pr (.ow .sh) (.pr (.pr (.ow (.pr .sh (.pr .sh .sh))) .sh) .sh)))))))))) (pD (.int .i64)) fun a k => ⟨[Q_w_markSuper a k], [⟨(.int .i64), .sh, F_w_markSuper a k⟩], [.mv (.pair (.int .i64) (.pair (.int .i64) (.pair (.int .i64) (.pair (.int .i64) (.pair (.int .i64) (.pair (.int .i64) (.pair .bool (.pair (.sl (.int .u8)) (.pair (.pair (.sl (.pair .str (.pair (.int .i64) .unit))) .unit) .unit))))))))) (.pr .sh (.pr .sh (.pr .sh (.pr .sh (.pr .sh (.pr .sh (.pr .sh (.pr (.ow .sh) (.pr (.pr (.ow (.pr .sh (.pr .sh .sh))) .sh) .sh))))))))) (B_w_markSuper_a a k)]⟩, [(.pr .sh (.pr .sh (.pr .sh (.pr .sh (.pr .sh (.pr .sh (.pr .sh (.pr (.ow .sh) (.pr (.pr (.ow (.pr .sh (.pr .sh .sh))) .sh) .sh)))))))))], false, 0⟩
theorem ok_w_markSuper : ConOk pg 39 con_w_markSuper := ConOk.g2 (Enters.of (by kernel_rfl)) ct_w_markSuper

def F_i_PackSignature (s : (List ((List Int) × (Int) × Unit)) × Unit) : (Int) × (List (Int)) × Unit := if sigFault s = 0 then (0, packSig s, ()) else (sigFault s, [], ())
def Q_i_PackSignature (s : (List ((List Int) × (Int) × Unit)) × Unit) : Prop := True
def O_i_PackSignature : Opt := ⟨fun i => false, fun i => (match decide (i = 6) with | true => [false, false, true, false, true, false, false, false, false, false, false, false, false, false, false, false, false, false, false, true, true, true, false, false, false, false, false, false, false, false, false, false, false, false, false, false, false, false, false, false, false, false, false] | false => []), fun i => (match decide (i = 8) with | true => (.take 0 (.take 1 (.take 7 (.take 10 (.alt 2 (.take 3 (.take 4 (.alt 5 (.alt 6 (.alt 8 (.alt 9 (.alt 11 (.take 12 (.alt 13 (.alt 14 (.take 15 .done) .no) .no)) .no) (.alt 11 (.take 12 (.alt 9 (.alt 13 (.alt 14 (.take 15 .done) .no) .no) (.alt 13 (.alt 9 (.alt 14 (.take 15 .done) .no) .no) .no))) .no)) (.alt 11 (.take 12 (.alt 8 (.alt 9 (.alt 13 (.alt 14 (.take 15 .done) .no) .no) (.alt 13 (.alt 9 (.alt 14 (.take 15 .done) .no) .no) .no)) (.alt 13 (.alt 8 (.alt 9 (.alt 14 (.take 15 .done) .no) .no) .no) .no))) .no)) (.alt 8 (.alt 6 (.alt 9 (.alt 11 (.take 12 (.alt 13 (.alt 14 (.take 15 .done) .no) .no)) .no) (.alt 11 (.take 12 (.alt 9 (.alt 13 (.alt 14 (.take 15 .done) .no) .no) (.alt 13 (.alt 9 (.alt 14 (.take 15 .done) .no) .no) .no))) .no)) (.alt 11 (.take 12 (.alt 6 (.alt 9 (.alt 13 (.alt 14 (.take 15 .done) .no) .no) (.alt 13 (.alt 9 (.alt 14 (.take 15 .done) .no) .no) .no)) (.alt 13 (.alt 6 (.alt 9 (.alt 14 (.take 15 .done) .no) .no) .no) .no))) .no)) (.alt 11 (.take 12 (.alt 6 (.alt 8 (.alt 9 (.alt 13 (.alt 14 (.take 15 .done) .no) .no) (.alt 13 (.alt 9 (.alt 14 (.take 15 .done) .no) .no) .no)) (.alt 13 (.alt 8 (.alt 9 (.alt 14 (.take 15 .done) .no) .no) .no) .no)) (.alt 8 (.alt 6 (.alt 9 (.alt 13 (.alt 14 (.take 15 .done) .no) .no) (.alt 13 (.alt 9 (.alt 14 (.take 15 .done) .no) .no) .no)) (.alt 13 (.alt 6 (.alt 9 (.alt 14 (.take 15 .done) .no) .no) .no) .no)) (.alt 13 (.alt 6 (.alt 8 (.alt 9 (.alt 14 (.take 15 .done) .no) .no) .no) (.alt 8 (.alt 6 (.alt 9 (.alt 14 (.take 15 .done) .no) .no) .no) .no)) .no)))) .no))) (.alt 8 (.alt 5 (.alt 6 (.alt 9 (.alt 11 (.take 12 (.alt 13 (.alt 14 (.take 15 .done) .no) .no)) .no) (.alt 11 (.take 12 (.alt 9 (.alt 13 (.alt 14 (.take 15 .done) .no) .no) (.alt 13 (.alt 9 (.alt 14 (.take 15 .done) .no) .no) .no))) .no)) (.alt 11 (.take 12 (.alt 6 (.alt 9 (.alt 13 (.alt 14 (.take 15 .done) .no) .no) (.alt 13 (.alt 9 (.alt 14 (.take 15 .done) .no) .no) .no)) (.alt 13 (.alt 6 (.alt 9 (.alt 14 (.take 15 .done) .no) .no) .no) .no))) .no)) (.alt 11 (.take 12 (.alt 5 (.alt 6 (.alt 9 (.alt 13 (.alt 14 (.take 15 .done) .no) .no) (.alt 13 (.alt 9 (.alt 14 (.take 15 .done) .no) .no) .no)) (.alt 13 (.alt 6 (.alt 9 (.alt 14 (.take 15 .done) .no) .no) .no) .no)) (.alt 13 (.alt 5 (.alt 6 (.alt 9 (.alt 14 (.take 15 .done) .no) .no) .no) .no) .no))) .no)) (.alt 11 (.take 12 (.alt 5 (.alt 6 (.alt 8 (.alt 9 (.alt 13 (.alt 14 (.take 15 .done) .no) .no) (.alt 13 (.alt 9 (.alt 14 (.take 15 .done) .no) .no) .no)) (.alt 13 (.alt 8 (.alt 9 (.alt 14 (.take 15 .done) .no) .no) .no) .no)) (.alt 8 (.alt 6 (.alt 9 (.alt 13 (.alt 14 (.take 15 .done) .no) .no) (.alt 13 (.alt 9 (.alt 14 (.take 15 .done) .no) .no) .no)) (.alt 13 (.alt 6 (.alt 9 (.alt 14 (.take 15 .done) .no) .no) .no) .no)) (.alt 13 (.alt 6 (.alt 8 (.alt 9 (.alt 14 (.take 15 .done) .no) .no) .no) (.alt 8 (.alt 6 (.alt 9 (.alt 14 (.take 15 .done) .no) .no) .no) .no)) .no))) (.alt 8 (.alt 5 (.alt 6 (.alt 9 (.alt 13 (.alt 14 (.take 15 .done) .no) .no) (.alt 13 (.alt 9 (.alt 14 (.take 15 .done) .no) .no) .no)) (.alt 13 (.alt 6 (.alt 9 (.alt 14 (.take 15 .done) .no) .no) .no) .no)) (.alt 13 (.alt 5 (.alt 6 (.alt 9 (.alt 14 (.take 15 .done) .no) .no) .no) .no) .no)) (.alt 13 (.alt 5 (.alt 6 (.alt 8 (.alt 9 (.alt 14 (.take 15 .done) .no) .no) .no) (.alt 8 (.alt 6 (.alt 9 (.alt 14 (.take 15 .done) .no) .no) .no) .no)) (.alt 8 (.alt 5 (.alt 6 (.alt 9 (.alt 14 (.take 15 .done) .no) .no) .no) .no) .no)) .no)))) .no))))) (.alt 8 (.alt 2 (.take 3 (.take 4 (.alt 5 (.alt 6 (.alt 9 (.alt 11 (.take 12 (.alt 13 (.alt 14 (.take 15 .done) .no) .no)) .no) (.alt 11 (.take 12 (.alt 9 (.alt 13 (.alt 14 (.take 15 .done) .no) .no) (.alt 13 (.alt 9 (.alt 14 (.take 15 .done) .no) .no) .no))) .no)) (.alt 11 (.take 12 (.alt 6 (.alt 9 (.alt 13 (.alt 14 (.take 15 .done) .no) .no) (.alt 13 (.alt 9 (.alt 14 (.take 15 .done) .no) .no) .no)) (.alt 13 (.alt 6 (.alt 9 (.alt 14 (.take 15 .done) .no) .no) .no) .no))) .no)) (.alt 11 (.take 12 (.alt 5 (.alt 6 (.alt 9 (.alt 13 (.alt 14 (.take 15 .done) .no) .no) (.alt 13 (.alt 9 (.alt 14 (.take 15 .done) .no) .no) .no)) (.alt 13 (.alt 6 (.alt 9 (.alt 14 (.take 15 .done) .no) .no) .no) .no)) (.alt 13 (.alt 5 (.alt 6 (.alt 9 (.alt 14 (.take 15 .done) .no) .no) .no) .no) .no))) .no)))) (.alt 11 (.take 12 (.alt 2 (.take 3 (.take 4 (.alt 5 (.alt 6 (.alt 9 (.alt 13 (.alt 14 (.take 15 .done) .no) .no) (.alt 13 (.alt 9 (.alt 14 (.take 15 .done) .no) .no) .no)) (.alt 13 (.alt 6 (.alt 9 (.alt 14 (.take 15 .done) .no) .no) .no) .no)) (.alt 13 (.alt 5 (.alt 6 (.alt 9 (.alt 14 (.take 15 .done) .no) .no) .no) .no) .no)))) (.alt 13 (.alt 2 (.take 3 (.take 4 (.alt 5 (.alt 6 (.alt 9 (.alt 14 (.take 15 .done) .no) .no) .no) .no))) .no) .no))) .no)) (.alt 11 (.take 12 (.alt 2 (.take 3 (.take 4 (.alt 5 (.alt 6 (.alt 8 (.alt 9 (.alt 13 (.alt 14 (.take 15 .done) .no) .no) (.alt 13 (.alt 9 (.alt 14 (.take 15 .done) .no) .no) .no)) (.alt 13 (.alt 8 (.alt 9 (.alt 14 (.take 15 .done) .no) .no) .no) .no)) (.alt 8 (.alt 6 (.alt 9 (.alt 13 (.alt 14 (.take 15 .done) .no) .no) (.alt 13 (.alt 9 (.alt 14 (.take 15 .done) .no) .no) .no)) (.alt 13 (.alt 6 (.alt 9 (.alt 14 (.take 15 .done) .no) .no) .no) .no)) (.alt 13 (.alt 6 (.alt 8 (.alt 9 (.alt 14 (.take 15 .done) .no) .no) .no) (.alt 8 (.alt 6 (.alt 9 (.alt 14 (.take 15 .done) .no) .no) .no) .no)) .no))) (.alt 8 (.alt 5 (.alt 6 (.alt 9 (.alt 13 (.alt 14 (.take 15 .done) .no) .no) (.alt 13 (.alt 9 (.alt 14 (.take 15 .done) .no) .no) .no)) (.alt 13 (.alt 6 (.alt 9 (.alt 14 (.take 15 .done) .no) .no) .no) .no)) (.alt 13 (.alt 5 (.alt 6 (.alt 9 (.alt 14 (.take 15 .done) .no) .no) .no) .no) .no)) (.alt 13 (.alt 5 (.alt 6 (.alt 8 (.alt 9 (.alt 14 (.take 15 .done) .no) .no) .no) (.alt 8 (.alt 6 (.alt 9 (.alt 14 (.take 15 .done) .no) .no) .no) .no)) (.alt 8 (.alt 5 (.alt 6 (.alt 9 (.alt 14 (.take 15 .done) .no) .no) .no) .no) .no)) .no))))) (.alt 8 (.alt 2 (.take 3 (.take 4 (.alt 5 (.alt 6 (.alt 9 (.alt 13 (.alt 14 (.take 15 .done) .no) .no) (.alt 13 (.alt 9 (.alt 14 (.take 15 .done) .no) .no) .no)) (.alt 13 (.alt 6 (.alt 9 (.alt 14 (.take 15 .done) .no) .no) .no) .no)) (.alt 13 (.alt 5 (.alt 6 (.alt 9 (.alt 14 (.take 15 .done) .no) .no) .no) .no) .no)))) (.alt 13 (.alt 2 (.take 3 (.take 4 (.alt 5 (.alt 6 (.alt 9 (.alt 14 (.take 15 .done) .no) .no) .no) .no))) .no) .no)) (.alt 13 (.alt 2 (.take 3 (.take 4 (.alt 5 (.alt 6 (.alt 8 (.alt 9 (.alt 14 (.take 15 .done) .no) .no) .no) (.alt 8 (.alt 6 (.alt 9 (.alt 14 (.take 15 .done) .no) .no) .no) .no)) (.alt 8 (.alt 5 (.alt 6 (.alt 9 (.alt 14 (.take 15 .done) .no) .no) .no) .no) .no)))) (.alt 8 (.alt 2 (.take 3 (.take 4 (.alt 5 (.alt 6 (.alt 9 (.alt 14 (.take 15 .done) .no) .no) .no) .no))) .no) .no)) .no)))) .no))))))) | false => .done), fun i => (match decide (i = 8) with | true => some [false, false, true, false, true, false, false, false, false, false, false, false, false, false, false, false, false, false, false, true, true, true, false, false, false, false, false, false, false, false, false, false, false, false, false, false, false, false, false, false, false, false, false] | false => none), fun i => false, fun i => [], fun i => false, fun i => none⟩
def τ_i_PackSignature : Env := Env.of [(2, (.int .i64)), (3, (.int .i64)), (4, .bool), (5, (.int .u8)), (9, .str), (27, (.sl (.int .u8))), (28, (.sl (.pair .str (.pair (.int .i64) .unit)))), (30, (.pair (.sl (.pair .str (.pair (.int .i64) .unit))) .unit)), (141, (.pair (.int .i64) (.pair (.sl (.int .u8)) .unit))), (175, (.pair .str (.pair (.int .i64) .unit)))] [] []

theorem ct_i_PackSignature (s : (List ((List Int) × (Int) × Unit)) × Unit) : Ct pg 186 [.dat (.pair (.sl (.pair .str (.pair (.int .i64) .unit))) .unit) s] ⟨[Q_i_PackSignature s], [⟨(.pair (.int .i64) (.pair (.sl (.int .u8)) .unit)), (.pr .sh (.pr (.ow .sh) .sh)), F_i_PackSignature s⟩], []⟩ := by
  refine ct_claim (O := O_i_PackSignature) (τ := τ_i_PackSignature) (EnvOk.of (by kernel_rfl) (by kernel_rfl)) (GOk.of (.cons ok_i_SignatureFault .nil : AllOk pg [(69, con_i_SignatureFault)])) mixed (Enters.of (by kernel_rfl)) (fn := Go.Proofs.Tryz.f186) (by kernel_rfl) rfl (by kernel_rfl) ?_
  intro hp hw
  have hq : Q_i_PackSignature s := hp _ (List.mem_singleton.2 rfl)
  clear hp
  change claim Lg.std Alg.std τ_i_PackSignature (Gam.of [(69, ⟨true, g1 (pD (.pair (.sl (.pair .str (.pair (.int .i64) .unit))) .unit)) fun s => ⟨[Q_i_SignatureFault s], [⟨(.int .i64), .sh, F_i_SignatureFault s⟩], []⟩, [], false, 0⟩)]) O_i_PackSignature Go.Proofs.Tryz.f186 [.dat (.pair (.sl (.pair .str (.pair (.int .i64) .unit))) .unit) s] ⟨[Q_i_PackSignature s], [⟨(.pair (.int .i64) (.pair (.sl (.int .u8)) .unit)), (.pr .sh (.pr (.ow .sh) .sh)), F_i_PackSignature s⟩], []⟩
  generalize hg_F_i_SignatureFault : F_i_SignatureFault = g_F_i_SignatureFault
  generalize hg_Q_i_SignatureFault : Q_i_SignatureFault = g_Q_i_SignatureFault
  generalize hR0 : F_i_PackSignature s = R0
  generalize Q_i_PackSignature s = Q0
  generalize hL : Lg.std = L
  generalize hA : Alg.std = A
  cbv
  subst hL hA
  try dsimp only [Ty.den]
  obtain ⟨s_0, ⟨⟩⟩ := s
  have hgood0 : sigFault (s_0, ()) = 0 ∨ sigFault (s_0, ()) ≠ 0 := Classical.em _
  repeat' (first | intro _ | apply And.intro)
  all_goals first | trivial | ((fail_if_success (refine lp_v (V := Unit) (fun _ => ⟨[], []⟩) (fun _ => True) (fun _ => 0) () ?_ ?_ ?_)); subst hR0 hg_F_i_SignatureFault hg_Q_i_SignatureFault; (try simp only [Alg.std, F_i_SignatureFault, Q_i_SignatureFault, F_i_PackSignature] at *); all_goals grind) | skip
  all_goals (
    refine lp_v (V := (Int) × (Int) × (Nat) × (List Int)) (fun ((i, M, N, xs) : (Int) × (Int) × (Nat) × (List Int)) => ⟨[.junk, .junk, .bptr 0 0, .junk, .ref (.int .u8) 1 0 [] 0 N, .junk, .junk, .junk, .junk, .junk, .junk, .junk, .junk, .junk, .junk, .junk, .junk, .junk, .junk, .dat (.sl (.pair .str (.pair (.int .i64) .unit))) s_0, .dat (.int .i64) M, .dat (.int .i64) i, .junk, .junk, .junk, .junk, .junk, .junk, .junk, .junk, .junk, .junk, .junk, .junk, .junk, .junk, .junk, .junk, .junk, .junk, .junk, .junk, .junk], [some (.box [.dat (.int .i64) 0, .nilS]), some (.row 0 (.int .u8) .sh xs)]⟩) (fun ((i, M, N, xs) : (Int) × (Int) × (Nat) × (List Int)) => M = s_0.length ∧ N = xs.length ∧ 0 ≤ i ∧ i ≤ s_0.length ∧ xs.length ≤ 1 + 5 * i ∧ xs ++ packSyms (s_0.drop i.toNat) = packSig (s_0, ()) ∧ sigFault (s_0, ()) = 0) (fun ((i, M, N, xs) : (Int) × (Int) × (Nat) × (List Int)) => s_0.length - i.toNat) (0, _, _, _) rfl ?_ ?_
    · (subst_vars; simp [Alg.std, wrap8, packSig, F_i_SignatureFault, Q_i_SignatureFault, F_i_PackSignature] at *; assumption)
    rintro ⟨i, M, N, xs⟩ hf I hI
    replace hf : M = s_0.length ∧ N = xs.length ∧ 0 ≤ i ∧ i ≤ s_0.length ∧ xs.length ≤ 1 + 5 * i ∧ xs ++ packSyms (s_0.drop i.toNat) = packSig (s_0, ()) ∧ sigFault (s_0, ()) = 0 := hf
    generalize hL : Lg.std = L
    generalize hA : Alg.std = A
    cbv
    subst hL hA
    try dsimp only [Ty.den]
    subst hI
    have hgood : sigFault (s_0, ()) = 0 := hf.2.2.2.2.2.2
    obtain ⟨h1, h2, h3, h4, h5, h6, h7⟩ := hf
    have hok := hgood
    have hl6 := (sig_good (s_0, ()) hok).1
    dsimp only at hl6
    have st := fun (h : i.toNat < s_0.length) => ps_step s_0 i.toNat h
    have en := fun (h : s_0.length ≤ i.toNat) => ps_end s_0 i.toNat h
    have ha := fun (h : i.toNat < s_0.length) => sig_at (s_0, ()) hok i.toNat h
    try dsimp only [symD] at st ha
    have hsu : (i + 1).toNat = i.toNat + 1 := by omega
    repeat' (first | intro _ | apply And.intro)
    all_goals first | (with_reducible exact True.intro) | ((fail_if_success (refine lp_v (V := Unit) (fun _ => ⟨[], []⟩) (fun _ => True) (fun _ => 0) () ?_ ?_ ?_)); (try simp only [Lg.std, Alg.std, List.drop_zero, List.take_length] at *); (try refine ⟨(_, _, _, _), rfl, ?_, ?_⟩); (all_goals (subst hR0 hg_F_i_SignatureFault hg_Q_i_SignatureFault; (try simp only [Lg.std, Alg.std, List.drop_zero, List.take_length, F_i_SignatureFault, Q_i_SignatureFault, F_i_PackSignature] at *); first | done | ((try generalize s_0.getD i.toNat (0, [], ()) = xa at *); (try obtain ⟨xa0, xa1, ⟨⟩⟩ := xa); (try dsimp only at *); grind [wrap8])))) | skip)
def con_i_PackSignature : Con := ⟨true, g1 (pD (.pair (.sl (.pair .str (.pair (.int .i64) .unit))) .unit)) fun s => ⟨[Q_i_PackSignature s], [⟨(.pair (.int .i64) (.pair (.sl (.int .u8)) .unit)), (.pr .sh (.pr (.ow .sh) .sh)), F_i_PackSignature s⟩], []⟩, [], false, 0⟩
theorem ok_i_PackSignature : ConOk pg 186 con_i_PackSignature := ConOk.g1 (Enters.of (by kernel_rfl)) ct_i_PackSignature

def F_s_l2Pack (s : (List ((List Int) × (Int) × Unit)) × Unit) : List (Int) := packSig s
def Q_s_l2Pack (s : (List ((List Int) × (Int) × Unit)) × Unit) : Prop := sigFault s = 0
def O_s_l2Pack : Opt := ⟨fun i => false, fun i => (match decide (i = 3) with | true => [true, false, false, true, true, false, false, false, false, false, false, false, false, false, false, false, false, false, false, false, false, false, false, false, false, false, false, false, false, false, false, false, false, false, false, false, false, false, false, false, false, false, false, false, false, false, false, false, false, false, false, false, false, false, false, false, false] | false => []), fun i => .done, fun i => none, fun i => false, fun i => [], fun i => false, fun i => none⟩
def τ_s_l2Pack : Env := Env.of [(2, (.int .i64)), (3, (.int .i64)), (4, .bool), (5, (.int .u8)), (9, .str), (27, (.sl (.int .u8))), (28, (.sl (.pair .str (.pair (.int .i64) .unit)))), (30, (.pair (.sl (.pair .str (.pair (.int .i64) .unit))) .unit)), (175, (.pair .str (.pair (.int .i64) .unit)))] [(113, (.pair (.sl (.pair .str (.pair (.int .i64) .unit))) .unit))] []

theorem ct_s_l2Pack (s : (List ((List Int) × (Int) × Unit)) × Unit) : Ct pg 199 [.dptr (.pair (.sl (.pair .str (.pair (.int .i64) .unit))) .unit) s] ⟨[Q_s_l2Pack s], [⟨(.sl (.int .u8)), (.ow .sh), F_s_l2Pack s⟩], []⟩ := by
  refine ct_claim (O := O_s_l2Pack) (τ := τ_s_l2Pack) (EnvOk.of (by kernel_rfl) (by kernel_rfl)) (GOk.of (.nil : AllOk pg [])) mixed (Enters.of (by kernel_rfl)) (fn := Go.Proofs.Tryz.f199) (by kernel_rfl) rfl (by kernel_rfl) ?_
  intro hp hw
  have hq : Q_s_l2Pack s := hp _ (List.mem_singleton.2 rfl)
  clear hp
  change claim Lg.std Alg.std τ_s_l2Pack (Gam.of []) O_s_l2Pack Go.Proofs.Tryz.f199 [.dptr (.pair (.sl (.pair .str (.pair (.int .i64) .unit))) .unit) s] ⟨[Q_s_l2Pack s], [⟨(.sl (.int .u8)), (.ow .sh), F_s_l2Pack s⟩], []⟩
  generalize hR0 : F_s_l2Pack s = R0
  generalize Q_s_l2Pack s = Q0
  generalize hL : Lg.std = L
  generalize hA : Alg.std = A
  cbv
  subst hL hA
  try dsimp only [Ty.den]
  obtain ⟨s_0, ⟨⟩⟩ := s
  simp only [Q_s_l2Pack] at hq
  refine lp_v (V := (Int) × (Nat) × (List Int)) (fun ((i, N, xs) : (Int) × (Nat) × (List Int)) => ⟨[.dptr (.pair (.sl (.pair .str (.pair (.int .i64) .unit))) .unit) (s_0, PUnit.unit), .junk, .junk, .ref (.int .u8) 0 0 [] 0 N, .dat (.int .i64) i, .junk, .junk, .junk, .junk, .junk, .junk, .junk, .junk, .junk, .junk, .junk, .junk, .junk, .junk, .junk, .junk, .junk, .junk, .junk, .junk, .junk, .junk, .junk, .junk, .junk, .junk, .junk, .junk, .junk, .junk, .junk, .junk, .junk, .junk, .junk, .junk, .junk, .junk, .junk, .junk, .junk, .junk, .junk, .junk, .junk, .junk, .junk, .junk, .junk, .junk, .junk, .junk], [some (.row 0 (.int .u8) .sh xs)]⟩) (fun ((i, N, xs) : (Int) × (Nat) × (List Int)) => N = xs.length ∧ 0 ≤ i ∧ i ≤ s_0.length ∧ xs.length ≤ 1 + 5 * i ∧ xs ++ packSyms (s_0.drop i.toNat) = packSig (s_0, ())) (fun ((i, N, xs) : (Int) × (Nat) × (List Int)) => s_0.length - i.toNat) (0, _, _) rfl ?_ ?_
  · simp [Alg.std, wrap8, packSig]
  rintro ⟨i, N, xs⟩ hf I hI
  replace hf : N = xs.length ∧ 0 ≤ i ∧ i ≤ s_0.length ∧ xs.length ≤ 1 + 5 * i ∧ xs ++ packSyms (s_0.drop i.toNat) = packSig (s_0, ()) := hf
  generalize hL : Lg.std = L
  generalize hA : Alg.std = A
  cbv
  subst hL hA
  try dsimp only [Ty.den]
  subst hI
  obtain ⟨h1, h2, h3, h4, h5⟩ := hf
  have hok := hq
  have hl6 := (sig_good (s_0, ()) hok).1
  dsimp only at hl6
  have st := fun (h : i.toNat < s_0.length) => ps_step s_0 i.toNat h
  have en := fun (h : s_0.length ≤ i.toNat) => ps_end s_0 i.toNat h
  have ha := fun (h : i.toNat < s_0.length) => sig_at (s_0, ()) hok i.toNat h
  try dsimp only [symD] at st ha
  have hsu : (i + 1).toNat = i.toNat + 1 := by omega
  repeat' (first | intro _ | apply And.intro)
  all_goals first | (with_reducible exact True.intro) | ((fail_if_success (refine lp_v (V := Unit) (fun _ => ⟨[], []⟩) (fun _ => True) (fun _ => 0) () ?_ ?_ ?_)); (try simp only [Lg.std, Alg.std, List.drop_zero, List.take_length] at *); (try refine ⟨(_, _, _), rfl, ?_, ?_⟩); (all_goals (subst hR0; (try simp only [Lg.std, Alg.std, List.drop_zero, List.take_length, F_s_l2Pack] at *); first | done | ((try generalize s_0.getD i.toNat (0, [], ()) = xa at *); (try obtain ⟨xa0, xa1, ⟨⟩⟩ := xa); (try dsimp only at *); grind [wrap8])))) | skip
def con_s_l2Pack : Con := ⟨true, g1 (pP (.pair (.sl (.pair .str (.pair (.int .i64) .unit))) .unit)) fun s => ⟨[Q_s_l2Pack s], [⟨(.sl (.int .u8)), (.ow .sh), F_s_l2Pack s⟩], []⟩, [], false, 0⟩
theorem ok_s_l2Pack : ConOk pg 199 con_s_l2Pack := ConOk.g1 (Enters.of (by kernel_rfl)) ct_s_l2Pack
end Go.Vee
