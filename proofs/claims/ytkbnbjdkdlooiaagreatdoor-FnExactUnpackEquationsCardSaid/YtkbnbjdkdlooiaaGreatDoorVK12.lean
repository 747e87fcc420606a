/-
  Contracts of functions of the program: what each returns for all arguments that its precondition lets in.
-/
import Derived.Test.YtkbnbjdkdlooiaaGreatDoorVK11
set_option linter.unusedSimpArgs false
set_option linter.unusedVariables false
set_option maxRecDepth 100000
set_option maxHeartbeats 4000000
set_option synthInstance.maxHeartbeats 4000000
set_option synthInstance.maxSize 20000000
namespace Go.Vee
open Go
theorem dig_len (n k : Int) (m : Nat) (h : n * 10 ^ m ≤ k) (hk : k ≤ 4611686018427387904) (hn : 0 < n) : m ≤ 18 := by
  have h1 : (10 : Int) ^ m ≤ n * 10 ^ m := by
    have : 0 < (10 : Int) ^ m := Int.pow_pos (by omega)
    have h2 : 1 * (10 : Int) ^ m ≤ n * 10 ^ m := Int.mul_le_mul_of_nonneg_right (by omega) (by omega)
    omega
  by_cases hm : m ≤ 18
  · exact hm
  · have h3 : (10 : Int) ^ 19 ≤ 10 ^ m := by
      have := Nat.pow_le_pow_right (n := 10) (by omega) (show 19 ≤ m by omega)
      exact_mod_cast this
    have h4 : (10 : Int) ^ 19 = 10000000000000000000 := by decide
    omega
theorem dig_step (n k : Int) (m : Nat) (h : n * 10 ^ m ≤ k) : (n / 10) * 10 ^ (m + 1) ≤ k := by
  have : (n / 10) * 10 ^ (m + 1) = (n / 10 * 10) * 10 ^ m := by rw [Int.pow_succ, Int.mul_comm ((10 : Int) ^ m) 10, Int.mul_assoc]
  rw [this]
  have h2 : 0 < (10 : Int) ^ m := Int.pow_pos (by omega)
  have h1 : (n / 10 * 10) * 10 ^ m ≤ n * 10 ^ m := Int.mul_le_mul_of_nonneg_right (by omega) (by omega)
  omega
theorem dig_wrap (n : Int) : IntKind.u8.wrap (n % 10 + 48) = 48 + n % 10 := by rw [wrap8]; omega
theorem symBad_ok : ∀ (l : List SymT), symBad l = 0 → ∀ x ∈ l, nameOk x.1 = true ∧ 0 ≤ x.2.1 ∧ x.2.1 ≤ 2
  | [], _, x, hx => by cases hx
  | y :: l, h, x, hx => by
    unfold symBad at h
    split at h
    · cases h
    rename_i h1
    split at h
    · cases h
    rename_i h2
    rcases List.mem_cons.1 hx with rfl | hx
    · exact ⟨by simpa using h1, by omega, by omega⟩
    · exact symBad_ok l h x hx
theorem sig_good (s : SigT) (h : sigFault s = 0) : (1 ≤ s.1.length ∧ s.1.length ≤ 6) ∧ ∀ x ∈ s.1, nameOk x.1 = true ∧ 0 ≤ x.2.1 ∧ x.2.1 ≤ 2 := by
  unfold sigFault at h
  split at h
  · cases h
  rename_i h1
  split at h
  · rename_i h2; exact absurd h h2
  rename_i h2
  exact ⟨Decidable.not_not.1 h1, symBad_ok s.1 (Decidable.not_not.1 h2)⟩
theorem rdNext_bytes (x : List Int) (f : Bool) (n : Int) (x1 : List Int) (f1 : Bool) (g : rdNext (x, f, ()) n = (x1, f1, ())) (h : ∀ y ∈ x, 0 ≤ y ∧ y ≤ 255) : ∀ y ∈ x1, 0 ≤ y ∧ y ≤ 255 := by
  rcases rdNext_cases _ _ _ _ _ g with ⟨_, rfl, _⟩ | ⟨_, _, rfl, _⟩
  · exact h
  · exact byte_drop x _ h
theorem rdOne_cons (x : Int) (l : List Int) : rdOne (x :: l, false, ()) = x := by
  rw [rdOne_good _ (by simp; omega)]; rfl
theorem rdNext_cons (x : Int) (l : List Int) : rdNext (x :: l, false, ()) 1 = (l, false, ()) := by
  unfold rdNext rdBad
  rw [if_neg (by simp; omega)]
  rfl

def F_w_markText (k : Int) : List Int := markText k
def Q_w_markText (k : Int) : Prop := k ≤ 4611686018427387904
def O_w_markText : Opt := ⟨fun i => false, fun i => (match decide (i = 4) with | true => [true, false, false, true, false, false, false, false, false, false, false, false, false, false, false, false, false, false, false, false] | false => []), fun i => .done, fun i => none, fun i => false, fun i => [], fun i => false, fun i => none⟩
def τ_w_markText : Env := Env.of [(2, (.int .i64)), (3, (.int .i64)), (4, .bool), (5, (.int .u8)), (9, .str), (27, (.sl (.int .u8)))] [] []

theorem ct_w_markText (k : Int) : Ct pg 140 [.dat (.int .i64) k] ⟨[Q_w_markText k], [⟨.str, .sh, F_w_markText k⟩], []⟩ := by
  refine ct_claim (O := O_w_markText) (τ := τ_w_markText) (EnvOk.of (by kernel_rfl) (by kernel_rfl)) (GOk.of (.nil : AllOk pg [])) mixed (Enters.of (by kernel_rfl)) (fn := Go.Proofs.Tryz.f140) (by kernel_rfl) rfl (by kernel_rfl) ?_
  intro hp hw
  have hq : Q_w_markText k := hp _ (List.mem_singleton.2 rfl)
  clear hp
  change claim Lg.std Alg.std τ_w_markText (Gam.of []) O_w_markText Go.Proofs.Tryz.f140 [.dat (.int .i64) k] ⟨[Q_w_markText k], [⟨.str, .sh, F_w_markText k⟩], []⟩
  generalize hR0 : F_w_markText k = R0
  generalize Q_w_markText k = Q0
  generalize hL : Lg.std = L
  generalize hA : Alg.std = A
  cbv
  subst hL hA
  try dsimp only [Ty.den]
  simp only [Q_w_markText] at hq
  refine ⟨fun h => ?_, fun h => ?_⟩
  · subst hR0
    simp only [Lg.std, Alg.std, List.drop_zero, List.take_length, F_w_markText, markText] at *
    all_goals grind
  · refine lp_v (V := (Int) × (List Int)) (fun ((n, out) : (Int) × (List Int)) => ⟨[.dat (.int .i64) n, .junk, .junk, .dat .str out, .junk, .junk, .junk, .junk, .junk, .junk, .junk, .junk, .junk, .junk, .junk, .junk, .junk, .junk, .junk, .junk], []⟩) (fun ((n, out) : (Int) × (List Int)) => digs n out = digs k [] ∧ n * 10 ^ out.length ≤ k ∧ 0 ≤ n ∧ 0 < k ∧ out.length ≤ 19) (fun ((n, out) : (Int) × (List Int)) => n.toNat) (k, []) rfl ?_ ?_
    · simp [Alg.std] at *; omega
    rintro ⟨n, out⟩ hf I hI
    replace hf : digs n out = digs k [] ∧ n * 10 ^ out.length ≤ k ∧ 0 ≤ n ∧ 0 < k ∧ out.length ≤ 19 := hf
    generalize hL : Lg.std = L
    generalize hA : Alg.std = A
    cbv
    subst hL hA
    try dsimp only [Ty.den]
    subst hI
    simp only [Lg.std, Alg.std, List.drop_zero, List.take_length]
    obtain ⟨h1, h2, h3, h4, h5⟩ := hf
    have hd1 := digs_pos n out
    have hd2 := digs_end n out
    have hd3 := dig_len n k out.length h2 hq
    have hd4 := dig_step n k out.length h2
    have hd5 := dig_wrap n
    have hkt : (109 :: digs k [] : List Int) = markText k := by rw [markText, if_neg (by omega)]; rfl
    repeat' (first | intro _ | apply And.intro)
    all_goals (try refine ⟨(_, _), rfl, ?_, ?_⟩)
    all_goals subst hR0
    all_goals (try simp only [F_w_markText] at *)
    all_goals grind [markText]
def con_w_markText : Con := ⟨true, g1 (pD (.int .i64)) fun k => .one ⟨[Q_w_markText k], [⟨.str, .sh, F_w_markText k⟩], []⟩, [], false, 0⟩
theorem ok_w_markText : ConOk pg 140 con_w_markText := ConOk.g1 (Enters.of (by kernel_rfl)) ct_w_markText

def F_w_markSymbolS (a : List ((List Int) × (Int) × Unit)) (k : Int) : Int := k + cnt false (.sl (.pair .str (.pair (.int .i64) .unit))) a
def B_w_markSymbolS_a (a : List ((List Int) × (Int) × Unit)) (k : Int) : List ((List Int) × (Int) × Unit) := mk false (.sl (.pair .str (.pair (.int .i64) .unit))) a k
def Q_w_markSymbolS (a : List ((List Int) × (Int) × Unit)) (k : Int) : Prop := 0 ≤ k ∧ k + cnt false (.sl (.pair .str (.pair (.int .i64) .unit))) a ≤ 4611686018427387904
def O_w_markSymbolS : Opt := ⟨fun i => false, fun i => (match decide (i = 2) with | true => [true, true, false, false, false, true, false, false, false, false, false, false, false, false, false, false, false, false, false, false, false, false, false, false, false, false, false, false] | false => []), fun i => .done, fun i => none, fun i => false, fun i => [], fun i => false, fun i => none⟩
def τ_w_markSymbolS : Env := Env.of [(2, (.int .i64)), (3, (.int .i64)), (4, .bool), (9, .str), (28, (.sl (.pair .str (.pair (.int .i64) .unit)))), (175, (.pair .str (.pair (.int .i64) .unit)))] [] []

theorem ct_w_markSymbolS (a : List ((List Int) × (Int) × Unit)) (k : Int) : Ct pg 76 [.mv (.sl (.pair .str (.pair (.int .i64) .unit))) (.ow (.pr .sh (.pr .sh .sh))) a, .dat (.int .i64) k] ⟨[Q_w_markSymbolS a k], [⟨(.int .i64), .sh, F_w_markSymbolS a k⟩], [.mv (.sl (.pair .str (.pair (.int .i64) .unit))) (.ow (.pr .sh (.pr .sh .sh))) (B_w_markSymbolS_a a k)]⟩ := by
  refine ct_claim (O := O_w_markSymbolS) (τ := τ_w_markSymbolS) (EnvOk.of (by kernel_rfl) (by kernel_rfl)) (GOk.of (.cons ok_w_markText .nil : AllOk pg [(140, con_w_markText)])) mixed (Enters.of (by kernel_rfl)) (fn := Go.Proofs.Tryz.f76) (by kernel_rfl) rfl (by kernel_rfl) ?_
  intro hp hw
  have hq : Q_w_markSymbolS a k := hp _ (List.mem_singleton.2 rfl)
  clear hp
  change claim Lg.std Alg.std τ_w_markSymbolS (Gam.of [(140, ⟨true, g1 (pD (.int .i64)) fun k => .one ⟨[Q_w_markText k], [⟨.str, .sh, F_w_markText k⟩], []⟩, [], false, 0⟩)]) O_w_markSymbolS Go.Proofs.Tryz.f76 [.mv (.sl (.pair .str (.pair (.int .i64) .unit))) (.ow (.pr .sh (.pr .sh .sh))) a, .dat (.int .i64) k] ⟨[Q_w_markSymbolS a k], [⟨(.int .i64), .sh, F_w_markSymbolS a k⟩], [.mv (.sl (.pair .str (.pair (.int .i64) .unit))) (.ow (.pr .sh (.pr .sh .sh))) (B_w_markSymbolS_a a k)]⟩
  generalize hg_F_w_markText : F_w_markText = g_F_w_markText
  generalize hg_Q_w_markText : Q_w_markText = g_Q_w_markText
  generalize hR0 : F_w_markSymbolS a k = R0
  generalize hB_a : B_w_markSymbolS_a a k = B_a
  generalize Q_w_markSymbolS a k = Q0
  generalize hL : Lg.std = L
  generalize hA : Alg.std = A
  cbv
  subst hL hA
  try dsimp only [Ty.den]
  simp only [Q_w_markSymbolS] at hq
  refine lp_v (V := (Int) × (Int) × (Nat) × (List ((List Int) × (Int) × Unit))) (fun ((i, j, N, xs) : (Int) × (Int) × (Nat) × (List ((List Int) × (Int) × Unit))) => ⟨[.ref (.pair .str (.pair (.int .i64) .unit)) 0 0 [] 0 N, .dat (.int .i64) j, .junk, .junk, .junk, .dat (.int .i64) i, .junk, .junk, .junk, .junk, .junk, .junk, .junk, .junk, .junk, .junk, .junk, .junk, .junk, .junk, .junk, .junk, .junk, .junk, .junk, .junk, .junk, .junk], [some (.row 0 (.pair .str (.pair (.int .i64) .unit)) (.pr .sh (.pr .sh .sh)) xs), some (.gh [.ref (.pair .str (.pair (.int .i64) .unit)) 0 0 [] 0 N])]⟩) (fun ((i, j, N, xs) : (Int) × (Int) × (Nat) × (List ((List Int) × (Int) × Unit))) => N = a.length ∧ 0 ≤ i ∧ i ≤ a.length ∧ j = k + cnt false (.sl (.pair .str (.pair (.int .i64) .unit))) (a.take i.toNat : List ((List Int) × (Int) × Unit)) ∧ xs = (mk false (.sl (.pair .str (.pair (.int .i64) .unit))) a k : List ((List Int) × (Int) × Unit)).take i.toNat ++ a.drop i.toNat) (fun ((i, j, N, xs) : (Int) × (Int) × (Nat) × (List ((List Int) × (Int) × Unit))) => a.length - i.toNat) (0, k, _, _) rfl ?_ ?_
  · simp [Alg.std, cnt, cntL]
  rintro ⟨i, j, N, xs⟩ hf I hI
  replace hf : N = a.length ∧ 0 ≤ i ∧ i ≤ a.length ∧ j = k + cnt false (.sl (.pair .str (.pair (.int .i64) .unit))) (a.take i.toNat : List ((List Int) × (Int) × Unit)) ∧ xs = (mk false (.sl (.pair .str (.pair (.int .i64) .unit))) a k : List ((List Int) × (Int) × Unit)).take i.toNat ++ a.drop i.toNat := hf
  generalize hL : Lg.std = L
  generalize hA : Alg.std = A
  cbv
  subst hL hA
  try dsimp only [Ty.den]
  subst hI
  simp only [Lg.std, Alg.std, List.drop_zero, List.take_length]
  obtain ⟨h1, h2, h3, h4, h5⟩ := hf
  have hl := hw.1.1
  have hk := fun (h : i.toNat < a.length) => mk_stepT (.pair .str (.pair (.int .i64) .unit)) a (([], 0, PUnit.unit) : (List Int) × (Int) × Unit) k i.toNat h
  have hm := fun (h : i.toNat < a.length) => mk_mid (.pair .str (.pair (.int .i64) .unit)) a (([], 0, PUnit.unit) : (List Int) × (Int) × Unit) k i.toNat h
  have hml := fun (h : i.toNat ≤ a.length) => mk_midlen (.pair .str (.pair (.int .i64) .unit)) a k i.toNat h
  have hct := fun (h : i.toNat < a.length) => cnt_take (.pair .str (.pair (.int .i64) .unit)) a (([], 0, PUnit.unit) : (List Int) × (Int) × Unit) i.toNat h
  have hcl := cnt_le (.pair .str (.pair (.int .i64) .unit)) a (i.toNat + 1)
  have hcl0 := cnt_le (.pair .str (.pair (.int .i64) .unit)) a i.toNat
  have hta := fun (h : a.length ≤ i.toNat) => List.take_of_length_le h
  have htm := fun (h : a.length ≤ i.toNat) => List.take_of_length_le (l := (mk false (.sl (.pair .str (.pair (.int .i64) .unit))) a k : List ((List Int) × (Int) × Unit))) (Nat.le_trans (Nat.le_of_eq (mk_len false (.pair .str (.pair (.int .i64) .unit)) a k)) h)
  have hdc := fun (h : i.toNat < a.length) => drop_cons a (([], 0, PUnit.unit) : (List Int) × (Int) × Unit) i.toNat h
  have he := fun (h : a.length ≤ i.toNat) => drop_nil a i.toNat h
  repeat' (first | intro _ | apply And.intro)
  all_goals (try refine ⟨(_, _, _, _), rfl, ?_, ?_⟩)
  all_goals subst hR0 hB_a hg_F_w_markText hg_Q_w_markText
  all_goals (try simp only [F_w_markText, Q_w_markText, F_w_markSymbolS, B_w_markSymbolS_a] at *)
  all_goals (try simp only [szf, tot_p, tot_u, tot_i, tot_b, tot_s, cnt_p, cnt_u, cnt_i0, cnt_b0, cnt_s0, cnt_i1, cnt_b1, cnt_s1, cnt_l, mk_p, mk_u, mk_i0, mk_b0, mk_s0, mk_i1, mk_s1, mk_l, hd_p, hd_u, hd_i0, hd_b0, hd_s0, hd_i1, hd_b1, hd_s1, hd_l] at *)
  all_goals grind [getD_set_self, List.set_set, i64_wrap]
def con_w_markSymbolS : Con := ⟨true, g2 (pV (.sl (.pair .str (.pair (.int .i64) .unit))) (.ow (.pr .sh (.pr .sh .sh)))) (pD (.int .i64)) fun a k => .one ⟨[Q_w_markSymbolS a k], [⟨(.int .i64), .sh, F_w_markSymbolS a k⟩], [.mv (.sl (.pair .str (.pair (.int .i64) .unit))) (.ow (.pr .sh (.pr .sh .sh))) (B_w_markSymbolS_a a k)]⟩, [(.ow (.pr .sh (.pr .sh .sh)))], false, 0⟩
theorem ok_w_markSymbolS : ConOk pg 76 con_w_markSymbolS := ConOk.g2 (Enters.of (by kernel_rfl)) ct_w_markSymbolS

def F_w_markSignature (a : (List ((List Int) × (Int) × Unit)) × Unit) (k : Int) : Int := k + cnt false (.pair (.sl (.pair .str (.pair (.int .i64) .unit))) .unit) a
def B_w_markSignature_a (a : (List ((List Int) × (Int) × Unit)) × Unit) (k : Int) : (List ((List Int) × (Int) × Unit)) × Unit := mk false (.pair (.sl (.pair .str (.pair (.int .i64) .unit))) .unit) a k
def Q_w_markSignature (a : (List ((List Int) × (Int) × Unit)) × Unit) (k : Int) : Prop := 0 ≤ k ∧ k + cnt false (.pair (.sl (.pair .str (.pair (.int .i64) .unit))) .unit) a ≤ 4611686018427387904
def O_w_markSignature : Opt := ⟨fun i => false, fun i => [], fun i => .done, fun i => none, fun i => false, fun i => [], fun i => false, fun i => none⟩
def τ_w_markSignature : Env := Env.of [(3, (.int .i64)), (4, .bool), (28, (.sl (.pair .str (.pair (.int .i64) .unit)))), (30, (.pair (.sl (.pair .str (.pair (.int .i64) .unit))) .unit))] [] []

theorem ct_w_markSignature (a : (List ((List Int) × (Int) × Unit)) × Unit) (k : Int) : Ct pg 25 [.mv (.pair (.sl (.pair .str (.pair (.int .i64) .unit))) .unit) (.pr (.ow (.pr .sh (.pr .sh .sh))) .sh) a, .dat (.int .i64) k] ⟨[Q_w_markSignature a k], [⟨(.int .i64), .sh, F_w_markSignature a k⟩], [.mv (.pair (.sl (.pair .str (.pair (.int .i64) .unit))) .unit) (.pr (.ow (.pr .sh (.pr .sh .sh))) .sh) (B_w_markSignature_a a k)]⟩ := by
  refine ct_claim (O := O_w_markSignature) (τ := τ_w_markSignature) (EnvOk.of (by kernel_rfl) (by kernel_rfl)) (GOk.of (.cons ok_w_markSymbolS .nil : AllOk pg [(76, con_w_markSymbolS)])) mixed (Enters.of (by kernel_rfl)) (fn := Go.Proofs.Tryz.f25) (by kernel_rfl) rfl (by kernel_rfl) ?_
  intro hp hw
  have hq : Q_w_markSignature a k := hp _ (List.mem_singleton.2 rfl)
  clear hp
  change claim Lg.std Alg.std τ_w_markSignature (Gam.of [(76, ⟨true, g2 (pV (.sl (.pair .str (.pair (.int .i64) .unit))) (.ow (.pr .sh (.pr .sh .sh)))) (pD (.int .i64)) fun a k => .one ⟨[Q_w_markSymbolS a k], [⟨(.int .i64), .sh, F_w_markSymbolS a k⟩], [.mv (.sl (.pair .str (.pair (.int .i64) .unit))) (.ow (.pr .sh (.pr .sh .sh))) (B_w_markSymbolS_a a k)]⟩, [(.ow (.pr .sh (.pr .sh .sh)))], false, 0⟩)]) O_w_markSignature Go.Proofs.Tryz.f25 [.mv (.pair (.sl (.pair .str (.pair (.int .i64) .unit))) .unit) (.pr (.ow (.pr .sh (.pr .sh .sh))) .sh) a, .dat (.int .i64) k] ⟨[Q_w_markSignature a k], [⟨(.int .i64), .sh, F_w_markSignature a k⟩], [.mv (.pair (.sl (.pair .str (.pair (.int .i64) .unit))) .unit) (.pr (.ow (.pr .sh (.pr .sh .sh))) .sh) (B_w_markSignature_a a k)]⟩
  generalize hg_F_w_markSymbolS : F_w_markSymbolS = g_F_w_markSymbolS
  generalize hg_B_w_markSymbolS_a : B_w_markSymbolS_a = g_B_w_markSymbolS_a
  generalize hg_Q_w_markSymbolS : Q_w_markSymbolS = g_Q_w_markSymbolS
  generalize hR0 : F_w_markSignature a k = R0
  generalize hB_a : B_w_markSignature_a a k = B_a
  generalize Q_w_markSignature a k = Q0
  generalize hL : Lg.std = L
  generalize hA : Alg.std = A
  cbv
  subst hL hA
  try dsimp only [Ty.den]
  obtain ⟨f0, ⟨⟩⟩ := a
  simp only [Q_w_markSignature] at hq
  subst hR0 hB_a hg_F_w_markSymbolS hg_B_w_markSymbolS_a hg_Q_w_markSymbolS
  simp only [Lg.std, Alg.std, List.drop_zero, List.take_length, F_w_markSymbolS, B_w_markSymbolS_a, Q_w_markSymbolS, F_w_markSignature, B_w_markSignature_a, szf, tot_p, tot_u, tot_i, tot_b, tot_s, cnt_p, cnt_u, cnt_i0, cnt_b0, cnt_s0, cnt_i1, cnt_b1, cnt_s1, cnt_l, mk_p, mk_u, mk_i0, mk_b0, mk_s0, mk_i1, mk_s1, mk_l, hd_p, hd_u, hd_i0, hd_b0, hd_s0, hd_i1, hd_b1, hd_s1, hd_l] at *
  all_goals grind [mk_len]
def con_w_markSignature : Con := ⟨true, g2 (pV (.pair (.sl (.pair .str (.pair (.int .i64) .unit))) .unit) (.pr (.ow (.pr .sh (.pr .sh .sh))) .sh)) (pD (.int .i64)) fun a k => .one ⟨[Q_w_markSignature a k], [⟨(.int .i64), .sh, F_w_markSignature a k⟩], [.mv (.pair (.sl (.pair .str (.pair (.int .i64) .unit))) .unit) (.pr (.ow (.pr .sh (.pr .sh .sh))) .sh) (B_w_markSignature_a a k)]⟩, [(.pr (.ow (.pr .sh (.pr .sh .sh))) .sh)], false, 0⟩
theorem ok_w_markSignature : ConOk pg 25 con_w_markSignature := ConOk.g2 (Enters.of (by kernel_rfl)) ct_w_markSignature
end Go.Vee
