/-
  Contracts of functions of the program: what each returns for all arguments that its precondition lets in.
-/
import Derived.Test.YtjlojjkfdidkiaaVK2
set_option linter.unusedSimpArgs false
set_option linter.unusedVariables false
set_option maxRecDepth 100000
set_option maxHeartbeats 4000000
set_option synthInstance.maxHeartbeats 4000000
set_option synthInstance.maxSize 20000000
namespace Go.Vee
open Go
def F_i_SumOf (a : List (Int)) : (Int) × (Int) × Unit := if a.length > 2000 then (2, 0, ()) else (0, sumOf 29 a, ())
def Q_i_SumOf (a : List (Int)) : Prop := True
def O_i_SumOf : Opt := ⟨fun i => false, fun i => (match decide (i = 5) with | true => [false, false, true, true, false, false, false, false, false, false, true, true, true, false, false, false, false, false, false, false, false, false, false, false, false, false] | false => []), fun i => .done, fun i => none, fun i => false, fun i => [], fun i => false, fun i => none, fun i => none⟩
def τ_i_SumOf : Env := Env.of [(2, (.int .i64)), (3, (.int .i64)), (4, .bool), (5, (.int .u8)), (34, (.sl (.int .u8))), (36, (.pair (.int .i64) (.pair (.int .i64) .unit)))] [] []

theorem ct_i_SumOf (a : List (Int)) : Ct pg 83 [.dat (.sl (.int .u8)) a] ⟨[Q_i_SumOf a], [⟨(.pair (.int .i64) (.pair (.int .i64) .unit)), .sh, F_i_SumOf a⟩], []⟩ := by
  refine ct_claim (O := O_i_SumOf) (τ := τ_i_SumOf) (EnvOk.of (by kernel_rfl) (by kernel_rfl)) (GOk.of (.nil : AllOk pg [])) mixed (Enters.of (by kernel_rfl)) (fn := Go.Proofs.Try.f83) (by kernel_rfl) rfl (by kernel_rfl) ?_
  intro hp hw
  have hq : Q_i_SumOf a := hp _ (List.mem_singleton.2 rfl)
  clear hp
  change claim Lg.std Alg.std τ_i_SumOf (Gam.of []) O_i_SumOf Go.Proofs.Try.f83 [.dat (.sl (.int .u8)) a] ⟨[Q_i_SumOf a], [⟨(.pair (.int .i64) (.pair (.int .i64) .unit)), .sh, F_i_SumOf a⟩], []⟩
  generalize hR0 : F_i_SumOf a = R0
  generalize Q_i_SumOf a = Q0
  generalize hL : Lg.std = L
  generalize hA : Alg.std = A
  cbv
  subst hL hA
  try dsimp only [Ty.den]
  refine ⟨fun h => ?_, fun h => ?_⟩
  · subst hR0
    simp only [Alg.std, F_i_SumOf] at *
    all_goals grind
  refine lp_v (V := (Int) × (Int) × (Int)) (fun ((i, z, M) : (Int) × (Int) × (Int)) => ⟨[Jk, Jk, .bptr 0 0, .dat (.int .i64) z, Jk, Jk, Jk, Jk, Jk, Jk, .dat (.sl (.int .u8)) a, .dat (.int .i64) M, .dat (.int .i64) i, Jk, Jk, Jk, Jk, Jk, Jk, Jk, Jk, Jk, Jk, Jk, Jk, Jk], [some (.box [.dat (.int .i64) 0, .dat (.int .i64) 0])]⟩) (fun ((i, z, M) : (Int) × (Int) × (Int)) => M = a.length ∧ 0 ≤ i ∧ i ≤ a.length ∧ 0 ≤ z ∧ z < 65521 ∧ a.length ≤ 2000 ∧ sumOf 29 a = sumOf z (a.drop i.toNat)) (fun ((i, z, M) : (Int) × (Int) × (Int)) => a.length - i.toNat) (0, 29, _) rfl ?_ ?_
  · simp [Alg.std] at h ⊢; omega
  rintro ⟨i, z, M⟩ hf I hI
  replace hf : M = a.length ∧ 0 ≤ i ∧ i ≤ a.length ∧ 0 ≤ z ∧ z < 65521 ∧ a.length ≤ 2000 ∧ sumOf 29 a = sumOf z (a.drop i.toNat) := hf
  generalize hL : Lg.std = L
  generalize hA : Alg.std = A
  cbv
  subst hL hA
  try dsimp only [Ty.den]
  subst hI
  simp only [Lg.std, Alg.std, List.drop_zero, List.take_length]
  obtain ⟨h1, h2, h3, h4, h5, h6, h7⟩ := hf
  have hl := hw.1.1
  have hb := u8at hw.1.2 i.toNat
  have hdc := fun (h : i.toNat < a.length) => drop_cons a 0 i.toNat h
  have he := fun (h : a.length ≤ i.toNat) => drop_nil a i.toNat h
  repeat' (first | intro _ | apply And.intro)
  all_goals (try refine ⟨(_, _, _), rfl, ?_, ?_⟩)
  all_goals subst hR0
  all_goals (try simp only [F_i_SumOf] at *)
  all_goals grind [sumOf]
def con_i_SumOf : Con := ⟨true, g1 (pD (.sl (.int .u8))) fun a => .one ⟨[Q_i_SumOf a], [⟨(.pair (.int .i64) (.pair (.int .i64) .unit)), .sh, F_i_SumOf a⟩], []⟩, [], false, 0⟩
theorem ok_i_SumOf : ConOk pg 83 con_i_SumOf := ConOk.g1 (Enters.of (by kernel_rfl)) ct_i_SumOf

def F_i_pair (n : Int) : List (Int) := pairOf n
def Q_i_pair (n : Int) : Prop := True
def O_i_pair : Opt := ⟨fun i => false, fun i => [], fun i => .done, fun i => none, fun i => false, fun i => [], fun i => false, fun i => none, fun i => none⟩
def τ_i_pair : Env := Env.of [(2, (.int .i64)), (5, (.int .u8)), (34, (.sl (.int .u8))), (146, (.int .u64))] [] []

theorem ct_i_pair (n : Int) : Ct pg 82 [.dat (.int .i64) n] ⟨[Q_i_pair n], [⟨(.sl (.int .u8)), (.ow .sh), F_i_pair n⟩], []⟩ := by
  refine ct_claim (O := O_i_pair) (τ := τ_i_pair) (EnvOk.of (by kernel_rfl) (by kernel_rfl)) (GOk.of (.nil : AllOk pg [])) mixed (Enters.of (by kernel_rfl)) (fn := Go.Proofs.Try.f82) (by kernel_rfl) rfl (by kernel_rfl) ?_
  intro hp hw
  have hq : Q_i_pair n := hp _ (List.mem_singleton.2 rfl)
  clear hp
  change claim Lg.std Alg.std τ_i_pair (Gam.of []) O_i_pair Go.Proofs.Try.f82 [.dat (.int .i64) n] ⟨[Q_i_pair n], [⟨(.sl (.int .u8)), (.ow .sh), F_i_pair n⟩], []⟩
  generalize hR0 : F_i_pair n = R0
  generalize Q_i_pair n = Q0
  generalize hL : Lg.std = L
  generalize hA : Alg.std = A
  cbv
  subst hL hA
  try dsimp only [Ty.den]
  have hn := i64w hw.1
  subst hR0
  simp [Lg.std, Alg.std, F_i_pair, pairOf, wrap8, fdiv256]
def con_i_pair : Con := ⟨true, g1 (pD (.int .i64)) fun n => .one ⟨[Q_i_pair n], [⟨(.sl (.int .u8)), (.ow .sh), F_i_pair n⟩], []⟩, [], false, 0⟩
theorem ok_i_pair : ConOk pg 82 con_i_pair := ConOk.g1 (Enters.of (by kernel_rfl)) ct_i_pair

def F_s_l1Pair (n : Int) : List (Int) := pairOf n
def Q_s_l1Pair (n : Int) : Prop := 0 ≤ n
def O_s_l1Pair : Opt := ⟨fun i => false, fun i => [], fun i => .done, fun i => none, fun i => false, fun i => [], fun i => false, fun i => none, fun i => none⟩
def τ_s_l1Pair : Env := Env.of [(2, (.int .i64)), (5, (.int .u8)), (34, (.sl (.int .u8)))] [] []

theorem ct_s_l1Pair (n : Int) : Ct pg 78 [.dat (.int .i64) n] ⟨[Q_s_l1Pair n], [⟨(.sl (.int .u8)), (.ow .sh), F_s_l1Pair n⟩], []⟩ := by
  refine ct_claim (O := O_s_l1Pair) (τ := τ_s_l1Pair) (EnvOk.of (by kernel_rfl) (by kernel_rfl)) (GOk.of (.nil : AllOk pg [])) mixed (Enters.of (by kernel_rfl)) (fn := Go.Proofs.Try.f78) (by kernel_rfl) rfl (by kernel_rfl) ?_
  intro hp hw
  have hq : Q_s_l1Pair n := hp _ (List.mem_singleton.2 rfl)
  clear hp
  change claim Lg.std Alg.std τ_s_l1Pair (Gam.of []) O_s_l1Pair Go.Proofs.Try.f78 [.dat (.int .i64) n] ⟨[Q_s_l1Pair n], [⟨(.sl (.int .u8)), (.ow .sh), F_s_l1Pair n⟩], []⟩
  generalize hR0 : F_s_l1Pair n = R0
  generalize Q_s_l1Pair n = Q0
  generalize hL : Lg.std = L
  generalize hA : Alg.std = A
  cbv
  subst hL hA
  try dsimp only [Ty.den]
  have hn := i64w hw.1
  simp only [Q_s_l1Pair] at hq
  subst hR0
  simp [Lg.std, Alg.std, F_s_l1Pair, pairOf, wrap8]
  all_goals omega
def con_s_l1Pair : Con := ⟨true, g1 (pD (.int .i64)) fun n => .one ⟨[Q_s_l1Pair n], [⟨(.sl (.int .u8)), (.ow .sh), F_s_l1Pair n⟩], []⟩, [], false, 0⟩
theorem ok_s_l1Pair : ConOk pg 78 con_s_l1Pair := ConOk.g1 (Enters.of (by kernel_rfl)) ct_s_l1Pair

def F_i_packedPage (p : (Int) × (Int) × (List (Int)) × Unit) : List (Int) := packPage p
def Q_i_packedPage (p : (Int) × (Int) × (List (Int)) × Unit) : Prop := p.2.2.1.length ≤ 91
def O_i_packedPage : Opt := ⟨fun i => false, fun i => [], fun i => .done, fun i => none, fun i => false, fun i => [], fun i => false, fun i => none, fun i => none⟩
def τ_i_packedPage : Env := Env.of [(2, (.int .i64)), (3, (.int .i64)), (5, (.int .u8)), (34, (.sl (.int .u8))), (36, (.pair (.int .i64) (.pair (.int .i64) .unit))), (54, (.pair (.int .i64) (.pair (.int .i64) (.pair (.sl (.int .u8)) .unit))))] [] []

theorem ct_i_packedPage (p : (Int) × (Int) × (List (Int)) × Unit) : Ct pg 70 [.dat (.pair (.int .i64) (.pair (.int .i64) (.pair (.sl (.int .u8)) .unit))) p] ⟨[Q_i_packedPage p], [⟨(.sl (.int .u8)), (.ow .sh), F_i_packedPage p⟩], []⟩ := by
  refine ct_claim (O := O_i_packedPage) (τ := τ_i_packedPage) (EnvOk.of (by kernel_rfl) (by kernel_rfl)) (GOk.of (.cons ok_i_SumOf (.cons ok_i_pair .nil) : AllOk pg [(83, con_i_SumOf), (82, con_i_pair)])) mixed (Enters.of (by kernel_rfl)) (fn := Go.Proofs.Try.f70) (by kernel_rfl) rfl (by kernel_rfl) ?_
  intro hp hw
  have hq : Q_i_packedPage p := hp _ (List.mem_singleton.2 rfl)
  clear hp
  change claim Lg.std Alg.std τ_i_packedPage (Gam.of [(83, con_i_SumOf), (82, con_i_pair)]) O_i_packedPage Go.Proofs.Try.f70 [.dat (.pair (.int .i64) (.pair (.int .i64) (.pair (.sl (.int .u8)) .unit))) p] ⟨[Q_i_packedPage p], [⟨(.sl (.int .u8)), (.ow .sh), F_i_packedPage p⟩], []⟩
  delta con_i_SumOf con_i_pair
  generalize hg_F_i_SumOf : F_i_SumOf = g_F_i_SumOf
  generalize hg_Q_i_SumOf : Q_i_SumOf = g_Q_i_SumOf
  generalize hg_F_i_pair : F_i_pair = g_F_i_pair
  generalize hg_Q_i_pair : Q_i_pair = g_Q_i_pair
  generalize hR0 : F_i_packedPage p = R0
  generalize Q_i_packedPage p = Q0
  generalize hL : Lg.std = L
  generalize hA : Alg.std = A
  cbv
  subst hL hA
  try dsimp only [Ty.den]
  obtain ⟨k, i, bs, u⟩ := p
  simp only [Q_i_packedPage] at hq
  have hb := u8s hw.1.2.2.1.2
  have e1 : (94 - ((([k % 256, i % 256, (bs.length : Int) % 256] ++ bs).length : Nat) : Int)).toNat = 94 - (3 + bs.length) := by simp; omega
  have e2 : ([k % 256, i % 256, (bs.length : Int) % 256] ++ bs ++ List.replicate (94 - (3 + bs.length)) 0) = padded (k, i, bs, u) := rfl
  have e3 := padded_length (k, i, bs, u) hq
  have e4 : (pairOf (sumOf 29 (padded (k, i, bs, u)))).length = 2 := rfl
  subst hR0 hg_F_i_SumOf hg_Q_i_SumOf hg_F_i_pair hg_Q_i_pair
  simp only [Lg.std, Alg.std, List.drop_zero, List.take_length, F_i_SumOf, F_i_pair, Q_i_SumOf, Q_i_pair, F_i_packedPage, packPage, wrap8, e1, e2]
  repeat' (first | intro _ | apply And.intro)
  all_goals first | trivial | (simp; omega) | grind
def con_i_packedPage : Con := ⟨true, g1 (pD (.pair (.int .i64) (.pair (.int .i64) (.pair (.sl (.int .u8)) .unit)))) fun p => .one ⟨[Q_i_packedPage p], [⟨(.sl (.int .u8)), (.ow .sh), F_i_packedPage p⟩], []⟩, [], false, 0⟩
theorem ok_i_packedPage : ConOk pg 70 con_i_packedPage := ConOk.g1 (Enters.of (by kernel_rfl)) ct_i_packedPage

def F_s_l15Pack (p : (Int) × (Int) × (List (Int)) × Unit) : List (Int) := packPage p
def Q_s_l15Pack (p : (Int) × (Int) × (List (Int)) × Unit) : Prop := p.2.2.1.length ≤ 91
def O_s_l15Pack : Opt := ⟨fun i => false, fun i => (match decide (i = 3) with | true => [false, false, false, true, false, false, false, false, false, false, false, false, false, false, false, false, false, false, false, false, false, false, false, false, false, false, false, false, false, false, false, false, false, false, false, false, false, false] | false => []), fun i => (match decide (i = 1) with | true => (.take 0 (.take 1 (.take 2 (.take 5 (.take 6 (.take 7 (.take 10 (.take 11 (.take 12 (.alt 3 (.take 4 (.alt 8 (.take 9 (.alt 13 (.take 14 (.take 15 (.alt 16 (.take 17 .done) .no))) .no)) (.alt 13 (.take 14 (.take 15 (.alt 8 (.take 9 (.alt 16 (.take 17 .done) .no)) .no))) .no))) (.alt 8 (.take 9 (.alt 3 (.take 4 (.alt 13 (.take 14 (.take 15 (.alt 16 (.take 17 .done) .no))) .no)) (.alt 13 (.take 14 (.take 15 (.alt 3 (.take 4 (.alt 16 (.take 17 .done) .no)) .no))) .no))) (.alt 13 (.take 14 (.take 15 (.alt 3 (.take 4 (.alt 8 (.take 9 (.alt 16 (.take 17 .done) .no)) .no)) (.alt 8 (.take 9 (.alt 3 (.take 4 (.alt 16 (.take 17 .done) .no)) .no)) .no)))) .no)))))))))))) | false => .done), fun i => none, fun i => false, fun i => [], fun i => false, fun i => none, fun i => none⟩
def τ_s_l15Pack : Env := Env.of [(2, (.int .i64)), (3, (.int .i64)), (4, .bool), (5, (.int .u8)), (34, (.sl (.int .u8))), (54, (.pair (.int .i64) (.pair (.int .i64) (.pair (.sl (.int .u8)) .unit))))] [(108, (.pair (.int .i64) (.pair (.int .i64) (.pair (.sl (.int .u8)) .unit))))] []

theorem ct_s_l15Pack (p : (Int) × (Int) × (List (Int)) × Unit) : Ct pg 75 [.dptr (.pair (.int .i64) (.pair (.int .i64) (.pair (.sl (.int .u8)) .unit))) p] ⟨[Q_s_l15Pack p], [⟨(.sl (.int .u8)), (.ow .sh), F_s_l15Pack p⟩], []⟩ := by
  refine ct_claim (O := O_s_l15Pack) (τ := τ_s_l15Pack) (EnvOk.of (by kernel_rfl) (by kernel_rfl)) (GOk.of (.cons ok_s_l1Sum (.cons ok_s_l1Pair .nil) : AllOk pg [(79, con_s_l1Sum), (78, con_s_l1Pair)])) mixed (Enters.of (by kernel_rfl)) (fn := Go.Proofs.Try.f75) (by kernel_rfl) rfl (by kernel_rfl) ?_
  intro hp hw
  have hq : Q_s_l15Pack p := hp _ (List.mem_singleton.2 rfl)
  clear hp
  change claim Lg.std Alg.std τ_s_l15Pack (Gam.of [(79, con_s_l1Sum), (78, con_s_l1Pair)]) O_s_l15Pack Go.Proofs.Try.f75 [.dptr (.pair (.int .i64) (.pair (.int .i64) (.pair (.sl (.int .u8)) .unit))) p] ⟨[Q_s_l15Pack p], [⟨(.sl (.int .u8)), (.ow .sh), F_s_l15Pack p⟩], []⟩
  delta con_s_l1Sum con_s_l1Pair
  generalize hg_F_s_l1Sum : F_s_l1Sum = g_F_s_l1Sum
  generalize hg_Q_s_l1Sum : Q_s_l1Sum = g_Q_s_l1Sum
  generalize hg_F_s_l1Pair : F_s_l1Pair = g_F_s_l1Pair
  generalize hg_Q_s_l1Pair : Q_s_l1Pair = g_Q_s_l1Pair
  generalize hR0 : F_s_l15Pack p = R0
  generalize Q_s_l15Pack p = Q0
  generalize hL : Lg.std = L
  generalize hA : Alg.std = A
  cbv
  subst hL hA
  try dsimp only [Ty.den]
  obtain ⟨k, i, bs, u⟩ := p
  simp only [Q_s_l15Pack] at hq
  have hb := u8s hw.1.2.2.1.2
  repeat' (first | apply And.intro)
  all_goals first | trivial | (simp only [Alg.std]; first | done | omega | (simp; done) | (simp; omega)) | skip
  all_goals (
    refine lp_v (V := (Nat) × (List Int)) (fun ((N, xs) : (Nat) × (List Int)) => ⟨[Jk, Jk, Jk, .ref (.int .u8) 0 0 [] 0 N, Jk, Jk, Jk, Jk, Jk, Jk, Jk, Jk, Jk, Jk, Jk, Jk, Jk, Jk, Jk, Jk, Jk, Jk, Jk, Jk, Jk, Jk, Jk, Jk, Jk, Jk, Jk, Jk, Jk, Jk, Jk, Jk, Jk, Jk], [some (.row 0 (.int .u8) .sh xs)]⟩) (fun ((N, xs) : (Nat) × (List Int)) => N = xs.length ∧ 3 + bs.length ≤ N ∧ N ≤ 94 ∧ xs = [k % 256, i % 256, (bs.length : Int) % 256] ++ bs ++ List.replicate (N - (3 + bs.length)) 0) (fun ((N, xs) : (Nat) × (List Int)) => 94 - N) (_, _) rfl ?_ ?_
    · simp [Alg.std, wrap8]; omega
    rintro ⟨N, xs⟩ hf I hI
    replace hf : N = xs.length ∧ 3 + bs.length ≤ N ∧ N ≤ 94 ∧ xs = [k % 256, i % 256, (bs.length : Int) % 256] ++ bs ++ List.replicate (N - (3 + bs.length)) 0 := hf
    generalize hL : Lg.std = L
    generalize hA : Alg.std = A
    cbv
    subst hL hA
    try dsimp only [Ty.den]
    subst hI
    simp only [Lg.std, Alg.std, List.drop_zero, List.take_length]
    obtain ⟨h1, h2, h3, h4⟩ := hf
    subst h1
    simp only [List.take_length]
    have hr := sumOf_nonneg 29 xs (by omega)
    have e2 : xs.length < 94 → (xs ++ [0]).length - (3 + bs.length) = (xs.length - (3 + bs.length)) + 1 := by simp; omega
    have e3 : xs.length < 94 → xs ++ [0] = [k % 256, i % 256, (bs.length : Int) % 256] ++ bs ++ List.replicate ((xs ++ [0]).length - (3 + bs.length)) 0 := fun h => by rw [e2 h, List.replicate_succ', ← List.append_assoc, ← h4]
    have e5 : ¬ xs.length < 94 → xs = padded (k, i, bs, u) := fun h => by rw [h4]; simp only [padded]; congr 2; omega
    have e6 : (pairOf (sumOf 29 xs)).length = 2 := rfl
    have e7 : (xs ++ [0]).length = xs.length + 1 := by simp
    repeat' (first | intro _ | apply And.intro)
    all_goals (try refine ⟨(_, _), rfl, ?_, ?_⟩)
    all_goals subst hR0 hg_F_s_l1Sum hg_Q_s_l1Sum hg_F_s_l1Pair hg_Q_s_l1Pair
    all_goals (try simp only [F_s_l1Sum, F_s_l1Pair, Q_s_l1Sum, Q_s_l1Pair, F_s_l15Pack] at *)
    all_goals first | trivial | omega | (simp; omega) | grind [packPage])
def con_s_l15Pack : Con := ⟨true, g1 (pP (.pair (.int .i64) (.pair (.int .i64) (.pair (.sl (.int .u8)) .unit)))) fun p => .one ⟨[Q_s_l15Pack p], [⟨(.sl (.int .u8)), (.ow .sh), F_s_l15Pack p⟩], []⟩, [], false, 0⟩
theorem ok_s_l15Pack : ConOk pg 75 con_s_l15Pack := ConOk.g1 (Enters.of (by kernel_rfl)) ct_s_l15Pack

def F_s_PackPage (p : (Int) × (Int) × (List (Int)) × Unit) : (Int) × (List (Int)) × Unit := if pageFault p = 0 then (0, packPage p, ()) else (pageFault p, [], ())
def Q_s_PackPage (p : (Int) × (Int) × (List (Int)) × Unit) : Prop := True
def O_s_PackPage : Opt := ⟨fun i => false, fun i => [], fun i => .done, fun i => none, fun i => false, fun i => [], fun i => false, fun i => none, fun i => none⟩
def τ_s_PackPage : Env := Env.of [(2, (.int .i64)), (4, .bool), (34, (.sl (.int .u8))), (54, (.pair (.int .i64) (.pair (.int .i64) (.pair (.sl (.int .u8)) .unit)))), (57, (.pair (.int .i64) (.pair (.sl (.int .u8)) .unit)))] [(108, (.pair (.int .i64) (.pair (.int .i64) (.pair (.sl (.int .u8)) .unit))))] []

theorem ct_s_PackPage (p : (Int) × (Int) × (List (Int)) × Unit) : Ct pg 33 [.dat (.pair (.int .i64) (.pair (.int .i64) (.pair (.sl (.int .u8)) .unit))) p] ⟨[Q_s_PackPage p], [⟨(.pair (.int .i64) (.pair (.sl (.int .u8)) .unit)), (.pr .sh (.pr (.ow .sh) .sh)), F_s_PackPage p⟩], []⟩ := by
  refine ct_claim (O := O_s_PackPage) (τ := τ_s_PackPage) (EnvOk.of (by kernel_rfl) (by kernel_rfl)) (GOk.of (.cons ok_s_PageFault (.cons ok_s_l15Pack .nil) : AllOk pg [(72, con_s_PageFault), (75, con_s_l15Pack)])) mixed (Enters.of (by kernel_rfl)) (fn := Go.Proofs.Try.f33) (by kernel_rfl) rfl (by kernel_rfl) ?_
  intro hp hw
  have hq : Q_s_PackPage p := hp _ (List.mem_singleton.2 rfl)
  clear hp
  change claim Lg.std Alg.std τ_s_PackPage (Gam.of [(72, con_s_PageFault), (75, con_s_l15Pack)]) O_s_PackPage Go.Proofs.Try.f33 [.dat (.pair (.int .i64) (.pair (.int .i64) (.pair (.sl (.int .u8)) .unit))) p] ⟨[Q_s_PackPage p], [⟨(.pair (.int .i64) (.pair (.sl (.int .u8)) .unit)), (.pr .sh (.pr (.ow .sh) .sh)), F_s_PackPage p⟩], []⟩
  delta con_s_PageFault con_s_l15Pack
  generalize hg_F_s_PageFault : F_s_PageFault = g_F_s_PageFault
  generalize hg_Q_s_PageFault : Q_s_PageFault = g_Q_s_PageFault
  generalize hg_F_s_l15Pack : F_s_l15Pack = g_F_s_l15Pack
  generalize hg_Q_s_l15Pack : Q_s_l15Pack = g_Q_s_l15Pack
  generalize hR0 : F_s_PackPage p = R0
  generalize Q_s_PackPage p = Q0
  generalize hL : Lg.std = L
  generalize hA : Alg.std = A
  cbv
  subst hL hA
  try dsimp only [Ty.den]
  have hl := pageFault_len p
  subst hR0 hg_F_s_PageFault hg_Q_s_PageFault hg_F_s_l15Pack hg_Q_s_l15Pack
  simp only [Lg.std, Alg.std, List.drop_zero, List.take_length, F_s_PageFault, F_s_l15Pack, Q_s_PageFault, Q_s_l15Pack, F_s_PackPage]
  all_goals grind
def con_s_PackPage : Con := ⟨true, g1 (pD (.pair (.int .i64) (.pair (.int .i64) (.pair (.sl (.int .u8)) .unit)))) fun p => .one ⟨[Q_s_PackPage p], [⟨(.pair (.int .i64) (.pair (.sl (.int .u8)) .unit)), (.pr .sh (.pr (.ow .sh) .sh)), F_s_PackPage p⟩], []⟩, [], false, 0⟩
theorem ok_s_PackPage : ConOk pg 33 con_s_PackPage := ConOk.g1 (Enters.of (by kernel_rfl)) ct_s_PackPage

def F_i_PackPage (p : (Int) × (Int) × (List (Int)) × Unit) : (Int) × (List (Int)) × Unit := if pageFault p = 0 then (0, packPage p, ()) else (pageFault p, [], ())
def Q_i_PackPage (p : (Int) × (Int) × (List (Int)) × Unit) : Prop := True
def O_i_PackPage : Opt := ⟨fun i => false, fun i => [], fun i => .done, fun i => none, fun i => false, fun i => [], fun i => false, fun i => none, fun i => none⟩
def τ_i_PackPage : Env := Env.of [(2, (.int .i64)), (4, .bool), (34, (.sl (.int .u8))), (54, (.pair (.int .i64) (.pair (.int .i64) (.pair (.sl (.int .u8)) .unit)))), (57, (.pair (.int .i64) (.pair (.sl (.int .u8)) .unit)))] [] []

theorem ct_i_PackPage (p : (Int) × (Int) × (List (Int)) × Unit) : Ct pg 30 [.dat (.pair (.int .i64) (.pair (.int .i64) (.pair (.sl (.int .u8)) .unit))) p] ⟨[Q_i_PackPage p], [⟨(.pair (.int .i64) (.pair (.sl (.int .u8)) .unit)), (.pr .sh (.pr (.ow .sh) .sh)), F_i_PackPage p⟩], []⟩ := by
  refine ct_claim (O := O_i_PackPage) (τ := τ_i_PackPage) (EnvOk.of (by kernel_rfl) (by kernel_rfl)) (GOk.of (.cons ok_i_PageFault (.cons ok_i_packedPage .nil) : AllOk pg [(34, con_i_PageFault), (70, con_i_packedPage)])) mixed (Enters.of (by kernel_rfl)) (fn := Go.Proofs.Try.f30) (by kernel_rfl) rfl (by kernel_rfl) ?_
  intro hp hw
  have hq : Q_i_PackPage p := hp _ (List.mem_singleton.2 rfl)
  clear hp
  change claim Lg.std Alg.std τ_i_PackPage (Gam.of [(34, con_i_PageFault), (70, con_i_packedPage)]) O_i_PackPage Go.Proofs.Try.f30 [.dat (.pair (.int .i64) (.pair (.int .i64) (.pair (.sl (.int .u8)) .unit))) p] ⟨[Q_i_PackPage p], [⟨(.pair (.int .i64) (.pair (.sl (.int .u8)) .unit)), (.pr .sh (.pr (.ow .sh) .sh)), F_i_PackPage p⟩], []⟩
  delta con_i_PageFault con_i_packedPage
  generalize hg_F_i_PageFault : F_i_PageFault = g_F_i_PageFault
  generalize hg_Q_i_PageFault : Q_i_PageFault = g_Q_i_PageFault
  generalize hg_F_i_packedPage : F_i_packedPage = g_F_i_packedPage
  generalize hg_Q_i_packedPage : Q_i_packedPage = g_Q_i_packedPage
  generalize hR0 : F_i_PackPage p = R0
  generalize Q_i_PackPage p = Q0
  generalize hL : Lg.std = L
  generalize hA : Alg.std = A
  cbv
  subst hL hA
  try dsimp only [Ty.den]
  have hl := pageFault_len p
  subst hR0 hg_F_i_PageFault hg_Q_i_PageFault hg_F_i_packedPage hg_Q_i_packedPage
  simp only [Lg.std, Alg.std, List.drop_zero, List.take_length, F_i_PageFault, F_i_packedPage, Q_i_PageFault, Q_i_packedPage, F_i_PackPage]
  all_goals grind
def con_i_PackPage : Con := ⟨true, g1 (pD (.pair (.int .i64) (.pair (.int .i64) (.pair (.sl (.int .u8)) .unit)))) fun p => .one ⟨[Q_i_PackPage p], [⟨(.pair (.int .i64) (.pair (.sl (.int .u8)) .unit)), (.pr .sh (.pr (.ow .sh) .sh)), F_i_PackPage p⟩], []⟩, [], false, 0⟩
theorem ok_i_PackPage : ConOk pg 30 con_i_PackPage := ConOk.g1 (Enters.of (by kernel_rfl)) ct_i_PackPage
end Go.Vee
