/-
  Contracts of functions of the program: what each returns for all arguments that its precondition lets in.
-/
import Derived.Test.YtjlojjkfdidkiaaVK1
set_option linter.unusedSimpArgs false
set_option linter.unusedVariables false
set_option maxRecDepth 100000
set_option maxHeartbeats 4000000
set_option synthInstance.maxHeartbeats 4000000
set_option synthInstance.maxSize 20000000
namespace Go.Vee
open Go
def F_w_eqRow (a : (List (Int)) × (Int) × Unit) (b : (List (Int)) × (Int) × Unit) : Bool := decide (a = b)
def Q_w_eqRow (a : (List (Int)) × (Int) × Unit) (b : (List (Int)) × (Int) × Unit) : Prop := True
def O_w_eqRow : Opt := ⟨fun i => false, fun i => [], fun i => .done, fun i => none, fun i => false, fun i => [], fun i => false, fun i => none, fun i => none⟩
def τ_w_eqRow : Env := Env.of [(2, (.int .i64)), (4, .bool), (34, (.sl (.int .u8))), (90, (.pair (.sl (.int .u8)) (.pair (.int .i64) .unit)))] [] []

theorem ct_w_eqRow (a : (List (Int)) × (Int) × Unit) (b : (List (Int)) × (Int) × Unit) : Ct pg 114 [.dat (.pair (.sl (.int .u8)) (.pair (.int .i64) .unit)) a, .dat (.pair (.sl (.int .u8)) (.pair (.int .i64) .unit)) b] ⟨[Q_w_eqRow a b], [⟨.bool, .sh, F_w_eqRow a b⟩], []⟩ := by
  refine ct_claim (O := O_w_eqRow) (τ := τ_w_eqRow) (EnvOk.of (by kernel_rfl) (by kernel_rfl)) (GOk.of (.cons ok_w_eqByteS .nil : AllOk pg [(18, con_w_eqByteS)])) mixed (Enters.of (by kernel_rfl)) (fn := Go.Proofs.Try.f114) (by kernel_rfl) rfl (by kernel_rfl) ?_
  intro hp hw
  have hq : Q_w_eqRow a b := hp _ (List.mem_singleton.2 rfl)
  clear hp
  change claim Lg.std Alg.std τ_w_eqRow (Gam.of [(18, con_w_eqByteS)]) O_w_eqRow Go.Proofs.Try.f114 [.dat (.pair (.sl (.int .u8)) (.pair (.int .i64) .unit)) a, .dat (.pair (.sl (.int .u8)) (.pair (.int .i64) .unit)) b] ⟨[Q_w_eqRow a b], [⟨.bool, .sh, F_w_eqRow a b⟩], []⟩
  delta con_w_eqByteS
  generalize hg_F_w_eqByteS : F_w_eqByteS = g_F_w_eqByteS
  generalize hg_Q_w_eqByteS : Q_w_eqByteS = g_Q_w_eqByteS
  generalize hR0 : F_w_eqRow a b = R0
  generalize Q_w_eqRow a b = Q0
  generalize hL : Lg.std = L
  generalize hA : Alg.std = A
  cbv
  subst hL hA
  try dsimp only [Ty.den]
  obtain ⟨f0, f1, ⟨⟩⟩ := a
  obtain ⟨g0, g1, ⟨⟩⟩ := b
  subst hR0 hg_F_w_eqByteS hg_Q_w_eqByteS
  simp only [Q_w_eqRow] at hq
  simp only [Lg.std, Alg.std, List.drop_zero, List.take_length, F_w_eqByteS, Q_w_eqByteS, F_w_eqRow]
  all_goals grind
def con_w_eqRow : Con := ⟨true, g2 (pD (.pair (.sl (.int .u8)) (.pair (.int .i64) .unit))) (pD (.pair (.sl (.int .u8)) (.pair (.int .i64) .unit))) fun a b => .one ⟨[Q_w_eqRow a b], [⟨.bool, .sh, F_w_eqRow a b⟩], []⟩, [], false, 0⟩
theorem ok_w_eqRow : ConOk pg 114 con_w_eqRow := ConOk.g2 (Enters.of (by kernel_rfl)) ct_w_eqRow

def F_w_eqRowS (a : List ((List (Int)) × (Int) × Unit)) (b : List ((List (Int)) × (Int) × Unit)) : Bool := decide (a = b)
def Q_w_eqRowS (a : List ((List (Int)) × (Int) × Unit)) (b : List ((List (Int)) × (Int) × Unit)) : Prop := True
def O_w_eqRowS : Opt := ⟨fun i => (match decide (i = 6) with | true => true | false => false), fun i => (match decide (i = 4) with | true => [true, true, false, false, false, true, false, false, false, false, false, false, false, false, false, false, false, false, false, false, false, false, false, false, false, false, false] | false => []), fun i => .done, fun i => none, fun i => false, fun i => [], fun i => false, fun i => none, fun i => none⟩
def τ_w_eqRowS : Env := Env.of [(3, (.int .i64)), (4, .bool), (42, (.sl (.pair (.sl (.int .u8)) (.pair (.int .i64) .unit)))), (90, (.pair (.sl (.int .u8)) (.pair (.int .i64) .unit)))] [] []

theorem ct_w_eqRowS (a : List ((List (Int)) × (Int) × Unit)) (b : List ((List (Int)) × (Int) × Unit)) : Ct pg 60 [.dat (.sl (.pair (.sl (.int .u8)) (.pair (.int .i64) .unit))) a, .dat (.sl (.pair (.sl (.int .u8)) (.pair (.int .i64) .unit))) b] ⟨[Q_w_eqRowS a b], [⟨.bool, .sh, F_w_eqRowS a b⟩], []⟩ := by
  refine ct_claim (O := O_w_eqRowS) (τ := τ_w_eqRowS) (EnvOk.of (by kernel_rfl) (by kernel_rfl)) (GOk.of (.cons ok_w_eqRow .nil : AllOk pg [(114, con_w_eqRow)])) mixed (Enters.of (by kernel_rfl)) (fn := Go.Proofs.Try.f60) (by kernel_rfl) rfl (by kernel_rfl) ?_
  intro hp hw
  have hq : Q_w_eqRowS a b := hp _ (List.mem_singleton.2 rfl)
  clear hp
  change claim Lg.std Alg.std τ_w_eqRowS (Gam.of [(114, con_w_eqRow)]) O_w_eqRowS Go.Proofs.Try.f60 [.dat (.sl (.pair (.sl (.int .u8)) (.pair (.int .i64) .unit))) a, .dat (.sl (.pair (.sl (.int .u8)) (.pair (.int .i64) .unit))) b] ⟨[Q_w_eqRowS a b], [⟨.bool, .sh, F_w_eqRowS a b⟩], []⟩
  delta con_w_eqRow
  generalize hg_F_w_eqRow : F_w_eqRow = g_F_w_eqRow
  generalize hg_Q_w_eqRow : Q_w_eqRow = g_Q_w_eqRow
  generalize hR0 : F_w_eqRowS a b = R0
  generalize Q_w_eqRowS a b = Q0
  generalize hL : Lg.std = L
  generalize hA : Alg.std = A
  cbv
  subst hL hA
  try dsimp only [Ty.den]
  refine ⟨fun hne => ?_, fun heq => ?_⟩
  · subst hR0 hg_F_w_eqRow hg_Q_w_eqRow
    simp only [Alg.std, F_w_eqRow, Q_w_eqRow, F_w_eqRowS] at *
    grind
  refine lp_v (V := (Int)) (fun (i : Int) => ⟨[.dat (.sl (.pair (.sl (.int .u8)) (.pair (.int .i64) .unit))) a, .dat (.sl (.pair (.sl (.int .u8)) (.pair (.int .i64) .unit))) b, Jk, Jk, Jk, .dat (.int .i64) i, Jk, Jk, Jk, Jk, Jk, Jk, Jk, Jk, Jk, Jk, Jk, Jk, Jk, Jk, Jk, Jk, Jk, Jk, Jk, Jk, Jk], []⟩) (fun (i : Int) => a.length = b.length ∧ 0 ≤ i ∧ i ≤ a.length ∧ decide (a = b) = decide (a.drop i.toNat = b.drop i.toNat)) (fun (i : Int) => a.length - i.toNat) (0) rfl ?_ ?_
  · simp [Alg.std] at heq ⊢; omega
  rintro i hf I hI
  replace hf : a.length = b.length ∧ 0 ≤ i ∧ i ≤ a.length ∧ decide (a = b) = decide (a.drop i.toNat = b.drop i.toNat) := hf
  generalize hL : Lg.std = L
  generalize hA : Alg.std = A
  cbv
  subst hL hA
  try dsimp only [Ty.den]
  subst hI
  simp only [Lg.std, Alg.std, List.drop_zero, List.take_length]
  obtain ⟨h1, h2, h3, h4⟩ := hf
  have hl := hw.1.1
  have hdc := fun (h : i.toNat < a.length) => drop_cons a (([], 0, PUnit.unit) : (List (Int)) × (Int) × Unit) i.toNat h
  have he := fun (h : a.length ≤ i.toNat) => drop_nil a i.toNat h
  have hdc2 := fun (h : i.toNat < b.length) => drop_cons b (([], 0, PUnit.unit) : (List (Int)) × (Int) × Unit) i.toNat h
  have he2 := fun (h : b.length ≤ i.toNat) => drop_nil b i.toNat h
  repeat' (first | intro _ | apply And.intro)
  all_goals (try refine ⟨_, rfl, ?_, ?_⟩)
  all_goals subst hR0 hg_F_w_eqRow hg_Q_w_eqRow
  all_goals (try simp only [F_w_eqRow, Q_w_eqRow, F_w_eqRowS] at *)
  all_goals grind
def con_w_eqRowS : Con := ⟨true, g2 (pD (.sl (.pair (.sl (.int .u8)) (.pair (.int .i64) .unit)))) (pD (.sl (.pair (.sl (.int .u8)) (.pair (.int .i64) .unit)))) fun a b => .one ⟨[Q_w_eqRowS a b], [⟨.bool, .sh, F_w_eqRowS a b⟩], []⟩, [], false, 0⟩
theorem ok_w_eqRowS : ConOk pg 60 con_w_eqRowS := ConOk.g2 (Enters.of (by kernel_rfl)) ct_w_eqRowS

def F_w_szByteSS (a : List (List (Int))) (left : Int) : Int := szf (tot (.sl (.sl (.int .u8))) a) left
def Q_w_szByteSS (a : List (List (Int))) (left : Int) : Prop := 0 ≤ left ∧ left ≤ 1048576
def O_w_szByteSS : Opt := ⟨fun i => false, fun i => (match decide (i = 5) with | true => [true, true, false, false, false, true, false, false, false, false, false, false, false, false, false, false, false, false, false, false, false, false, false, false, false, false, false] | false => []), fun i => .done, fun i => none, fun i => false, fun i => [], fun i => false, fun i => none, fun i => none⟩
def τ_w_szByteSS : Env := Env.of [(3, (.int .i64)), (4, .bool), (22, (.sl (.sl (.int .u8)))), (34, (.sl (.int .u8)))] [] []

theorem ct_w_szByteSS (a : List (List (Int))) (left : Int) : Ct pg 44 [.dat (.sl (.sl (.int .u8))) a, .dat (.int .i64) left] ⟨[Q_w_szByteSS a left], [⟨(.int .i64), .sh, F_w_szByteSS a left⟩], []⟩ := by
  refine ct_claim (O := O_w_szByteSS) (τ := τ_w_szByteSS) (EnvOk.of (by kernel_rfl) (by kernel_rfl)) (GOk.of (.cons ok_w_szByteS .nil : AllOk pg [(105, con_w_szByteS)])) mixed (Enters.of (by kernel_rfl)) (fn := Go.Proofs.Try.f44) (by kernel_rfl) rfl (by kernel_rfl) ?_
  intro hp hw
  have hq : Q_w_szByteSS a left := hp _ (List.mem_singleton.2 rfl)
  clear hp
  change claim Lg.std Alg.std τ_w_szByteSS (Gam.of [(105, con_w_szByteS)]) O_w_szByteSS Go.Proofs.Try.f44 [.dat (.sl (.sl (.int .u8))) a, .dat (.int .i64) left] ⟨[Q_w_szByteSS a left], [⟨(.int .i64), .sh, F_w_szByteSS a left⟩], []⟩
  delta con_w_szByteS
  generalize hg_F_w_szByteS : F_w_szByteS = g_F_w_szByteS
  generalize hg_Q_w_szByteS : Q_w_szByteS = g_Q_w_szByteS
  generalize hR0 : F_w_szByteSS a left = R0
  generalize Q_w_szByteSS a left = Q0
  generalize hL : Lg.std = L
  generalize hA : Alg.std = A
  cbv
  subst hL hA
  try dsimp only [Ty.den]
  simp only [Q_w_szByteSS] at hq
  have hl : a.length ≤ 9223372036854775807 := hw.1.1
  have hle := tot_len (.sl (.int .u8)) a
  refine ⟨by simp only [Alg.std]; omega, fun hlt => ?_, fun hge => ?_⟩
  · subst hR0 hg_F_w_szByteS hg_Q_w_szByteS
    simp only [Lg.std, Alg.std, List.drop_zero, List.take_length, F_w_szByteS, Q_w_szByteS, F_w_szByteSS, szf, decide_eq_true_eq] at *
    grind
  refine lp_v (V := (Int) × (Int)) (fun ((i, l) : (Int) × (Int)) => ⟨[.dat (.sl (.sl (.int .u8))) a, .dat (.int .i64) l, Jk, Jk, Jk, .dat (.int .i64) i, Jk, Jk, Jk, Jk, Jk, Jk, Jk, Jk, Jk, Jk, Jk, Jk, Jk, Jk, Jk, Jk, Jk, Jk, Jk, Jk, Jk], []⟩) (fun ((i, l) : (Int) × (Int)) => 0 ≤ i ∧ i ≤ a.length ∧ 0 ≤ l ∧ l ≤ 1048576 ∧ left - (tot (.sl (.sl (.int .u8))) a : Int) = l - (tot (.sl (.sl (.int .u8))) (a.drop i.toNat : List (List (Int))) : Int) + (a.length - i)) (fun ((i, l) : (Int) × (Int)) => a.length - i.toNat) (0, _) rfl ?_ ?_
  · simp [Alg.std] at hge ⊢; omega
  rintro ⟨i, l⟩ hf I hI
  replace hf : 0 ≤ i ∧ i ≤ a.length ∧ 0 ≤ l ∧ l ≤ 1048576 ∧ left - (tot (.sl (.sl (.int .u8))) a : Int) = l - (tot (.sl (.sl (.int .u8))) (a.drop i.toNat : List (List (Int))) : Int) + (a.length - i) := hf
  generalize hL : Lg.std = L
  generalize hA : Alg.std = A
  cbv
  subst hL hA
  try dsimp only [Ty.den]
  subst hI
  simp only [Lg.std, Alg.std, List.drop_zero, List.take_length]
  obtain ⟨h1, h2, h3, h4, h5⟩ := hf
  have hs := fun (h : i.toNat < a.length) => tot_split (.sl (.int .u8)) a ([] : List (Int)) i.toNat h
  have hl2 := tot_len (.sl (.int .u8)) (a.drop (i.toNat + 1))
  have hl3 : (a.drop (i.toNat + 1)).length = a.length - (i.toNat + 1) := List.length_drop
  have hn := tot_nil (.sl (.int .u8))
  have hdc := fun (h : i.toNat < a.length) => drop_cons a ([] : List (Int)) i.toNat h
  have he := fun (h : a.length ≤ i.toNat) => drop_nil a i.toNat h
  repeat' (first | intro _ | apply And.intro)
  all_goals (try refine ⟨(_, _), rfl, ?_, ?_⟩)
  all_goals subst hR0 hg_F_w_szByteS hg_Q_w_szByteS
  all_goals (try simp only [F_w_szByteS, Q_w_szByteS, F_w_szByteSS] at *)
  all_goals grind [szf]
def con_w_szByteSS : Con := ⟨true, g2 (pD (.sl (.sl (.int .u8)))) (pD (.int .i64)) fun a left => .one ⟨[Q_w_szByteSS a left], [⟨(.int .i64), .sh, F_w_szByteSS a left⟩], []⟩, [], false, 0⟩
theorem ok_w_szByteSS : ConOk pg 44 con_w_szByteSS := ConOk.g2 (Enters.of (by kernel_rfl)) ct_w_szByteSS

def F_w_toByteSS (a : List (List (Int))) : List (List (Int)) := a
def Q_w_toByteSS (a : List (List (Int))) : Prop := tot (.sl (.sl (.int .u8))) a ≤ 1048576
def O_w_toByteSS : Opt := ⟨fun i => false, fun i => (match decide (i = 3) with | true => [true, false, false, true, true, false, false, false, false, false, false, false, false, false, false, false, false, false, false, false, false, false, false] | false => []), fun i => .done, fun i => none, fun i => false, fun i => [], fun i => false, fun i => none, fun i => none⟩
def τ_w_toByteSS : Env := Env.of [(2, (.int .i64)), (3, (.int .i64)), (4, .bool), (22, (.sl (.sl (.int .u8)))), (34, (.sl (.int .u8)))] [] []

theorem ct_w_toByteSS (a : List (List (Int))) : Ct pg 48 [.dat (.sl (.sl (.int .u8))) a] ⟨[Q_w_toByteSS a], [⟨(.sl (.sl (.int .u8))), (.ow (.ow .sh)), F_w_toByteSS a⟩], []⟩ := by
  refine ct_claim (O := O_w_toByteSS) (τ := τ_w_toByteSS) (EnvOk.of (by kernel_rfl) (by kernel_rfl)) (GOk.of (.cons ok_w_toByteS .nil : AllOk pg [(15, con_w_toByteS)])) mixed (Enters.of (by kernel_rfl)) (fn := Go.Proofs.Try.f48) (by kernel_rfl) rfl (by kernel_rfl) ?_
  intro hp hw
  have hq : Q_w_toByteSS a := hp _ (List.mem_singleton.2 rfl)
  clear hp
  change claim Lg.std Alg.std τ_w_toByteSS (Gam.of [(15, con_w_toByteS)]) O_w_toByteSS Go.Proofs.Try.f48 [.dat (.sl (.sl (.int .u8))) a] ⟨[Q_w_toByteSS a], [⟨(.sl (.sl (.int .u8))), (.ow (.ow .sh)), F_w_toByteSS a⟩], []⟩
  delta con_w_toByteS
  generalize hg_F_w_toByteS : F_w_toByteS = g_F_w_toByteS
  generalize hg_Q_w_toByteS : Q_w_toByteS = g_Q_w_toByteS
  generalize hR0 : F_w_toByteSS a = R0
  generalize Q_w_toByteSS a = Q0
  generalize hL : Lg.std = L
  generalize hA : Alg.std = A
  cbv
  subst hL hA
  try dsimp only [Ty.den]
  simp only [Q_w_toByteSS] at hq
  have hle := tot_len (.sl (.int .u8)) a
  refine ⟨trivial, by simp only [Alg.std]; omega, ?_⟩
  refine lp_v (V := (Int) × (Nat) × (List (List (Int)))) (fun ((i, N, xs) : (Int) × (Nat) × (List (List (Int)))) => ⟨[.dat (.sl (.sl (.int .u8))) a, Jk, Jk, .ref (.sl (.int .u8)) 0 0 [] 0 N, .dat (.int .i64) i, Jk, Jk, Jk, Jk, Jk, Jk, Jk, Jk, Jk, Jk, Jk, Jk, Jk, Jk, Jk, Jk, Jk, Jk], [some (.row 0 (.sl (.int .u8)) (.ow .sh) xs)]⟩) (fun ((i, N, xs) : (Int) × (Nat) × (List (List (Int)))) => N = a.length ∧ 0 ≤ i ∧ i ≤ a.length ∧ xs = a.take i.toNat ++ List.replicate (a.length - i.toNat) ([] : List (Int))) (fun ((i, N, xs) : (Int) × (Nat) × (List (List (Int)))) => a.length - i.toNat) (0, _, _) rfl ?_ ?_
  · simp [Alg.std]
  rintro ⟨i, N, xs⟩ hf I hI
  replace hf : N = a.length ∧ 0 ≤ i ∧ i ≤ a.length ∧ xs = a.take i.toNat ++ List.replicate (a.length - i.toNat) ([] : List (Int)) := hf
  generalize hL : Lg.std = L
  generalize hA : Alg.std = A
  cbv
  subst hL hA
  try dsimp only [Ty.den]
  subst hI
  simp only [Lg.std, Alg.std, List.drop_zero, List.take_length]
  obtain ⟨h1, h2, h3, h4⟩ := hf
  have hk := fun (h : i.toNat < a.length) => copy_step a ([] : List (Int)) i.toNat h
  have hl : xs.length = a.length := by rw [h4]; simp; omega
  have ha := fun (h : i.toNat < a.length) => tot_at (.sl (.int .u8)) a ([] : List (Int)) i.toNat h
  repeat' (first | intro _ | apply And.intro)
  all_goals (try refine ⟨(_, _, _), rfl, ?_, ?_⟩)
  all_goals subst hR0 hg_F_w_toByteS hg_Q_w_toByteS
  all_goals (try simp only [F_w_toByteS, Q_w_toByteS, F_w_toByteSS] at *)
  all_goals grind
def con_w_toByteSS : Con := ⟨true, g1 (pD (.sl (.sl (.int .u8)))) fun a => .one ⟨[Q_w_toByteSS a], [⟨(.sl (.sl (.int .u8))), (.ow (.ow .sh)), F_w_toByteSS a⟩], []⟩, [], false, 0⟩
theorem ok_w_toByteSS : ConOk pg 48 con_w_toByteSS := ConOk.g1 (Enters.of (by kernel_rfl)) ct_w_toByteSS

def F_w_eqByteSS (a : List (List (Int))) (b : List (List (Int))) : Bool := decide (a = b)
def Q_w_eqByteSS (a : List (List (Int))) (b : List (List (Int))) : Prop := True
def O_w_eqByteSS : Opt := ⟨fun i => (match decide (i = 6) with | true => true | false => false), fun i => (match decide (i = 4) with | true => [true, true, false, false, false, true, false, false, false, false, false, false, false, false, false, false, false, false, false, false, false, false, false, false, false, false, false] | false => []), fun i => .done, fun i => none, fun i => false, fun i => [], fun i => false, fun i => none, fun i => none⟩
def τ_w_eqByteSS : Env := Env.of [(3, (.int .i64)), (4, .bool), (22, (.sl (.sl (.int .u8)))), (34, (.sl (.int .u8)))] [] []

theorem ct_w_eqByteSS (a : List (List (Int))) (b : List (List (Int))) : Ct pg 51 [.dat (.sl (.sl (.int .u8))) a, .dat (.sl (.sl (.int .u8))) b] ⟨[Q_w_eqByteSS a b], [⟨.bool, .sh, F_w_eqByteSS a b⟩], []⟩ := by
  refine ct_claim (O := O_w_eqByteSS) (τ := τ_w_eqByteSS) (EnvOk.of (by kernel_rfl) (by kernel_rfl)) (GOk.of (.cons ok_w_eqByteS .nil : AllOk pg [(18, con_w_eqByteS)])) mixed (Enters.of (by kernel_rfl)) (fn := Go.Proofs.Try.f51) (by kernel_rfl) rfl (by kernel_rfl) ?_
  intro hp hw
  have hq : Q_w_eqByteSS a b := hp _ (List.mem_singleton.2 rfl)
  clear hp
  change claim Lg.std Alg.std τ_w_eqByteSS (Gam.of [(18, con_w_eqByteS)]) O_w_eqByteSS Go.Proofs.Try.f51 [.dat (.sl (.sl (.int .u8))) a, .dat (.sl (.sl (.int .u8))) b] ⟨[Q_w_eqByteSS a b], [⟨.bool, .sh, F_w_eqByteSS a b⟩], []⟩
  delta con_w_eqByteS
  generalize hg_F_w_eqByteS : F_w_eqByteS = g_F_w_eqByteS
  generalize hg_Q_w_eqByteS : Q_w_eqByteS = g_Q_w_eqByteS
  generalize hR0 : F_w_eqByteSS a b = R0
  generalize Q_w_eqByteSS a b = Q0
  generalize hL : Lg.std = L
  generalize hA : Alg.std = A
  cbv
  subst hL hA
  try dsimp only [Ty.den]
  refine ⟨fun hne => ?_, fun heq => ?_⟩
  · subst hR0 hg_F_w_eqByteS hg_Q_w_eqByteS
    simp only [Alg.std, F_w_eqByteS, Q_w_eqByteS, F_w_eqByteSS] at *
    grind
  refine lp_v (V := (Int)) (fun (i : Int) => ⟨[.dat (.sl (.sl (.int .u8))) a, .dat (.sl (.sl (.int .u8))) b, Jk, Jk, Jk, .dat (.int .i64) i, Jk, Jk, Jk, Jk, Jk, Jk, Jk, Jk, Jk, Jk, Jk, Jk, Jk, Jk, Jk, Jk, Jk, Jk, Jk, Jk, Jk], []⟩) (fun (i : Int) => a.length = b.length ∧ 0 ≤ i ∧ i ≤ a.length ∧ decide (a = b) = decide (a.drop i.toNat = b.drop i.toNat)) (fun (i : Int) => a.length - i.toNat) (0) rfl ?_ ?_
  · simp [Alg.std] at heq ⊢; omega
  rintro i hf I hI
  replace hf : a.length = b.length ∧ 0 ≤ i ∧ i ≤ a.length ∧ decide (a = b) = decide (a.drop i.toNat = b.drop i.toNat) := hf
  generalize hL : Lg.std = L
  generalize hA : Alg.std = A
  cbv
  subst hL hA
  try dsimp only [Ty.den]
  subst hI
  simp only [Lg.std, Alg.std, List.drop_zero, List.take_length]
  obtain ⟨h1, h2, h3, h4⟩ := hf
  have hl := hw.1.1
  have hdc := fun (h : i.toNat < a.length) => drop_cons a ([] : List (Int)) i.toNat h
  have he := fun (h : a.length ≤ i.toNat) => drop_nil a i.toNat h
  have hdc2 := fun (h : i.toNat < b.length) => drop_cons b ([] : List (Int)) i.toNat h
  have he2 := fun (h : b.length ≤ i.toNat) => drop_nil b i.toNat h
  repeat' (first | intro _ | apply And.intro)
  all_goals (try refine ⟨_, rfl, ?_, ?_⟩)
  all_goals subst hR0 hg_F_w_eqByteS hg_Q_w_eqByteS
  all_goals (try simp only [F_w_eqByteS, Q_w_eqByteS, F_w_eqByteSS] at *)
  all_goals grind
def con_w_eqByteSS : Con := ⟨true, g2 (pD (.sl (.sl (.int .u8)))) (pD (.sl (.sl (.int .u8)))) fun a b => .one ⟨[Q_w_eqByteSS a b], [⟨.bool, .sh, F_w_eqByteSS a b⟩], []⟩, [], false, 0⟩
theorem ok_w_eqByteSS : ConOk pg 51 con_w_eqByteSS := ConOk.g2 (Enters.of (by kernel_rfl)) ct_w_eqByteSS

def F_w_markByteSS (a : List (List (Int))) (k : Int) : Int := k + cnt false (.sl (.sl (.int .u8))) a
def B_w_markByteSS_a (a : List (List (Int))) (k : Int) : List (List (Int)) := mk false (.sl (.sl (.int .u8))) a k
def Q_w_markByteSS (a : List (List (Int))) (k : Int) : Prop := 0 ≤ k ∧ k + cnt false (.sl (.sl (.int .u8))) a ≤ 4611686018427387904
def O_w_markByteSS : Opt := ⟨fun i => false, fun i => (match decide (i = 2) with | true => [true, true, false, false, false, true, false, false, false, false, false, false, false, false, false, false, false, false, false] | false => []), fun i => .done, fun i => none, fun i => false, fun i => [], fun i => false, fun i => none, fun i => none⟩
def τ_w_markByteSS : Env := Env.of [(3, (.int .i64)), (4, .bool), (22, (.sl (.sl (.int .u8)))), (34, (.sl (.int .u8)))] [] []

theorem ct_w_markByteSS (a : List (List (Int))) (k : Int) : Ct pg 61 [.mv (.sl (.sl (.int .u8))) (.ow (.ow .sh)) a, .dat (.int .i64) k] ⟨[Q_w_markByteSS a k], [⟨(.int .i64), .sh, F_w_markByteSS a k⟩], [.mv (.sl (.sl (.int .u8))) (.ow (.ow .sh)) (B_w_markByteSS_a a k)]⟩ := by
  refine ct_claim (O := O_w_markByteSS) (τ := τ_w_markByteSS) (EnvOk.of (by kernel_rfl) (by kernel_rfl)) (GOk.of (.cons ok_w_markByteS .nil : AllOk pg [(27, con_w_markByteS)])) mixed (Enters.of (by kernel_rfl)) (fn := Go.Proofs.Try.f61) (by kernel_rfl) rfl (by kernel_rfl) ?_
  intro hp hw
  have hq : Q_w_markByteSS a k := hp _ (List.mem_singleton.2 rfl)
  clear hp
  change claim Lg.std Alg.std τ_w_markByteSS (Gam.of [(27, con_w_markByteS)]) O_w_markByteSS Go.Proofs.Try.f61 [.mv (.sl (.sl (.int .u8))) (.ow (.ow .sh)) a, .dat (.int .i64) k] ⟨[Q_w_markByteSS a k], [⟨(.int .i64), .sh, F_w_markByteSS a k⟩], [.mv (.sl (.sl (.int .u8))) (.ow (.ow .sh)) (B_w_markByteSS_a a k)]⟩
  delta con_w_markByteS
  generalize hg_F_w_markByteS : F_w_markByteS = g_F_w_markByteS
  generalize hg_B_w_markByteS_a : B_w_markByteS_a = g_B_w_markByteS_a
  generalize hg_Q_w_markByteS : Q_w_markByteS = g_Q_w_markByteS
  generalize hR0 : F_w_markByteSS a k = R0
  generalize hB_a : B_w_markByteSS_a a k = B_a
  generalize Q_w_markByteSS a k = Q0
  generalize hL : Lg.std = L
  generalize hA : Alg.std = A
  cbv
  subst hL hA
  try dsimp only [Ty.den]
  simp only [Q_w_markByteSS] at hq
  refine lp_v (V := (Int) × (Int) × (Nat) × (List (List (Int)))) (fun ((i, j, N, xs) : (Int) × (Int) × (Nat) × (List (List (Int)))) => ⟨[.ref (.sl (.int .u8)) 0 0 [] 0 N, .dat (.int .i64) j, Jk, Jk, Jk, .dat (.int .i64) i, Jk, Jk, Jk, Jk, Jk, Jk, Jk, Jk, Jk, Jk, Jk, Jk, Jk], [some (.row 0 (.sl (.int .u8)) (.ow .sh) xs), some (.gh [.ref (.sl (.int .u8)) 0 0 [] 0 N])]⟩) (fun ((i, j, N, xs) : (Int) × (Int) × (Nat) × (List (List (Int)))) => N = a.length ∧ 0 ≤ i ∧ i ≤ a.length ∧ j = k + cnt false (.sl (.sl (.int .u8))) (a.take i.toNat : List (List (Int))) ∧ xs = (mk false (.sl (.sl (.int .u8))) a k : List (List (Int))).take i.toNat ++ a.drop i.toNat) (fun ((i, j, N, xs) : (Int) × (Int) × (Nat) × (List (List (Int)))) => a.length - i.toNat) (0, k, _, _) rfl ?_ ?_
  · simp [Alg.std, cnt, cntL]
  rintro ⟨i, j, N, xs⟩ hf I hI
  replace hf : N = a.length ∧ 0 ≤ i ∧ i ≤ a.length ∧ j = k + cnt false (.sl (.sl (.int .u8))) (a.take i.toNat : List (List (Int))) ∧ xs = (mk false (.sl (.sl (.int .u8))) a k : List (List (Int))).take i.toNat ++ a.drop i.toNat := hf
  generalize hL : Lg.std = L
  generalize hA : Alg.std = A
  cbv
  subst hL hA
  try dsimp only [Ty.den]
  subst hI
  simp only [Lg.std, Alg.std, List.drop_zero, List.take_length]
  obtain ⟨h1, h2, h3, h4, h5⟩ := hf
  have hl := hw.1.1
  have hk := fun (h : i.toNat < a.length) => mk_stepT (.sl (.int .u8)) a ([] : List (Int)) k i.toNat h
  have hm := fun (h : i.toNat < a.length) => mk_mid (.sl (.int .u8)) a ([] : List (Int)) k i.toNat h
  have hml := fun (h : i.toNat ≤ a.length) => mk_midlen (.sl (.int .u8)) a k i.toNat h
  have hct := fun (h : i.toNat < a.length) => cnt_take (.sl (.int .u8)) a ([] : List (Int)) i.toNat h
  have hcl := cnt_le (.sl (.int .u8)) a (i.toNat + 1)
  have hcl0 := cnt_le (.sl (.int .u8)) a i.toNat
  have hta := fun (h : a.length ≤ i.toNat) => List.take_of_length_le h
  have htm := fun (h : a.length ≤ i.toNat) => List.take_of_length_le (l := (mk false (.sl (.sl (.int .u8))) a k : List (List (Int)))) (Nat.le_trans (Nat.le_of_eq (mk_len false (.sl (.int .u8)) a k)) h)
  have hdc := fun (h : i.toNat < a.length) => drop_cons a ([] : List (Int)) i.toNat h
  have he := fun (h : a.length ≤ i.toNat) => drop_nil a i.toNat h
  repeat' (first | intro _ | apply And.intro)
  all_goals (try refine ⟨(_, _, _, _), rfl, ?_, ?_⟩)
  all_goals subst hR0 hB_a hg_F_w_markByteS hg_B_w_markByteS_a hg_Q_w_markByteS
  all_goals (try simp only [F_w_markByteS, B_w_markByteS_a, Q_w_markByteS, F_w_markByteSS, B_w_markByteSS_a] at *)
  all_goals (try simp only [szf, tot_p, tot_u, tot_i, tot_b, tot_s, cnt_p, cnt_u, cnt_i0, cnt_b0, cnt_s0, cnt_i1, cnt_b1, cnt_s1, cnt_l, mk_p, mk_u, mk_i0, mk_b0, mk_s0, mk_i1, mk_s1, mk_l, hd_p, hd_u, hd_i0, hd_b0, hd_s0, hd_i1, hd_b1, hd_s1, hd_l] at *)
  all_goals grind [getD_set_self, List.set_set, i64_wrap]
def con_w_markByteSS : Con := ⟨true, g2 (pV (.sl (.sl (.int .u8))) (.ow (.ow .sh))) (pD (.int .i64)) fun a k => .one ⟨[Q_w_markByteSS a k], [⟨(.int .i64), .sh, F_w_markByteSS a k⟩], [.mv (.sl (.sl (.int .u8))) (.ow (.ow .sh)) (B_w_markByteSS_a a k)]⟩, [(.ow (.ow .sh))], false, 0⟩
theorem ok_w_markByteSS : ConOk pg 61 con_w_markByteSS := ConOk.g2 (Enters.of (by kernel_rfl)) ct_w_markByteSS
end Go.Vee
