/-
  Contracts of functions of the program: what each returns for all arguments that its precondition lets in.
-/
import Derived.Test.YtkbnbjdkdlooiaaGreatDoorVK8
set_option linter.unusedSimpArgs false
set_option linter.unusedVariables false
set_option maxRecDepth 100000
set_option maxHeartbeats 4000000
set_option synthInstance.maxHeartbeats 4000000
set_option synthInstance.maxSize 20000
namespace Go.Vee
open Go
abbrev DiskT := List (List Int) × List PutT × Unit
def firstNZ : List Int → Int
  | [] => 0
  | c :: l => if c ≠ 0 then c else firstNZ l
abbrev tPut : Ty := .pair (.int .i64) (.pair (.sl (.int .u8)) .unit)
abbrev tDisk : Ty := .pair (.sl (.sl (.int .u8))) (.pair (.sl tPut) .unit)
theorem tot_putv (p : PutT) : tot tPut p = p.2.1.length := by
  have := tot_int .u8 p.2.1
  simp only [tot] at this ⊢
  omega
/-- A disk without fault. -/
def GoodD (d : DiskT) : Prop := (8 ≤ d.1.length ∧ d.1.length ≤ 64) ∧ (∀ i, i < d.1.length → (d.1.getD i []).length = 96) ∧ d.2.1.length ≤ d.1.length ∧ ∀ i, i < d.2.1.length → 0 ≤ (d.2.1.getD i putD).1 ∧ (d.2.1.getD i putD).1 ≤ (d.1.length : Int) - 1 ∧ (d.2.1.getD i putD).2.1.length = 96
theorem putsBad_ok (n : Int) : ∀ (l : List PutT), putsBad n l = 0 → ∀ i, i < l.length → 0 ≤ (l.getD i putD).1 ∧ (l.getD i putD).1 ≤ n - 1 ∧ (l.getD i putD).2.1.length = 96
  | [], _, i, hi => by simp at hi
  | p :: l, h, i, hi => by
    unfold putsBad at h
    split at h
    · cases h
    split at h
    · cases h
    rename_i h1 h2
    cases i with
    | zero => simp only [List.getD_cons_zero]; omega
    | succ i => simpa using putsBad_ok n l h i (by simpa using hi)
theorem diskFault_good (d : DiskT) (h : diskFault d = 0) : GoodD d := by
  unfold diskFault at h
  split at h
  · cases h
  rename_i h1
  split at h
  · cases h
  rename_i h2
  split at h
  · cases h
  rename_i h3
  split at h
  · rename_i h4; exact absurd h h4
  rename_i h4
  refine ⟨by omega, fun i hi => ?_, by omega, putsBad_ok _ _ (by simpa using h4)⟩
  have := any_false_getD (fun b : List Int => !decide (b.length = 96)) d.1 [] (by simpa using h2) i hi
  simpa using this


def F_w_eqAct (a : (Int) × ((Int) × (List (Int)) × Unit) × Unit) (b : (Int) × ((Int) × (List (Int)) × Unit) × Unit) : Bool := decide (a = b)
def Q_w_eqAct (a : (Int) × ((Int) × (List (Int)) × Unit) × Unit) (b : (Int) × ((Int) × (List (Int)) × Unit) × Unit) : Prop := True
def O_w_eqAct : Opt := ⟨fun i => false, fun i => [], fun i => .done, fun i => none, fun i => false, fun i => [], fun i => false, fun i => none⟩
def τ_w_eqAct : Env := Env.of [(2, (.int .i64)), (4, .bool), (156, (.pair (.int .i64) (.pair (.sl (.int .u8)) .unit))), (195, (.pair (.int .i64) (.pair (.pair (.int .i64) (.pair (.sl (.int .u8)) .unit)) .unit)))] [] []

theorem ct_w_eqAct (a : (Int) × ((Int) × (List (Int)) × Unit) × Unit) (b : (Int) × ((Int) × (List (Int)) × Unit) × Unit) : Ct pg 158 [.dat (.pair (.int .i64) (.pair (.pair (.int .i64) (.pair (.sl (.int .u8)) .unit)) .unit)) a, .dat (.pair (.int .i64) (.pair (.pair (.int .i64) (.pair (.sl (.int .u8)) .unit)) .unit)) b] ⟨[Q_w_eqAct a b], [⟨.bool, .sh, F_w_eqAct a b⟩], []⟩ := by
  refine ct_claim (O := O_w_eqAct) (τ := τ_w_eqAct) (EnvOk.of (by kernel_rfl) (by kernel_rfl)) (GOk.of (.cons ok_w_eqPut .nil : AllOk pg [(123, con_w_eqPut)])) mixed (Enters.of (by kernel_rfl)) (fn := Go.Proofs.Tryz.f158) (by kernel_rfl) rfl (by kernel_rfl) ?_
  intro hp hw
  have hq : Q_w_eqAct a b := hp _ (List.mem_singleton.2 rfl)
  clear hp
  change claim Lg.std Alg.std τ_w_eqAct (Gam.of [(123, ⟨true, g2 (pD (.pair (.int .i64) (.pair (.sl (.int .u8)) .unit))) (pD (.pair (.int .i64) (.pair (.sl (.int .u8)) .unit))) fun a b => ⟨[Q_w_eqPut a b], [⟨.bool, .sh, F_w_eqPut a b⟩], []⟩, [], false, 0⟩)]) O_w_eqAct Go.Proofs.Tryz.f158 [.dat (.pair (.int .i64) (.pair (.pair (.int .i64) (.pair (.sl (.int .u8)) .unit)) .unit)) a, .dat (.pair (.int .i64) (.pair (.pair (.int .i64) (.pair (.sl (.int .u8)) .unit)) .unit)) b] ⟨[Q_w_eqAct a b], [⟨.bool, .sh, F_w_eqAct a b⟩], []⟩
  generalize hg_F_w_eqPut : F_w_eqPut = g_F_w_eqPut
  generalize hg_Q_w_eqPut : Q_w_eqPut = g_Q_w_eqPut
  generalize hR0 : F_w_eqAct a b = R0
  generalize Q_w_eqAct a b = Q0
  generalize hL : Lg.std = L
  generalize hA : Alg.std = A
  cbv
  subst hL hA
  try dsimp only [Ty.den]
  obtain ⟨f0, f1, ⟨⟩⟩ := a
  obtain ⟨g0, g1, ⟨⟩⟩ := b
  subst hR0 hg_F_w_eqPut hg_Q_w_eqPut
  simp only [Q_w_eqAct] at hq
  simp only [Lg.std, Alg.std, List.drop_zero, List.take_length, F_w_eqPut, Q_w_eqPut, F_w_eqAct]
  all_goals grind
def con_w_eqAct : Con := ⟨true, g2 (pD (.pair (.int .i64) (.pair (.pair (.int .i64) (.pair (.sl (.int .u8)) .unit)) .unit))) (pD (.pair (.int .i64) (.pair (.pair (.int .i64) (.pair (.sl (.int .u8)) .unit)) .unit))) fun a b => ⟨[Q_w_eqAct a b], [⟨.bool, .sh, F_w_eqAct a b⟩], []⟩, [], false, 0⟩
theorem ok_w_eqAct : ConOk pg 158 con_w_eqAct := ConOk.g2 (Enters.of (by kernel_rfl)) ct_w_eqAct

def F_w_eqActS (a : List ((Int) × ((Int) × (List (Int)) × Unit) × Unit)) (b : List ((Int) × ((Int) × (List (Int)) × Unit) × Unit)) : Bool := decide (a = b)
def Q_w_eqActS (a : List ((Int) × ((Int) × (List (Int)) × Unit) × Unit)) (b : List ((Int) × ((Int) × (List (Int)) × Unit) × Unit)) : Prop := True
def O_w_eqActS : Opt := ⟨fun i => (match decide (i = 6) with | true => true | false => false), fun i => (match decide (i = 4) with | true => [true, true, false, false, false, true, false, false, false, false, false, false, false, false, false, false, false, false, false, false, false, false, false, false, false, false, false] | false => []), fun i => .done, fun i => none, fun i => false, fun i => [], fun i => false, fun i => none⟩
def τ_w_eqActS : Env := Env.of [(3, (.int .i64)), (4, .bool), (69, (.sl (.pair (.int .i64) (.pair (.pair (.int .i64) (.pair (.sl (.int .u8)) .unit)) .unit)))), (195, (.pair (.int .i64) (.pair (.pair (.int .i64) (.pair (.sl (.int .u8)) .unit)) .unit)))] [] []

theorem ct_w_eqActS (a : List ((Int) × ((Int) × (List (Int)) × Unit) × Unit)) (b : List ((Int) × ((Int) × (List (Int)) × Unit) × Unit)) : Ct pg 89 [.dat (.sl (.pair (.int .i64) (.pair (.pair (.int .i64) (.pair (.sl (.int .u8)) .unit)) .unit))) a, .dat (.sl (.pair (.int .i64) (.pair (.pair (.int .i64) (.pair (.sl (.int .u8)) .unit)) .unit))) b] ⟨[Q_w_eqActS a b], [⟨.bool, .sh, F_w_eqActS a b⟩], []⟩ := by
  refine ct_claim (O := O_w_eqActS) (τ := τ_w_eqActS) (EnvOk.of (by kernel_rfl) (by kernel_rfl)) (GOk.of (.cons ok_w_eqAct .nil : AllOk pg [(158, con_w_eqAct)])) mixed (Enters.of (by kernel_rfl)) (fn := Go.Proofs.Tryz.f89) (by kernel_rfl) rfl (by kernel_rfl) ?_
  intro hp hw
  have hq : Q_w_eqActS a b := hp _ (List.mem_singleton.2 rfl)
  clear hp
  change claim Lg.std Alg.std τ_w_eqActS (Gam.of [(158, ⟨true, g2 (pD (.pair (.int .i64) (.pair (.pair (.int .i64) (.pair (.sl (.int .u8)) .unit)) .unit))) (pD (.pair (.int .i64) (.pair (.pair (.int .i64) (.pair (.sl (.int .u8)) .unit)) .unit))) fun a b => ⟨[Q_w_eqAct a b], [⟨.bool, .sh, F_w_eqAct a b⟩], []⟩, [], false, 0⟩)]) O_w_eqActS Go.Proofs.Tryz.f89 [.dat (.sl (.pair (.int .i64) (.pair (.pair (.int .i64) (.pair (.sl (.int .u8)) .unit)) .unit))) a, .dat (.sl (.pair (.int .i64) (.pair (.pair (.int .i64) (.pair (.sl (.int .u8)) .unit)) .unit))) b] ⟨[Q_w_eqActS a b], [⟨.bool, .sh, F_w_eqActS a b⟩], []⟩
  generalize hg_F_w_eqAct : F_w_eqAct = g_F_w_eqAct
  generalize hg_Q_w_eqAct : Q_w_eqAct = g_Q_w_eqAct
  generalize hR0 : F_w_eqActS a b = R0
  generalize Q_w_eqActS a b = Q0
  generalize hL : Lg.std = L
  generalize hA : Alg.std = A
  cbv
  subst hL hA
  try dsimp only [Ty.den]
  refine ⟨fun hne => ?_, fun heq => ?_⟩
  · subst hR0 hg_F_w_eqAct hg_Q_w_eqAct
    simp only [Alg.std, F_w_eqAct, Q_w_eqAct, F_w_eqActS] at *
    grind
  refine lp_v (V := (Int)) (fun (i : Int) => ⟨[.dat (.sl (.pair (.int .i64) (.pair (.pair (.int .i64) (.pair (.sl (.int .u8)) .unit)) .unit))) a, .dat (.sl (.pair (.int .i64) (.pair (.pair (.int .i64) (.pair (.sl (.int .u8)) .unit)) .unit))) b, .junk, .junk, .junk, .dat (.int .i64) i, .junk, .junk, .junk, .junk, .junk, .junk, .junk, .junk, .junk, .junk, .junk, .junk, .junk, .junk, .junk, .junk, .junk, .junk, .junk, .junk, .junk], []⟩) (fun (i : Int) => a.length = b.length ∧ 0 ≤ i ∧ i ≤ a.length ∧ decide (a = b) = decide (a.drop i.toNat = b.drop i.toNat)) (fun (i : Int) => a.length - i.toNat) (0) rfl ?_ ?_
  · simp [Alg.std] at heq ⊢; omega
  rintro i hf I hI
  replace hf : a.length = b.length ∧ 0 ≤ i ∧ i ≤ a.length ∧ decide (a = b) = decide (a.drop i.toNat = b.drop i.toNat) := hf
  generalize hL : Lg.std = L
  generalize hA : Alg.std = A
  cbv
  subst hL hA
  try dsimp only [Ty.den]
  subst hI
  simp only [Lg.std, Alg.std, List.drop_zero, List.take_length]
  obtain ⟨h1, h2, h3, h4⟩ := hf
  have hl := hw.1.1
  have hdc := fun (h : i.toNat < a.length) => drop_cons a ((0, (0, [], PUnit.unit), PUnit.unit) : (Int) × ((Int) × (List (Int)) × Unit) × Unit) i.toNat h
  have he := fun (h : a.length ≤ i.toNat) => drop_nil a i.toNat h
  have hdc2 := fun (h : i.toNat < b.length) => drop_cons b ((0, (0, [], PUnit.unit), PUnit.unit) : (Int) × ((Int) × (List (Int)) × Unit) × Unit) i.toNat h
  have he2 := fun (h : b.length ≤ i.toNat) => drop_nil b i.toNat h
  repeat' (first | intro _ | apply And.intro)
  all_goals (try refine ⟨_, rfl, ?_, ?_⟩)
  all_goals subst hR0 hg_F_w_eqAct hg_Q_w_eqAct
  all_goals (try simp only [F_w_eqAct, Q_w_eqAct, F_w_eqActS] at *)
  all_goals grind
def con_w_eqActS : Con := ⟨true, g2 (pD (.sl (.pair (.int .i64) (.pair (.pair (.int .i64) (.pair (.sl (.int .u8)) .unit)) .unit)))) (pD (.sl (.pair (.int .i64) (.pair (.pair (.int .i64) (.pair (.sl (.int .u8)) .unit)) .unit)))) fun a b => ⟨[Q_w_eqActS a b], [⟨.bool, .sh, F_w_eqActS a b⟩], []⟩, [], false, 0⟩
theorem ok_w_eqActS : ConOk pg 89 con_w_eqActS := ConOk.g2 (Enters.of (by kernel_rfl)) ct_w_eqActS
end Go.Vee
