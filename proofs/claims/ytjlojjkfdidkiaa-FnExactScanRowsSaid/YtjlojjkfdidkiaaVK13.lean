/-
  Contracts of functions of the program: what each returns for all arguments that its precondition lets in.
-/
import Derived.Test.YtjlojjkfdidkiaaVK12
set_option linter.unusedSimpArgs false
set_option linter.unusedVariables false
set_option maxRecDepth 100000
set_option maxHeartbeats 4000000
set_option synthInstance.maxHeartbeats 4000000
set_option synthInstance.maxSize 20000000
namespace Go.Vee
open Go
def F_s_l14Waits (d : (List (List (Int))) × (List ((Int) × (List (Int)) × Unit)) × Unit) (n : Int) : Int := findG (fun x => decide (x.1 = n)) d.2.1 0
def Q_s_l14Waits (d : (List (List (Int))) × (List ((Int) × (List (Int)) × Unit)) × Unit) (n : Int) : Prop := True
def O_s_l14Waits : Opt := ⟨fun i => false, fun i => (match decide (i = 2) with | true => [true, true, false, false, false, true, false, false, false, false, false, false, false, false, false, false, false, false, false, false, false, false, false, false, false, false] | false => []), fun i => .done, fun i => none, fun i => false, fun i => [], fun i => false, fun i => none, fun i => none⟩
def τ_s_l14Waits : Env := Env.of [(2, (.int .i64)), (3, (.int .i64)), (4, .bool), (28, (.sl (.pair (.int .i64) (.pair (.sl (.int .u8)) .unit)))), (30, (.pair (.sl (.sl (.int .u8))) (.pair (.sl (.pair (.int .i64) (.pair (.sl (.int .u8)) .unit))) .unit))), (120, (.pair (.int .i64) (.pair (.sl (.int .u8)) .unit)))] [(80, (.pair (.sl (.sl (.int .u8))) (.pair (.sl (.pair (.int .i64) (.pair (.sl (.int .u8)) .unit))) .unit)))] []

theorem ct_s_l14Waits (d : (List (List (Int))) × (List ((Int) × (List (Int)) × Unit)) × Unit) (n : Int) : Ct pg 132 [.dptr (.pair (.sl (.sl (.int .u8))) (.pair (.sl (.pair (.int .i64) (.pair (.sl (.int .u8)) .unit))) .unit)) d, .dat (.int .i64) n] ⟨[Q_s_l14Waits d n], [⟨(.int .i64), .sh, F_s_l14Waits d n⟩], []⟩ := by
  refine ct_claim (O := O_s_l14Waits) (τ := τ_s_l14Waits) (EnvOk.of (by kernel_rfl) (by kernel_rfl)) (GOk.of (.nil : AllOk pg [])) mixed (Enters.of (by kernel_rfl)) (fn := Go.Proofs.Try.f132) (by kernel_rfl) rfl (by kernel_rfl) ?_
  intro hp hw
  have hq : Q_s_l14Waits d n := hp _ (List.mem_singleton.2 rfl)
  clear hp
  change claim Lg.std Alg.std τ_s_l14Waits (Gam.of []) O_s_l14Waits Go.Proofs.Try.f132 [.dptr (.pair (.sl (.sl (.int .u8))) (.pair (.sl (.pair (.int .i64) (.pair (.sl (.int .u8)) .unit))) .unit)) d, .dat (.int .i64) n] ⟨[Q_s_l14Waits d n], [⟨(.int .i64), .sh, F_s_l14Waits d n⟩], []⟩
  generalize hR0 : F_s_l14Waits d n = R0
  generalize Q_s_l14Waits d n = Q0
  generalize hL : Lg.std = L
  generalize hA : Alg.std = A
  cbv
  subst hL hA
  try dsimp only [Ty.den]
  obtain ⟨d_0, d_1, ⟨⟩⟩ := d
  refine lp_v (V := (Int)) (fun (i : Int) => ⟨[.dptr (.pair (.sl (.sl (.int .u8))) (.pair (.sl (.pair (.int .i64) (.pair (.sl (.int .u8)) .unit))) .unit)) (d_0, d_1, PUnit.unit), .dat (.int .i64) n, Jk, Jk, Jk, .dat (.int .i64) i, Jk, Jk, Jk, Jk, Jk, Jk, Jk, Jk, Jk, Jk, Jk, Jk, Jk, Jk, Jk, Jk, Jk, Jk, Jk, Jk], []⟩) (fun (i : Int) => 0 ≤ i ∧ i ≤ d_1.length ∧ findG (fun x : PutT => decide (x.1 = n)) d_1 0 = findG (fun x : PutT => decide (x.1 = n)) (d_1.drop i.toNat) i) (fun (i : Int) => d_1.length - i.toNat) (0) rfl ?_ ?_
  · simp
  rintro i hf I hI
  replace hf : 0 ≤ i ∧ i ≤ d_1.length ∧ findG (fun x : PutT => decide (x.1 = n)) d_1 0 = findG (fun x : PutT => decide (x.1 = n)) (d_1.drop i.toNat) i := hf
  generalize hL : Lg.std = L
  generalize hA : Alg.std = A
  cbv
  subst hL hA
  try dsimp only [Ty.den]
  subst hI
  obtain ⟨h1, h2, h3⟩ := hf
  have hl := hw.1.2.1.1
  have hdc := fun (h : i.toNat < d_1.length) => drop_cons d_1 ((0, [], PUnit.unit) : (Int) × (List (Int)) × Unit) i.toNat h
  have he := fun (h : d_1.length ≤ i.toNat) => drop_nil d_1 i.toNat h
  have hsu : (i + 1).toNat = i.toNat + 1 := by omega
  repeat' (first | intro _ | apply And.intro)
  all_goals first | (with_reducible exact True.intro) | ((fail_if_success (refine lp_v (V := Unit) (fun _ => ⟨[], []⟩) (fun _ => True) (fun _ => 0) () ?_ ?_ ?_)); (try simp only [Lg.std, Alg.std, List.drop_zero, List.take_length] at *); (try refine ⟨_, rfl, ?_, ?_⟩); (all_goals (subst hR0; (try simp only [Lg.std, Alg.std, List.drop_zero, List.take_length, F_s_l14Waits] at *); first | done | ((try generalize d_1.getD i.toNat (0, [], ()) = xa at *); (try obtain ⟨xa0, xa1, ⟨⟩⟩ := xa); (try dsimp only at *); grind [findG_cons, findG_nil])))) | skip
def con_s_l14Waits : Con := ⟨true, g2 (pP (.pair (.sl (.sl (.int .u8))) (.pair (.sl (.pair (.int .i64) (.pair (.sl (.int .u8)) .unit))) .unit))) (pD (.int .i64)) fun d n => .one ⟨[Q_s_l14Waits d n], [⟨(.int .i64), .sh, F_s_l14Waits d n⟩], []⟩, [], false, 0⟩
theorem ok_s_l14Waits : ConOk pg 132 con_s_l14Waits := ConOk.g2 (Enters.of (by kernel_rfl)) ct_s_l14Waits
end Go.Vee
