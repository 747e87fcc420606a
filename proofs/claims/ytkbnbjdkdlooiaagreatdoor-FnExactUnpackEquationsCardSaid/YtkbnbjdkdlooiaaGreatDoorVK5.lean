/-
  Contracts of functions of the program: what each returns for all arguments that its precondition lets in.
-/
import Derived.Test.YtkbnbjdkdlooiaaGreatDoorVK4
set_option linter.unusedSimpArgs false
set_option linter.unusedVariables false
set_option maxRecDepth 100000
set_option maxHeartbeats 4000000
set_option synthInstance.maxHeartbeats 4000000
set_option synthInstance.maxSize 20000000
namespace Go.Vee
open Go
abbrev RdT := List Int × Bool × Unit
def rdBad (r : RdT) (n : Int) : Bool := r.2.1 || decide (n > r.1.length)
def rdTake (r : RdT) (n : Int) : List Int := if rdBad r n = true then List.replicate n.toNat 0 else r.1.take n.toNat
def rdNext (r : RdT) (n : Int) : RdT := if rdBad r n = true then (r.1, true, ()) else (r.1.drop n.toNat, false, ())
def rdOne (r : RdT) : Int := (rdTake r 1).getD 0 0
theorem rdTake_len (r : RdT) (n : Int) (h : 0 ≤ n) : (rdTake r n).length = n.toNat := by
  unfold rdTake rdBad
  split
  · simp
  · rename_i h1
    simp only [Bool.or_eq_true, decide_eq_true_eq, not_or] at h1
    simp; omega
theorem rdTake_at (r : RdT) (n : Int) (j : Nat) (h : ∀ x ∈ r.1, 0 ≤ x ∧ x ≤ 255) : 0 ≤ (rdTake r n).getD j 0 ∧ (rdTake r n).getD j 0 ≤ 255 := by
  have key : ∀ l : List Int, (∀ x ∈ l, 0 ≤ x ∧ x ≤ 255) → 0 ≤ l.getD j 0 ∧ l.getD j 0 ≤ 255 := fun l hl => by
    rw [List.getD_eq_getElem?_getD]
    cases hj : l[j]? with
    | none => simp
    | some x => simpa using hl x (List.mem_of_getElem? hj)
  unfold rdTake
  split
  · exact key _ (fun x hx => by have := List.eq_of_mem_replicate hx; omega)
  · exact key _ (fun x hx => h x (List.mem_of_mem_take hx))
theorem getD_byte (l : List Int) (h : ∀ x ∈ l, 0 ≤ x ∧ x ≤ 255) (j : Nat) : 0 ≤ l.getD j 0 ∧ l.getD j 0 ≤ 255 := by
  rw [List.getD_eq_getElem?_getD]
  cases hj : l[j]? with
  | none => simp
  | some x => simpa using h x (List.mem_of_getElem? hj)
theorem rdNext_cases (xs : List Int) (fl : Bool) (n : Int) (x1 : List Int) (f1 : Bool) (h : rdNext (xs, fl, ()) n = (x1, f1, ())) : (fl = true ∨ n > xs.length) ∧ x1 = xs ∧ f1 = true ∨ fl = false ∧ n ≤ xs.length ∧ x1 = xs.drop n.toNat ∧ f1 = false := by
  unfold rdNext rdBad at h
  split at h
  · rename_i hc
    simp only [Prod.mk.injEq] at h
    obtain ⟨rfl, rfl, _⟩ := h
    left
    simpa [Bool.or_eq_true] using hc
  · rename_i hc
    simp only [Prod.mk.injEq] at h
    obtain ⟨rfl, rfl, _⟩ := h
    right
    simp only [Bool.or_eq_true, decide_eq_true_eq, not_or, Bool.not_eq_true] at hc
    exact ⟨hc.1, by omega, rfl, rfl⟩
theorem rdTake_good (xs : List Int) (n : Int) (h : n ≤ xs.length) : rdTake (xs, false, ()) n = xs.take n.toNat := by
  unfold rdTake rdBad
  rw [if_neg (by simp; omega)]
theorem rdOne_good (xs : List Int) (h : 1 ≤ (xs.length : Int)) : rdOne (xs, false, ()) = xs.getD 0 0 := by
  unfold rdOne
  rw [rdTake_good xs 1 h]
  cases xs <;> simp
theorem rdOne_byte (xs : List Int) (fl : Bool) (h : ∀ x ∈ xs, 0 ≤ x ∧ x ≤ 255) : 0 ≤ rdOne (xs, fl, ()) ∧ rdOne (xs, fl, ()) ≤ 255 := rdTake_at _ 1 0 h
theorem byte_drop (l : List Int) (n : Nat) (h : ∀ x ∈ l, 0 ≤ x ∧ x ≤ 255) : ∀ x ∈ l.drop n, 0 ≤ x ∧ x ≤ 255 := fun x hx => h x (List.mem_of_mem_drop hx)

def F_i_byteReader_take (r : (List (Int)) × (Bool) × Unit) (n : Int) : List (Int) := rdTake r n
def B_i_byteReader_take_r (r : (List (Int)) × (Bool) × Unit) (n : Int) : (List (Int)) × (Bool) × Unit := rdNext r n
def Q_i_byteReader_take (r : (List (Int)) × (Bool) × Unit) (n : Int) : Prop := 0 ≤ n ∧ n ≤ 1048576
def O_i_byteReader_take : Opt := ⟨fun i => false, fun i => [], fun i => .done, fun i => none, fun i => false, fun i => [], fun i => false, fun i => none⟩
def τ_i_byteReader_take : Env := Env.of [(3, (.int .i64)), (4, .bool), (27, (.sl (.int .u8))), (117, (.pair (.sl (.int .u8)) (.pair .bool .unit)))] [(115, (.pair (.sl (.int .u8)) (.pair .bool .unit)))] []

theorem ct_i_byteReader_take (r : (List (Int)) × (Bool) × Unit) (n : Int) : Ct pg 120 [.mp (.pair (.sl (.int .u8)) (.pair .bool .unit)) .sh r, .dat (.int .i64) n] ⟨[Q_i_byteReader_take r n], [⟨(.sl (.int .u8)), .sh, F_i_byteReader_take r n⟩], [.mp (.pair (.sl (.int .u8)) (.pair .bool .unit)) .sh (B_i_byteReader_take_r r n)]⟩ := by
  refine ct_claim (O := O_i_byteReader_take) (τ := τ_i_byteReader_take) (EnvOk.of (by kernel_rfl) (by kernel_rfl)) (GOk.of (.nil : AllOk pg [])) mixed (Enters.of (by kernel_rfl)) (fn := Go.Proofs.Tryz.f120) (by kernel_rfl) rfl (by kernel_rfl) ?_
  intro hp hw
  have hq : Q_i_byteReader_take r n := hp _ (List.mem_singleton.2 rfl)
  clear hp
  change claim Lg.std Alg.std τ_i_byteReader_take (Gam.of []) O_i_byteReader_take Go.Proofs.Tryz.f120 [.mp (.pair (.sl (.int .u8)) (.pair .bool .unit)) .sh r, .dat (.int .i64) n] ⟨[Q_i_byteReader_take r n], [⟨(.sl (.int .u8)), .sh, F_i_byteReader_take r n⟩], [.mp (.pair (.sl (.int .u8)) (.pair .bool .unit)) .sh (B_i_byteReader_take_r r n)]⟩
  generalize hR0 : F_i_byteReader_take r n = R0
  generalize hB_r : B_i_byteReader_take_r r n = B_r
  generalize Q_i_byteReader_take r n = Q0
  generalize hL : Lg.std = L
  generalize hA : Alg.std = A
  cbv
  subst hL hA
  try dsimp only [Ty.den]
  obtain ⟨r_0, r_1, ⟨⟩⟩ := r
  simp only [Q_i_byteReader_take] at hq
  have hl : r_0.length ≤ 9223372036854775807 := hw.1.1.1
  subst hR0 hB_r
  simp only [Lg.std, Alg.std, List.drop_zero, List.take_length, take_rest, F_i_byteReader_take, B_i_byteReader_take_r, rdTake, rdNext, rdBad]
  repeat' (first | intro _ | apply And.intro)
  all_goals grind
def con_i_byteReader_take : Con := ⟨true, g2 (pW (.pair (.sl (.int .u8)) (.pair .bool .unit)) .sh) (pD (.int .i64)) fun r n => .one ⟨[Q_i_byteReader_take r n], [⟨(.sl (.int .u8)), .sh, F_i_byteReader_take r n⟩], [.mp (.pair (.sl (.int .u8)) (.pair .bool .unit)) .sh (B_i_byteReader_take_r r n)]⟩, [.sh], false, 0⟩
theorem ok_i_byteReader_take : ConOk pg 120 con_i_byteReader_take := ConOk.g2 (Enters.of (by kernel_rfl)) ct_i_byteReader_take

def F_i_byteReader_one (r : (List (Int)) × (Bool) × Unit) : Int := rdOne r
def B_i_byteReader_one_r (r : (List (Int)) × (Bool) × Unit) : (List (Int)) × (Bool) × Unit := rdNext r 1
def Q_i_byteReader_one (r : (List (Int)) × (Bool) × Unit) : Prop := True
def O_i_byteReader_one : Opt := ⟨fun i => false, fun i => [], fun i => .done, fun i => none, fun i => false, fun i => [], fun i => false, fun i => none⟩
def τ_i_byteReader_one : Env := Env.of [(2, (.int .i64)), (3, (.int .i64)), (5, (.int .u8)), (27, (.sl (.int .u8)))] [(115, (.pair (.sl (.int .u8)) (.pair .bool .unit)))] []

theorem ct_i_byteReader_one (r : (List (Int)) × (Bool) × Unit) : Ct pg 95 [.mp (.pair (.sl (.int .u8)) (.pair .bool .unit)) .sh r] ⟨[Q_i_byteReader_one r], [⟨(.int .i64), .sh, F_i_byteReader_one r⟩], [.mp (.pair (.sl (.int .u8)) (.pair .bool .unit)) .sh (B_i_byteReader_one_r r)]⟩ := by
  refine ct_claim (O := O_i_byteReader_one) (τ := τ_i_byteReader_one) (EnvOk.of (by kernel_rfl) (by kernel_rfl)) (GOk.of (.cons ok_i_byteReader_take .nil : AllOk pg [(120, con_i_byteReader_take)])) mixed (Enters.of (by kernel_rfl)) (fn := Go.Proofs.Tryz.f95) (by kernel_rfl) rfl (by kernel_rfl) ?_
  intro hp hw
  have hq : Q_i_byteReader_one r := hp _ (List.mem_singleton.2 rfl)
  clear hp
  change claim Lg.std Alg.std τ_i_byteReader_one (Gam.of [(120, ⟨true, g2 (pW (.pair (.sl (.int .u8)) (.pair .bool .unit)) .sh) (pD (.int .i64)) fun r n => .one ⟨[Q_i_byteReader_take r n], [⟨(.sl (.int .u8)), .sh, F_i_byteReader_take r n⟩], [.mp (.pair (.sl (.int .u8)) (.pair .bool .unit)) .sh (B_i_byteReader_take_r r n)]⟩, [.sh], false, 0⟩)]) O_i_byteReader_one Go.Proofs.Tryz.f95 [.mp (.pair (.sl (.int .u8)) (.pair .bool .unit)) .sh r] ⟨[Q_i_byteReader_one r], [⟨(.int .i64), .sh, F_i_byteReader_one r⟩], [.mp (.pair (.sl (.int .u8)) (.pair .bool .unit)) .sh (B_i_byteReader_one_r r)]⟩
  generalize hg_F_i_byteReader_take : F_i_byteReader_take = g_F_i_byteReader_take
  generalize hg_B_i_byteReader_take_r : B_i_byteReader_take_r = g_B_i_byteReader_take_r
  generalize hg_Q_i_byteReader_take : Q_i_byteReader_take = g_Q_i_byteReader_take
  generalize hR0 : F_i_byteReader_one r = R0
  generalize hB_r : B_i_byteReader_one_r r = B_r
  generalize Q_i_byteReader_one r = Q0
  generalize hL : Lg.std = L
  generalize hA : Alg.std = A
  cbv
  subst hL hA
  try dsimp only [Ty.den]
  have hl := rdTake_len r 1 (by omega)
  have ha := rdTake_at r 1 0 (u8s hw.1.1.2)
  subst hR0 hB_r hg_F_i_byteReader_take hg_B_i_byteReader_take_r hg_Q_i_byteReader_take
  simp only [Lg.std, Alg.std, List.drop_zero, List.take_length, F_i_byteReader_take, B_i_byteReader_take_r, Q_i_byteReader_take, F_i_byteReader_one, B_i_byteReader_one_r, rdOne]
  repeat' (first | intro _ | apply And.intro)
  all_goals grind
def con_i_byteReader_one : Con := ⟨true, g1 (pW (.pair (.sl (.int .u8)) (.pair .bool .unit)) .sh) fun r => .one ⟨[Q_i_byteReader_one r], [⟨(.int .i64), .sh, F_i_byteReader_one r⟩], [.mp (.pair (.sl (.int .u8)) (.pair .bool .unit)) .sh (B_i_byteReader_one_r r)]⟩, [.sh], false, 0⟩
theorem ok_i_byteReader_one : ConOk pg 95 con_i_byteReader_one := ConOk.g1 (Enters.of (by kernel_rfl)) ct_i_byteReader_one

def F_i_byteReader_ended (r : (List (Int)) × (Bool) × Unit) : Bool := (!r.2.1 && decide (r.1.length = 0))
def Q_i_byteReader_ended (r : (List (Int)) × (Bool) × Unit) : Prop := True
def O_i_byteReader_ended : Opt := ⟨fun i => false, fun i => [], fun i => .done, fun i => none, fun i => false, fun i => [], fun i => false, fun i => none⟩
def τ_i_byteReader_ended : Env := Env.of [(2, (.int .i64)), (3, (.int .i64)), (4, .bool), (27, (.sl (.int .u8))), (117, (.pair (.sl (.int .u8)) (.pair .bool .unit)))] [(115, (.pair (.sl (.int .u8)) (.pair .bool .unit)))] []

theorem ct_i_byteReader_ended (r : (List (Int)) × (Bool) × Unit) : Ct pg 71 [.dptr (.pair (.sl (.int .u8)) (.pair .bool .unit)) r] ⟨[Q_i_byteReader_ended r], [⟨.bool, .sh, F_i_byteReader_ended r⟩], []⟩ := by
  refine ct_claim (O := O_i_byteReader_ended) (τ := τ_i_byteReader_ended) (EnvOk.of (by kernel_rfl) (by kernel_rfl)) (GOk.of (.nil : AllOk pg [])) mixed (Enters.of (by kernel_rfl)) (fn := Go.Proofs.Tryz.f71) (by kernel_rfl) rfl (by kernel_rfl) ?_
  intro hp hw
  have hq : Q_i_byteReader_ended r := hp _ (List.mem_singleton.2 rfl)
  clear hp
  change claim Lg.std Alg.std τ_i_byteReader_ended (Gam.of []) O_i_byteReader_ended Go.Proofs.Tryz.f71 [.dptr (.pair (.sl (.int .u8)) (.pair .bool .unit)) r] ⟨[Q_i_byteReader_ended r], [⟨.bool, .sh, F_i_byteReader_ended r⟩], []⟩
  generalize hR0 : F_i_byteReader_ended r = R0
  generalize Q_i_byteReader_ended r = Q0
  generalize hL : Lg.std = L
  generalize hA : Alg.std = A
  cbv
  subst hL hA
  try dsimp only [Ty.den]
  obtain ⟨r_0, r_1, ⟨⟩⟩ := r
  subst hR0
  simp only [Q_i_byteReader_ended] at hq
  simp only [Lg.std, Alg.std, List.drop_zero, List.take_length, F_i_byteReader_ended]
  all_goals grind
def con_i_byteReader_ended : Con := ⟨true, g1 (pP (.pair (.sl (.int .u8)) (.pair .bool .unit))) fun r => .one ⟨[Q_i_byteReader_ended r], [⟨.bool, .sh, F_i_byteReader_ended r⟩], []⟩, [], false, 0⟩
theorem ok_i_byteReader_ended : ConOk pg 71 con_i_byteReader_ended := ConOk.g1 (Enters.of (by kernel_rfl)) ct_i_byteReader_ended
end Go.Vee
