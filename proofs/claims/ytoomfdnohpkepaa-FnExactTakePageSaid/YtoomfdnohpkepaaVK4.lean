/-
  Contracts of functions of the program: what each returns for all arguments that its precondition lets in.
-/
import Derived.Test.YtoomfdnohpkepaaVK3
set_option linter.unusedSimpArgs false
set_option linter.unusedVariables false
set_option maxRecDepth 100000
set_option maxHeartbeats 4000000
set_option synthInstance.maxHeartbeats 4000000
set_option synthInstance.maxSize 20000
namespace Go.Vee
open Go
theorem ordB_nil (a : List Int) : ordB [] a = (if a.length = 0 then 0 else -1) := by cases a <;> simp [ordB]
theorem ordB_nil2 (a : List Int) : ordB a [] = (if a.length = 0 then 0 else 1) := by cases a <;> simp [ordB]
theorem ordB_cons (x y : Int) (a b : List Int) : ordB (x :: a) (y :: b) = if x < y then -1 else if y < x then 1 else ordB a b := rfl
def findI (p : Int → Bool) : List Int → Int → Int
  | [], _ => -1
  | x :: l, i => if p x then i else findI p l (i + 1)
theorem findI_any (p : Int → Bool) : ∀ (l : List Int) (i : Int), 0 ≤ i → decide (0 ≤ findI p l i) = l.any p
  | [], i, h => rfl
  | x :: l, i, h => by
    have := findI_any p l (i + 1) (by omega)
    simp only [findI, List.any_cons]
    split <;> simp_all
def badKey (k : List Int) : Bool := decide (k.length < 1 ∨ k.length > 16)
def incr : List (List Int) → Bool
  | x :: y :: l => decide (ordB x y < 0) && incr (y :: l)
  | _ => true
def nodeFault (p : Bool × List (List Int) × List Int × List Int × Unit) : Int :=
  if p.2.1.length > 4 then 2 else if p.2.1.any badKey then 2 else if incr p.2.1 = false then 1 else if p.1 then (if p.2.2.1.length ≠ p.2.1.length ∨ p.2.2.2.1.length > 0 then 1 else if p.2.2.1.any (fun v => !decide (0 ≤ v ∧ v ≤ 65535)) then 3 else 0)
  else if p.2.1.length < 1 ∨ p.2.2.1.length > 0 ∨ p.2.2.2.1.length ≠ p.2.1.length + 1 then 1 else if p.2.2.2.1.any (fun k => !decide (2 ≤ k ∧ k ≤ 63)) then 3 else 0
theorem incr_cons (x y : List Int) (l : List (List Int)) : incr (x :: y :: l) = (decide (ordB x y < 0) && incr (y :: l)) := rfl
theorem incr_short (l : List (List Int)) (h : l.length ≤ 1) : incr l = true := by
  match l with
  | [] => rfl
  | [_] => rfl
  | _ :: _ :: _ => simp at h
theorem incr_step (a : List (List Int)) (i : Nat) (h1 : 1 ≤ i) (h : i < a.length) : incr (a.drop (i - 1)) = (decide (ordB (a.getD (i - 1) []) (a.getD i []) < 0) && incr (a.drop i)) := by
  have e1 := drop_cons a [] (i - 1) (by omega)
  have e2 := drop_cons a [] i h
  rw [show i - 1 + 1 = i by omega] at e1
  rw [e1, e2, incr_cons]
theorem incr_end (a : List (List Int)) (i : Nat) (h : a.length ≤ i) : incr (a.drop (i - 1)) = true := incr_short _ (by simp; omega)

def F_i_NodeFault_1 (v : Int) : Bool := !decide (0 ≤ v ∧ v ≤ 65535)
def Q_i_NodeFault_1 (v : Int) : Prop := True
def O_i_NodeFault_1 : Opt := ⟨fun i => false, fun i => [], fun i => .done, fun i => none, fun i => false, fun i => []⟩
def τ_i_NodeFault_1 : Env := Env.of [(2, (.int .i64)), (4, .bool)] [] []

theorem ct_i_NodeFault_1 (v : Int) : Ct pg 200 [.dat (.int .i64) v] ⟨[Q_i_NodeFault_1 v], [⟨.bool, .sh, F_i_NodeFault_1 v⟩], []⟩ := by
  refine ct_claim (O := O_i_NodeFault_1) (τ := τ_i_NodeFault_1) (EnvOk.of (by kernel_rfl) (by kernel_rfl)) (GOk.of (.cons ok_i_within .nil : AllOk pg [(101, con_i_within)])) mixed (Enters.of (by kernel_rfl)) (fn := Go.Proofs.Try.f200) (by kernel_rfl) rfl (by kernel_rfl) ?_
  intro hp hw
  have hq : Q_i_NodeFault_1 v := hp _ (List.mem_singleton.2 rfl)
  clear hp
  change claim Lg.std Alg.std τ_i_NodeFault_1 (Gam.of [(101, ⟨true, g3 (pD (.int .i64)) (pD (.int .i64)) (pD (.int .i64)) fun n lo hi => ⟨[Q_i_within n lo hi], [⟨.bool, .sh, F_i_within n lo hi⟩], []⟩, [], false, 0⟩)]) O_i_NodeFault_1 Go.Proofs.Try.f200 [.dat (.int .i64) v] ⟨[Q_i_NodeFault_1 v], [⟨.bool, .sh, F_i_NodeFault_1 v⟩], []⟩
  generalize hg_F_i_within : F_i_within = g_F_i_within
  generalize hg_Q_i_within : Q_i_within = g_Q_i_within
  generalize hR0 : F_i_NodeFault_1 v = R0
  generalize Q_i_NodeFault_1 v = Q0
  generalize hL : Lg.std = L
  generalize hA : Alg.std = A
  cbv
  subst hL hA
  try dsimp only [Ty.den]
  subst hR0 hg_F_i_within hg_Q_i_within
  simp only [Q_i_NodeFault_1] at hq
  simp only [Lg.std, Alg.std, List.drop_zero, List.take_length, F_i_within, Q_i_within, F_i_NodeFault_1]
  all_goals grind
def con_i_NodeFault_1 : Con := ⟨true, g1 (pD (.int .i64)) fun v => ⟨[Q_i_NodeFault_1 v], [⟨.bool, .sh, F_i_NodeFault_1 v⟩], []⟩, [], false, 0⟩
theorem ok_i_NodeFault_1 : ConOk pg 200 con_i_NodeFault_1 := ConOk.g1 (Enters.of (by kernel_rfl)) ct_i_NodeFault_1

def F_i_NodeFault_2 (k : Int) : Bool := !decide (2 ≤ k ∧ k ≤ 63)
def Q_i_NodeFault_2 (k : Int) : Prop := True
def O_i_NodeFault_2 : Opt := ⟨fun i => false, fun i => [], fun i => .done, fun i => none, fun i => false, fun i => []⟩
def τ_i_NodeFault_2 : Env := Env.of [(2, (.int .i64)), (4, .bool)] [] []

theorem ct_i_NodeFault_2 (k : Int) : Ct pg 201 [.dat (.int .i64) k] ⟨[Q_i_NodeFault_2 k], [⟨.bool, .sh, F_i_NodeFault_2 k⟩], []⟩ := by
  refine ct_claim (O := O_i_NodeFault_2) (τ := τ_i_NodeFault_2) (EnvOk.of (by kernel_rfl) (by kernel_rfl)) (GOk.of (.cons ok_i_isPage .nil : AllOk pg [(180, con_i_isPage)])) mixed (Enters.of (by kernel_rfl)) (fn := Go.Proofs.Try.f201) (by kernel_rfl) rfl (by kernel_rfl) ?_
  intro hp hw
  have hq : Q_i_NodeFault_2 k := hp _ (List.mem_singleton.2 rfl)
  clear hp
  change claim Lg.std Alg.std τ_i_NodeFault_2 (Gam.of [(180, ⟨true, g1 (pD (.int .i64)) fun n => ⟨[Q_i_isPage n], [⟨.bool, .sh, F_i_isPage n⟩], []⟩, [], false, 0⟩)]) O_i_NodeFault_2 Go.Proofs.Try.f201 [.dat (.int .i64) k] ⟨[Q_i_NodeFault_2 k], [⟨.bool, .sh, F_i_NodeFault_2 k⟩], []⟩
  generalize hg_F_i_isPage : F_i_isPage = g_F_i_isPage
  generalize hg_Q_i_isPage : Q_i_isPage = g_Q_i_isPage
  generalize hR0 : F_i_NodeFault_2 k = R0
  generalize Q_i_NodeFault_2 k = Q0
  generalize hL : Lg.std = L
  generalize hA : Alg.std = A
  cbv
  subst hL hA
  try dsimp only [Ty.den]
  subst hR0 hg_F_i_isPage hg_Q_i_isPage
  simp only [Q_i_NodeFault_2] at hq
  simp only [Lg.std, Alg.std, List.drop_zero, List.take_length, F_i_isPage, Q_i_isPage, F_i_NodeFault_2]
  all_goals grind
def con_i_NodeFault_2 : Con := ⟨true, g1 (pD (.int .i64)) fun k => ⟨[Q_i_NodeFault_2 k], [⟨.bool, .sh, F_i_NodeFault_2 k⟩], []⟩, [], false, 0⟩
theorem ok_i_NodeFault_2 : ConOk pg 201 con_i_NodeFault_2 := ConOk.g1 (Enters.of (by kernel_rfl)) ct_i_NodeFault_2

def F_sl_IndexFunc_int64__i_NodeFault_1 (s : List (Int)) (u : Unit) : Int := findI (fun v => !decide (0 ≤ v ∧ v ≤ 65535)) s 0
def Q_sl_IndexFunc_int64__i_NodeFault_1 (s : List (Int)) (u : Unit) : Prop := True
def O_sl_IndexFunc_int64__i_NodeFault_1 : Opt := ⟨fun i => false, fun i => (match decide (i = 2) with | true => [true, true, false, false, false, false, false, true, true, false, false, false, false, false, false, false, false, false, false] | false => []), fun i => .done, fun i => none, fun i => false, fun i => []⟩
def τ_sl_IndexFunc_int64__i_NodeFault_1 : Env := Env.of [(2, (.int .i64)), (3, (.int .i64)), (4, .bool), (43, (.sl (.int .i64)))] [] []

theorem ct_sl_IndexFunc_int64__i_NodeFault_1 (s : List (Int)) (u : Unit) : Ct pg 156 [.dat (.sl (.int .i64)) s, .clo 200 []] ⟨[Q_sl_IndexFunc_int64__i_NodeFault_1 s u], [⟨(.int .i64), .sh, F_sl_IndexFunc_int64__i_NodeFault_1 s u⟩], []⟩ := by
  refine ct_claim (O := O_sl_IndexFunc_int64__i_NodeFault_1) (τ := τ_sl_IndexFunc_int64__i_NodeFault_1) (EnvOk.of (by kernel_rfl) (by kernel_rfl)) (GOk.of (.cons ok_i_NodeFault_1 .nil : AllOk pg [(200, con_i_NodeFault_1)])) mixed (Enters.of (by kernel_rfl)) (fn := Go.Proofs.Try.f156) (by kernel_rfl) rfl (by kernel_rfl) ?_
  intro hp hw
  have hq : Q_sl_IndexFunc_int64__i_NodeFault_1 s u := hp _ (List.mem_singleton.2 rfl)
  clear hp
  change claim Lg.std Alg.std τ_sl_IndexFunc_int64__i_NodeFault_1 (Gam.of [(200, ⟨true, g1 (pD (.int .i64)) fun v => ⟨[Q_i_NodeFault_1 v], [⟨.bool, .sh, F_i_NodeFault_1 v⟩], []⟩, [], false, 0⟩)]) O_sl_IndexFunc_int64__i_NodeFault_1 Go.Proofs.Try.f156 [.dat (.sl (.int .i64)) s, .clo 200 []] ⟨[Q_sl_IndexFunc_int64__i_NodeFault_1 s u], [⟨(.int .i64), .sh, F_sl_IndexFunc_int64__i_NodeFault_1 s u⟩], []⟩
  generalize hg_F_i_NodeFault_1 : F_i_NodeFault_1 = g_F_i_NodeFault_1
  generalize hg_Q_i_NodeFault_1 : Q_i_NodeFault_1 = g_Q_i_NodeFault_1
  generalize hR0 : F_sl_IndexFunc_int64__i_NodeFault_1 s u = R0
  generalize Q_sl_IndexFunc_int64__i_NodeFault_1 s u = Q0
  generalize hL : Lg.std = L
  generalize hA : Alg.std = A
  cbv
  subst hL hA
  try dsimp only [Ty.den]
  refine lp_v (V := (Int) × (Int)) (fun ((i, M) : (Int) × (Int)) => ⟨[.dat (.sl (.int .i64)) s, .clo 200 [], .junk, .junk, .junk, .junk, .junk, .dat (.int .i64) M, .dat (.int .i64) i, .junk, .junk, .junk, .junk, .junk, .junk, .junk, .junk, .junk, .junk], []⟩) (fun ((i, M) : (Int) × (Int)) => M = s.length ∧ 0 ≤ i ∧ i ≤ s.length ∧ findI (fun v => !decide (0 ≤ v ∧ v ≤ 65535)) s 0 = findI (fun v => !decide (0 ≤ v ∧ v ≤ 65535)) (s.drop i.toNat) i) (fun ((i, M) : (Int) × (Int)) => s.length - i.toNat) (0, _) rfl ?_ ?_
  · simp [Alg.std]
  rintro ⟨i, M⟩ hf I hI
  replace hf : M = s.length ∧ 0 ≤ i ∧ i ≤ s.length ∧ findI (fun v => !decide (0 ≤ v ∧ v ≤ 65535)) s 0 = findI (fun v => !decide (0 ≤ v ∧ v ≤ 65535)) (s.drop i.toNat) i := hf
  generalize hL : Lg.std = L
  generalize hA : Alg.std = A
  cbv
  subst hL hA
  try dsimp only [Ty.den]
  subst hI
  simp only [Lg.std, Alg.std, List.drop_zero, List.take_length]
  obtain ⟨h1, h2, h3, h4⟩ := hf
  have hl := hw.1.1
  have hdc := fun (h : i.toNat < s.length) => drop_cons s 0 i.toNat h
  have he := fun (h : s.length ≤ i.toNat) => drop_nil s i.toNat h
  repeat' (first | intro _ | apply And.intro)
  all_goals (try refine ⟨(_, _), rfl, ?_, ?_⟩)
  all_goals subst hR0 hg_F_i_NodeFault_1 hg_Q_i_NodeFault_1
  all_goals (try simp only [F_i_NodeFault_1, Q_i_NodeFault_1, F_sl_IndexFunc_int64__i_NodeFault_1] at *)
  all_goals grind [findI]
def con_sl_IndexFunc_int64__i_NodeFault_1 : Con := ⟨true, g2 (pD (.sl (.int .i64))) (pC0 200) fun s u => ⟨[Q_sl_IndexFunc_int64__i_NodeFault_1 s u], [⟨(.int .i64), .sh, F_sl_IndexFunc_int64__i_NodeFault_1 s u⟩], []⟩, [], false, 0⟩
theorem ok_sl_IndexFunc_int64__i_NodeFault_1 : ConOk pg 156 con_sl_IndexFunc_int64__i_NodeFault_1 := ConOk.g2 (Enters.of (by kernel_rfl)) ct_sl_IndexFunc_int64__i_NodeFault_1

def F_sl_ContainsFunc_int64__i_NodeFault_1 (s : List (Int)) (u : Unit) : Bool := s.any (fun v => !decide (0 ≤ v ∧ v ≤ 65535))
def Q_sl_ContainsFunc_int64__i_NodeFault_1 (s : List (Int)) (u : Unit) : Prop := True
def O_sl_ContainsFunc_int64__i_NodeFault_1 : Opt := ⟨fun i => false, fun i => [], fun i => .done, fun i => none, fun i => false, fun i => []⟩
def τ_sl_ContainsFunc_int64__i_NodeFault_1 : Env := Env.of [(3, (.int .i64)), (4, .bool), (43, (.sl (.int .i64)))] [] []

theorem ct_sl_ContainsFunc_int64__i_NodeFault_1 (s : List (Int)) (u : Unit) : Ct pg 99 [.dat (.sl (.int .i64)) s, .clo 200 []] ⟨[Q_sl_ContainsFunc_int64__i_NodeFault_1 s u], [⟨.bool, .sh, F_sl_ContainsFunc_int64__i_NodeFault_1 s u⟩], []⟩ := by
  refine ct_claim (O := O_sl_ContainsFunc_int64__i_NodeFault_1) (τ := τ_sl_ContainsFunc_int64__i_NodeFault_1) (EnvOk.of (by kernel_rfl) (by kernel_rfl)) (GOk.of (.cons ok_i_NodeFault_1 (.cons ok_sl_IndexFunc_int64__i_NodeFault_1 .nil) : AllOk pg [(200, con_i_NodeFault_1), (156, con_sl_IndexFunc_int64__i_NodeFault_1)])) mixed (Enters.of (by kernel_rfl)) (fn := Go.Proofs.Try.f99) (by kernel_rfl) rfl (by kernel_rfl) ?_
  intro hp hw
  have hq : Q_sl_ContainsFunc_int64__i_NodeFault_1 s u := hp _ (List.mem_singleton.2 rfl)
  clear hp
  change claim Lg.std Alg.std τ_sl_ContainsFunc_int64__i_NodeFault_1 (Gam.of [(200, ⟨true, g1 (pD (.int .i64)) fun v => ⟨[Q_i_NodeFault_1 v], [⟨.bool, .sh, F_i_NodeFault_1 v⟩], []⟩, [], false, 0⟩), (156, ⟨true, g2 (pD (.sl (.int .i64))) (pC0 200) fun s u => ⟨[Q_sl_IndexFunc_int64__i_NodeFault_1 s u], [⟨(.int .i64), .sh, F_sl_IndexFunc_int64__i_NodeFault_1 s u⟩], []⟩, [], false, 0⟩)]) O_sl_ContainsFunc_int64__i_NodeFault_1 Go.Proofs.Try.f99 [.dat (.sl (.int .i64)) s, .clo 200 []] ⟨[Q_sl_ContainsFunc_int64__i_NodeFault_1 s u], [⟨.bool, .sh, F_sl_ContainsFunc_int64__i_NodeFault_1 s u⟩], []⟩
  generalize hg_F_i_NodeFault_1 : F_i_NodeFault_1 = g_F_i_NodeFault_1
  generalize hg_Q_i_NodeFault_1 : Q_i_NodeFault_1 = g_Q_i_NodeFault_1
  generalize hg_F_sl_IndexFunc_int64__i_NodeFault_1 : F_sl_IndexFunc_int64__i_NodeFault_1 = g_F_sl_IndexFunc_int64__i_NodeFault_1
  generalize hg_Q_sl_IndexFunc_int64__i_NodeFault_1 : Q_sl_IndexFunc_int64__i_NodeFault_1 = g_Q_sl_IndexFunc_int64__i_NodeFault_1
  generalize hR0 : F_sl_ContainsFunc_int64__i_NodeFault_1 s u = R0
  generalize Q_sl_ContainsFunc_int64__i_NodeFault_1 s u = Q0
  generalize hL : Lg.std = L
  generalize hA : Alg.std = A
  cbv
  subst hL hA
  try dsimp only [Ty.den]
  have hf := findI_any (fun v => !decide (0 ≤ v ∧ v ≤ 65535)) s 0 (by omega)
  subst hR0 hg_F_i_NodeFault_1 hg_Q_i_NodeFault_1 hg_F_sl_IndexFunc_int64__i_NodeFault_1 hg_Q_sl_IndexFunc_int64__i_NodeFault_1
  simp only [Q_sl_ContainsFunc_int64__i_NodeFault_1] at hq
  simp only [Lg.std, Alg.std, List.drop_zero, List.take_length, F_i_NodeFault_1, F_sl_IndexFunc_int64__i_NodeFault_1, Q_i_NodeFault_1, Q_sl_IndexFunc_int64__i_NodeFault_1, F_sl_ContainsFunc_int64__i_NodeFault_1]
  all_goals grind
def con_sl_ContainsFunc_int64__i_NodeFault_1 : Con := ⟨true, g2 (pD (.sl (.int .i64))) (pC0 200) fun s u => ⟨[Q_sl_ContainsFunc_int64__i_NodeFault_1 s u], [⟨.bool, .sh, F_sl_ContainsFunc_int64__i_NodeFault_1 s u⟩], []⟩, [], false, 0⟩
theorem ok_sl_ContainsFunc_int64__i_NodeFault_1 : ConOk pg 99 con_sl_ContainsFunc_int64__i_NodeFault_1 := ConOk.g2 (Enters.of (by kernel_rfl)) ct_sl_ContainsFunc_int64__i_NodeFault_1

def F_sl_IndexFunc_int64__i_NodeFault_2 (s : List (Int)) (u : Unit) : Int := findI (fun k => !decide (2 ≤ k ∧ k ≤ 63)) s 0
def Q_sl_IndexFunc_int64__i_NodeFault_2 (s : List (Int)) (u : Unit) : Prop := True
def O_sl_IndexFunc_int64__i_NodeFault_2 : Opt := ⟨fun i => false, fun i => (match decide (i = 2) with | true => [true, true, false, false, false, false, false, true, true, false, false, false, false, false, false, false, false, false, false] | false => []), fun i => .done, fun i => none, fun i => false, fun i => []⟩
def τ_sl_IndexFunc_int64__i_NodeFault_2 : Env := Env.of [(2, (.int .i64)), (3, (.int .i64)), (4, .bool), (43, (.sl (.int .i64)))] [] []

theorem ct_sl_IndexFunc_int64__i_NodeFault_2 (s : List (Int)) (u : Unit) : Ct pg 156 [.dat (.sl (.int .i64)) s, .clo 201 []] ⟨[Q_sl_IndexFunc_int64__i_NodeFault_2 s u], [⟨(.int .i64), .sh, F_sl_IndexFunc_int64__i_NodeFault_2 s u⟩], []⟩ := by
  refine ct_claim (O := O_sl_IndexFunc_int64__i_NodeFault_2) (τ := τ_sl_IndexFunc_int64__i_NodeFault_2) (EnvOk.of (by kernel_rfl) (by kernel_rfl)) (GOk.of (.cons ok_i_NodeFault_2 .nil : AllOk pg [(201, con_i_NodeFault_2)])) mixed (Enters.of (by kernel_rfl)) (fn := Go.Proofs.Try.f156) (by kernel_rfl) rfl (by kernel_rfl) ?_
  intro hp hw
  have hq : Q_sl_IndexFunc_int64__i_NodeFault_2 s u := hp _ (List.mem_singleton.2 rfl)
  clear hp
  change claim Lg.std Alg.std τ_sl_IndexFunc_int64__i_NodeFault_2 (Gam.of [(201, ⟨true, g1 (pD (.int .i64)) fun k => ⟨[Q_i_NodeFault_2 k], [⟨.bool, .sh, F_i_NodeFault_2 k⟩], []⟩, [], false, 0⟩)]) O_sl_IndexFunc_int64__i_NodeFault_2 Go.Proofs.Try.f156 [.dat (.sl (.int .i64)) s, .clo 201 []] ⟨[Q_sl_IndexFunc_int64__i_NodeFault_2 s u], [⟨(.int .i64), .sh, F_sl_IndexFunc_int64__i_NodeFault_2 s u⟩], []⟩
  generalize hg_F_i_NodeFault_2 : F_i_NodeFault_2 = g_F_i_NodeFault_2
  generalize hg_Q_i_NodeFault_2 : Q_i_NodeFault_2 = g_Q_i_NodeFault_2
  generalize hR0 : F_sl_IndexFunc_int64__i_NodeFault_2 s u = R0
  generalize Q_sl_IndexFunc_int64__i_NodeFault_2 s u = Q0
  generalize hL : Lg.std = L
  generalize hA : Alg.std = A
  cbv
  subst hL hA
  try dsimp only [Ty.den]
  refine lp_v (V := (Int) × (Int)) (fun ((i, M) : (Int) × (Int)) => ⟨[.dat (.sl (.int .i64)) s, .clo 201 [], .junk, .junk, .junk, .junk, .junk, .dat (.int .i64) M, .dat (.int .i64) i, .junk, .junk, .junk, .junk, .junk, .junk, .junk, .junk, .junk, .junk], []⟩) (fun ((i, M) : (Int) × (Int)) => M = s.length ∧ 0 ≤ i ∧ i ≤ s.length ∧ findI (fun k => !decide (2 ≤ k ∧ k ≤ 63)) s 0 = findI (fun k => !decide (2 ≤ k ∧ k ≤ 63)) (s.drop i.toNat) i) (fun ((i, M) : (Int) × (Int)) => s.length - i.toNat) (0, _) rfl ?_ ?_
  · simp [Alg.std]
  rintro ⟨i, M⟩ hf I hI
  replace hf : M = s.length ∧ 0 ≤ i ∧ i ≤ s.length ∧ findI (fun k => !decide (2 ≤ k ∧ k ≤ 63)) s 0 = findI (fun k => !decide (2 ≤ k ∧ k ≤ 63)) (s.drop i.toNat) i := hf
  generalize hL : Lg.std = L
  generalize hA : Alg.std = A
  cbv
  subst hL hA
  try dsimp only [Ty.den]
  subst hI
  simp only [Lg.std, Alg.std, List.drop_zero, List.take_length]
  obtain ⟨h1, h2, h3, h4⟩ := hf
  have hl := hw.1.1
  have hdc := fun (h : i.toNat < s.length) => drop_cons s 0 i.toNat h
  have he := fun (h : s.length ≤ i.toNat) => drop_nil s i.toNat h
  repeat' (first | intro _ | apply And.intro)
  all_goals (try refine ⟨(_, _), rfl, ?_, ?_⟩)
  all_goals subst hR0 hg_F_i_NodeFault_2 hg_Q_i_NodeFault_2
  all_goals (try simp only [F_i_NodeFault_2, Q_i_NodeFault_2, F_sl_IndexFunc_int64__i_NodeFault_2] at *)
  all_goals grind [findI]
def con_sl_IndexFunc_int64__i_NodeFault_2 : Con := ⟨true, g2 (pD (.sl (.int .i64))) (pC0 201) fun s u => ⟨[Q_sl_IndexFunc_int64__i_NodeFault_2 s u], [⟨(.int .i64), .sh, F_sl_IndexFunc_int64__i_NodeFault_2 s u⟩], []⟩, [], false, 0⟩
theorem ok_sl_IndexFunc_int64__i_NodeFault_2 : ConOk pg 156 con_sl_IndexFunc_int64__i_NodeFault_2 := ConOk.g2 (Enters.of (by kernel_rfl)) ct_sl_IndexFunc_int64__i_NodeFault_2

def F_sl_ContainsFunc_int64__i_NodeFault_2 (s : List (Int)) (u : Unit) : Bool := s.any (fun k => !decide (2 ≤ k ∧ k ≤ 63))
def Q_sl_ContainsFunc_int64__i_NodeFault_2 (s : List (Int)) (u : Unit) : Prop := True
def O_sl_ContainsFunc_int64__i_NodeFault_2 : Opt := ⟨fun i => false, fun i => [], fun i => .done, fun i => none, fun i => false, fun i => []⟩
def τ_sl_ContainsFunc_int64__i_NodeFault_2 : Env := Env.of [(3, (.int .i64)), (4, .bool), (43, (.sl (.int .i64)))] [] []

theorem ct_sl_ContainsFunc_int64__i_NodeFault_2 (s : List (Int)) (u : Unit) : Ct pg 99 [.dat (.sl (.int .i64)) s, .clo 201 []] ⟨[Q_sl_ContainsFunc_int64__i_NodeFault_2 s u], [⟨.bool, .sh, F_sl_ContainsFunc_int64__i_NodeFault_2 s u⟩], []⟩ := by
  refine ct_claim (O := O_sl_ContainsFunc_int64__i_NodeFault_2) (τ := τ_sl_ContainsFunc_int64__i_NodeFault_2) (EnvOk.of (by kernel_rfl) (by kernel_rfl)) (GOk.of (.cons ok_i_NodeFault_2 (.cons (ConOk.or ok_sl_IndexFunc_int64__i_NodeFault_1 ok_sl_IndexFunc_int64__i_NodeFault_2) .nil) : AllOk pg [(201, con_i_NodeFault_2), (156, (Con.or con_sl_IndexFunc_int64__i_NodeFault_1 con_sl_IndexFunc_int64__i_NodeFault_2))])) mixed (Enters.of (by kernel_rfl)) (fn := Go.Proofs.Try.f99) (by kernel_rfl) rfl (by kernel_rfl) ?_
  intro hp hw
  have hq : Q_sl_ContainsFunc_int64__i_NodeFault_2 s u := hp _ (List.mem_singleton.2 rfl)
  clear hp
  change claim Lg.std Alg.std τ_sl_ContainsFunc_int64__i_NodeFault_2 (Gam.of [(201, ⟨true, g1 (pD (.int .i64)) fun k => ⟨[Q_i_NodeFault_2 k], [⟨.bool, .sh, F_i_NodeFault_2 k⟩], []⟩, [], false, 0⟩), (156, Con.or (⟨true, g2 (pD (.sl (.int .i64))) (pC0 200) fun s u => ⟨[Q_sl_IndexFunc_int64__i_NodeFault_1 s u], [⟨(.int .i64), .sh, F_sl_IndexFunc_int64__i_NodeFault_1 s u⟩], []⟩, [], false, 0⟩ : Con) (⟨true, g2 (pD (.sl (.int .i64))) (pC0 201) fun s u => ⟨[Q_sl_IndexFunc_int64__i_NodeFault_2 s u], [⟨(.int .i64), .sh, F_sl_IndexFunc_int64__i_NodeFault_2 s u⟩], []⟩, [], false, 0⟩))]) O_sl_ContainsFunc_int64__i_NodeFault_2 Go.Proofs.Try.f99 [.dat (.sl (.int .i64)) s, .clo 201 []] ⟨[Q_sl_ContainsFunc_int64__i_NodeFault_2 s u], [⟨.bool, .sh, F_sl_ContainsFunc_int64__i_NodeFault_2 s u⟩], []⟩
  generalize hg_F_i_NodeFault_2 : F_i_NodeFault_2 = g_F_i_NodeFault_2
  generalize hg_Q_i_NodeFault_2 : Q_i_NodeFault_2 = g_Q_i_NodeFault_2
  generalize hg_F_sl_IndexFunc_int64__i_NodeFault_1 : F_sl_IndexFunc_int64__i_NodeFault_1 = g_F_sl_IndexFunc_int64__i_NodeFault_1
  generalize hg_Q_sl_IndexFunc_int64__i_NodeFault_1 : Q_sl_IndexFunc_int64__i_NodeFault_1 = g_Q_sl_IndexFunc_int64__i_NodeFault_1
  generalize hg_F_sl_IndexFunc_int64__i_NodeFault_2 : F_sl_IndexFunc_int64__i_NodeFault_2 = g_F_sl_IndexFunc_int64__i_NodeFault_2
  generalize hg_Q_sl_IndexFunc_int64__i_NodeFault_2 : Q_sl_IndexFunc_int64__i_NodeFault_2 = g_Q_sl_IndexFunc_int64__i_NodeFault_2
  generalize hR0 : F_sl_ContainsFunc_int64__i_NodeFault_2 s u = R0
  generalize Q_sl_ContainsFunc_int64__i_NodeFault_2 s u = Q0
  generalize hL : Lg.std = L
  generalize hA : Alg.std = A
  cbv
  subst hL hA
  try dsimp only [Ty.den]
  have hf := findI_any (fun k => !decide (2 ≤ k ∧ k ≤ 63)) s 0 (by omega)
  subst hR0 hg_F_i_NodeFault_2 hg_Q_i_NodeFault_2 hg_F_sl_IndexFunc_int64__i_NodeFault_1 hg_Q_sl_IndexFunc_int64__i_NodeFault_1 hg_F_sl_IndexFunc_int64__i_NodeFault_2 hg_Q_sl_IndexFunc_int64__i_NodeFault_2
  simp only [Q_sl_ContainsFunc_int64__i_NodeFault_2] at hq
  simp only [Lg.std, Alg.std, List.drop_zero, List.take_length, F_i_NodeFault_2, F_sl_IndexFunc_int64__i_NodeFault_1, F_sl_IndexFunc_int64__i_NodeFault_2, Q_i_NodeFault_2, Q_sl_IndexFunc_int64__i_NodeFault_1, Q_sl_IndexFunc_int64__i_NodeFault_2, F_sl_ContainsFunc_int64__i_NodeFault_2]
  all_goals grind
def con_sl_ContainsFunc_int64__i_NodeFault_2 : Con := ⟨true, g2 (pD (.sl (.int .i64))) (pC0 201) fun s u => ⟨[Q_sl_ContainsFunc_int64__i_NodeFault_2 s u], [⟨.bool, .sh, F_sl_ContainsFunc_int64__i_NodeFault_2 s u⟩], []⟩, [], false, 0⟩
theorem ok_sl_ContainsFunc_int64__i_NodeFault_2 : ConOk pg 99 con_sl_ContainsFunc_int64__i_NodeFault_2 := ConOk.g2 (Enters.of (by kernel_rfl)) ct_sl_ContainsFunc_int64__i_NodeFault_2
end Go.Vee
