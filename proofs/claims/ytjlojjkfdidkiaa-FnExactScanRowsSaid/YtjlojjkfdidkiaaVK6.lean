/-
  Contracts of functions of the program: what each returns for all arguments that its precondition lets in.
-/
import Derived.Test.YtjlojjkfdidkiaaVK5
set_option linter.unusedSimpArgs false
set_option linter.unusedVariables false
set_option maxRecDepth 100000
set_option maxHeartbeats 4000000
set_option synthInstance.maxHeartbeats 4000000
set_option synthInstance.maxSize 20000000
namespace Go.Vee
open Go
theorem ordB_nil (a : List Int) : ordB [] a = (if a.length = 0 then 0 else -1) := by cases a <;> simp [ordB]
theorem ordB_nil2 (a : List Int) : ordB a [] = (if a.length = 0 then 0 else 1) := by cases a <;> simp [ordB]
theorem ordB_cons (x y : Int) (a b : List Int) : ordB (x :: a) (y :: b) = if x < y then -1 else if y < x then 1 else ordB a b := rfl
def findI (p : Int → Bool) : List Int → Int → Int
  | [], _ => -1
  | x :: l, i => if p x then i else findI p l (i + 1)
theorem findI_any (p : Int → Bool) : ∀ (l : List Int) (i : Int), 0 ≤ i → decide (0 ≤ findI p l i) = l.any p
  | [], i, h => rfl
  | x :: l, i, h => by
    have := findI_any p l (i + 1) (by omega)
    simp only [findI, List.any_cons]
    split <;> simp_all
def badKey (k : List Int) : Bool := decide (k.length < 1 ∨ k.length > 16)
def incr : List (List Int) → Bool
  | x :: y :: l => decide (ordB x y < 0) && incr (y :: l)
  | _ => true
def nodeFault (p : Bool × List (List Int) × List Int × List Int × Unit) : Int :=
  if p.2.1.length > 4 then 2 else if p.2.1.any badKey then 2 else if incr p.2.1 = false then 1 else if p.1 then (if p.2.2.1.length ≠ p.2.1.length ∨ p.2.2.2.1.length > 0 then 1 else if p.2.2.1.any (fun v => !decide (0 ≤ v ∧ v ≤ 65535)) then 3 else 0)
  else if p.2.1.length < 1 ∨ p.2.2.1.length > 0 ∨ p.2.2.2.1.length ≠ p.2.1.length + 1 then 1 else if p.2.2.2.1.any (fun k => !decide (2 ≤ k ∧ k ≤ 63)) then 3 else 0
theorem incr_cons (x y : List Int) (l : List (List Int)) : incr (x :: y :: l) = (decide (ordB x y < 0) && incr (y :: l)) := rfl
theorem incr_short (l : List (List Int)) (h : l.length ≤ 1) : incr l = true := by
  match l with
  | [] => rfl
  | [_] => rfl
  | _ :: _ :: _ => simp at h
theorem incr_step (a : List (List Int)) (i : Nat) (h1 : 1 ≤ i) (h : i < a.length) : incr (a.drop (i - 1)) = (decide (ordB (a.getD (i - 1) []) (a.getD i []) < 0) && incr (a.drop i)) := by
  have e1 := drop_cons a [] (i - 1) (by omega)
  have e2 := drop_cons a [] i h
  rw [show i - 1 + 1 = i by omega] at e1
  rw [e1, e2, incr_cons]
theorem incr_end (a : List (List Int)) (i : Nat) (h : a.length ≤ i) : incr (a.drop (i - 1)) = true := incr_short _ (by simp; omega)


def F_bytealg_Compare (a : List (Int)) (b : List (Int)) : Int := ordB a b
def Q_bytealg_Compare (a : List (Int)) (b : List (Int)) : Prop := True
def con_bytealg_Compare : Con := ⟨false, g2 (pD (.sl (.int .u8))) (pD (.sl (.int .u8))) fun a b => .one ⟨[Q_bytealg_Compare a b], [⟨(.int .i64), .sh, F_bytealg_Compare a b⟩], []⟩, [], false, 0⟩
theorem ok_bytealg_Compare : ConOk pg 117 con_bytealg_Compare := ok_compare (fn := Go.Proofs.Try.f117) (by kernel_rfl) (by kernel_rfl) (by kernel_rfl) (by kernel_rfl) (by kernel_rfl) Q_bytealg_Compare F_bytealg_Compare (fun _ _ => rfl)

def F_b_Compare (a : List (Int)) (b : List (Int)) : Int := ordB a b
def Q_b_Compare (a : List (Int)) (b : List (Int)) : Prop := True
def O_b_Compare : Opt := ⟨fun i => false, fun i => [], fun i => .done, fun i => none, fun i => false, fun i => [], fun i => false, fun i => none, fun i => none⟩
def τ_b_Compare : Env := Env.of [(3, (.int .i64)), (4, .bool), (34, (.sl (.int .u8)))] [] []

theorem ct_b_Compare (a : List (Int)) (b : List (Int)) : Ct pg 68 [.dat (.sl (.int .u8)) a, .dat (.sl (.int .u8)) b] ⟨[Q_b_Compare a b], [⟨(.int .i64), .sh, F_b_Compare a b⟩], []⟩ := by
  refine ct_claim (O := O_b_Compare) (τ := τ_b_Compare) (EnvOk.of (by kernel_rfl) (by kernel_rfl)) (GOk.of (.cons ok_bytealg_Compare .nil : AllOk pg [(117, con_bytealg_Compare)])) mixed (Enters.of (by kernel_rfl)) (fn := Go.Proofs.Try.f68) (by kernel_rfl) rfl (by kernel_rfl) ?_
  intro hp hw
  have hq : Q_b_Compare a b := hp _ (List.mem_singleton.2 rfl)
  clear hp
  change claim Lg.std Alg.std τ_b_Compare (Gam.of [(117, con_bytealg_Compare)]) O_b_Compare Go.Proofs.Try.f68 [.dat (.sl (.int .u8)) a, .dat (.sl (.int .u8)) b] ⟨[Q_b_Compare a b], [⟨(.int .i64), .sh, F_b_Compare a b⟩], []⟩
  delta con_bytealg_Compare
  generalize hg_F_bytealg_Compare : F_bytealg_Compare = g_F_bytealg_Compare
  generalize hg_Q_bytealg_Compare : Q_bytealg_Compare = g_Q_bytealg_Compare
  generalize hR0 : F_b_Compare a b = R0
  generalize Q_b_Compare a b = Q0
  generalize hL : Lg.std = L
  generalize hA : Alg.std = A
  cbv
  subst hL hA
  try dsimp only [Ty.den]
  subst hR0 hg_F_bytealg_Compare hg_Q_bytealg_Compare
  simp only [Q_b_Compare] at hq
  simp only [Lg.std, Alg.std, List.drop_zero, List.take_length, F_bytealg_Compare, Q_bytealg_Compare, F_b_Compare]
  all_goals grind
def con_b_Compare : Con := ⟨true, g2 (pD (.sl (.int .u8))) (pD (.sl (.int .u8))) fun a b => .one ⟨[Q_b_Compare a b], [⟨(.int .i64), .sh, F_b_Compare a b⟩], []⟩, [], false, 0⟩
theorem ok_b_Compare : ConOk pg 68 con_b_Compare := ConOk.g2 (Enters.of (by kernel_rfl)) ct_b_Compare

def F_s_l1Order (a : List (Int)) (b : List (Int)) : Int := ordB a b
def Q_s_l1Order (a : List (Int)) (b : List (Int)) : Prop := True
def O_s_l1Order : Opt := ⟨fun i => (match decide (i = 6) with | true => true | false => (match decide (i = 4) with | true => true | false => false)), fun i => (match decide (i = 2) with | true => [true, true, false, false, false, true, false, false, false, false, false, false, false, false, false, false, false, false, false, false, false, false, false, false, false, false, false, false, false, false, false, false, false, false, false, false, false, false, false, false, false, false, false, false, false, false, false, false] | false => []), fun i => .done, fun i => none, fun i => false, fun i => [], fun i => false, fun i => none, fun i => none⟩
def τ_s_l1Order : Env := Env.of [(2, (.int .i64)), (3, (.int .i64)), (4, .bool), (5, (.int .u8)), (34, (.sl (.int .u8)))] [] []

theorem ct_s_l1Order (a : List (Int)) (b : List (Int)) : Ct pg 116 [.dat (.sl (.int .u8)) a, .dat (.sl (.int .u8)) b] ⟨[Q_s_l1Order a b], [⟨(.int .i64), .sh, F_s_l1Order a b⟩], []⟩ := by
  refine ct_claim (O := O_s_l1Order) (τ := τ_s_l1Order) (EnvOk.of (by kernel_rfl) (by kernel_rfl)) (GOk.of (.nil : AllOk pg [])) mixed (Enters.of (by kernel_rfl)) (fn := Go.Proofs.Try.f116) (by kernel_rfl) rfl (by kernel_rfl) ?_
  intro hp hw
  have hq : Q_s_l1Order a b := hp _ (List.mem_singleton.2 rfl)
  clear hp
  change claim Lg.std Alg.std τ_s_l1Order (Gam.of []) O_s_l1Order Go.Proofs.Try.f116 [.dat (.sl (.int .u8)) a, .dat (.sl (.int .u8)) b] ⟨[Q_s_l1Order a b], [⟨(.int .i64), .sh, F_s_l1Order a b⟩], []⟩
  generalize hR0 : F_s_l1Order a b = R0
  generalize Q_s_l1Order a b = Q0
  generalize hL : Lg.std = L
  generalize hA : Alg.std = A
  cbv
  subst hL hA
  try dsimp only [Ty.den]
  refine lp_v (V := (Int)) (fun (i : Int) => ⟨[.dat (.sl (.int .u8)) a, .dat (.sl (.int .u8)) b, Jk, Jk, Jk, .dat (.int .i64) i, Jk, Jk, Jk, Jk, Jk, Jk, Jk, Jk, Jk, Jk, Jk, Jk, Jk, Jk, Jk, Jk, Jk, Jk, Jk, Jk, Jk, Jk, Jk, Jk, Jk, Jk, Jk, Jk, Jk, Jk, Jk, Jk, Jk, Jk, Jk, Jk, Jk, Jk, Jk, Jk, Jk, Jk], []⟩) (fun (i : Int) => 0 ≤ i ∧ i ≤ a.length ∧ i ≤ b.length ∧ ordB a b = ordB (a.drop i.toNat) (b.drop i.toNat)) (fun (i : Int) => a.length - i.toNat) (0) rfl ?_ ?_
  · simp
  rintro i hf I hI
  replace hf : 0 ≤ i ∧ i ≤ a.length ∧ i ≤ b.length ∧ ordB a b = ordB (a.drop i.toNat) (b.drop i.toNat) := hf
  generalize hL : Lg.std = L
  generalize hA : Alg.std = A
  cbv
  subst hL hA
  try dsimp only [Ty.den]
  subst hI
  simp only [Lg.std, Alg.std, List.drop_zero, List.take_length]
  obtain ⟨h1, h2, h3, h4⟩ := hf
  have hl := hw.1.1
  have hl2 := hw.2.1.1
  have hdc := fun (h : i.toNat < a.length) => drop_cons a 0 i.toNat h
  have he := fun (h : a.length ≤ i.toNat) => drop_nil a i.toNat h
  have hdc2 := fun (h : i.toNat < b.length) => drop_cons b 0 i.toNat h
  have he2 := fun (h : b.length ≤ i.toNat) => drop_nil b i.toNat h
  have hn1 := ordB_nil (b.drop i.toNat)
  have hn2 := ordB_nil2 (a.drop i.toNat)
  have hn3 : (a.drop i.toNat).length = a.length - i.toNat := List.length_drop
  have hn4 : (b.drop i.toNat).length = b.length - i.toNat := List.length_drop
  repeat' (first | intro _ | apply And.intro)
  all_goals (try refine ⟨_, rfl, ?_, ?_⟩)
  all_goals subst hR0
  all_goals (try simp only [F_s_l1Order] at *)
  all_goals grind [ordB_cons]
def con_s_l1Order : Con := ⟨true, g2 (pD (.sl (.int .u8))) (pD (.sl (.int .u8))) fun a b => .one ⟨[Q_s_l1Order a b], [⟨(.int .i64), .sh, F_s_l1Order a b⟩], []⟩, [], false, 0⟩
theorem ok_s_l1Order : ConOk pg 116 con_s_l1Order := ConOk.g2 (Enters.of (by kernel_rfl)) ct_s_l1Order

def F_i_rowKeyFault (key : List (Int)) : Int := if key.length < 1 ∨ key.length > 16 then 2 else 0
def Q_i_rowKeyFault (key : List (Int)) : Prop := True
def O_i_rowKeyFault : Opt := ⟨fun i => false, fun i => [], fun i => .done, fun i => none, fun i => false, fun i => [], fun i => false, fun i => none, fun i => none⟩
def τ_i_rowKeyFault : Env := Env.of [(2, (.int .i64)), (3, (.int .i64)), (4, .bool), (34, (.sl (.int .u8)))] [] []

theorem ct_i_rowKeyFault (key : List (Int)) : Ct pg 57 [.dat (.sl (.int .u8)) key] ⟨[Q_i_rowKeyFault key], [⟨(.int .i64), .sh, F_i_rowKeyFault key⟩], []⟩ := by
  refine ct_claim (O := O_i_rowKeyFault) (τ := τ_i_rowKeyFault) (EnvOk.of (by kernel_rfl) (by kernel_rfl)) (GOk.of (.nil : AllOk pg [])) mixed (Enters.of (by kernel_rfl)) (fn := Go.Proofs.Try.f57) (by kernel_rfl) rfl (by kernel_rfl) ?_
  intro hp hw
  have hq : Q_i_rowKeyFault key := hp _ (List.mem_singleton.2 rfl)
  clear hp
  change claim Lg.std Alg.std τ_i_rowKeyFault (Gam.of []) O_i_rowKeyFault Go.Proofs.Try.f57 [.dat (.sl (.int .u8)) key] ⟨[Q_i_rowKeyFault key], [⟨(.int .i64), .sh, F_i_rowKeyFault key⟩], []⟩
  generalize hR0 : F_i_rowKeyFault key = R0
  generalize Q_i_rowKeyFault key = Q0
  generalize hL : Lg.std = L
  generalize hA : Alg.std = A
  cbv
  subst hL hA
  try dsimp only [Ty.den]
  subst hR0
  simp only [Q_i_rowKeyFault] at hq
  simp only [Lg.std, Alg.std, List.drop_zero, List.take_length, F_i_rowKeyFault]
  all_goals grind
def con_i_rowKeyFault : Con := ⟨true, g1 (pD (.sl (.int .u8))) fun key => .one ⟨[Q_i_rowKeyFault key], [⟨(.int .i64), .sh, F_i_rowKeyFault key⟩], []⟩, [], false, 0⟩
theorem ok_i_rowKeyFault : ConOk pg 57 con_i_rowKeyFault := ConOk.g1 (Enters.of (by kernel_rfl)) ct_i_rowKeyFault

def F_i_NodeFault_1 (v : Int) : Bool := !decide (0 ≤ v ∧ v ≤ 65535)
def Q_i_NodeFault_1 (v : Int) : Prop := True
def O_i_NodeFault_1 : Opt := ⟨fun i => false, fun i => [], fun i => .done, fun i => none, fun i => false, fun i => [], fun i => false, fun i => none, fun i => none⟩
def τ_i_NodeFault_1 : Env := Env.of [(2, (.int .i64)), (4, .bool)] [] []

theorem ct_i_NodeFault_1 (v : Int) : Ct pg 151 [.dat (.int .i64) v] ⟨[Q_i_NodeFault_1 v], [⟨.bool, .sh, F_i_NodeFault_1 v⟩], []⟩ := by
  refine ct_claim (O := O_i_NodeFault_1) (τ := τ_i_NodeFault_1) (EnvOk.of (by kernel_rfl) (by kernel_rfl)) (GOk.of (.cons ok_i_within .nil : AllOk pg [(67, con_i_within)])) mixed (Enters.of (by kernel_rfl)) (fn := Go.Proofs.Try.f151) (by kernel_rfl) rfl (by kernel_rfl) ?_
  intro hp hw
  have hq : Q_i_NodeFault_1 v := hp _ (List.mem_singleton.2 rfl)
  clear hp
  change claim Lg.std Alg.std τ_i_NodeFault_1 (Gam.of [(67, con_i_within)]) O_i_NodeFault_1 Go.Proofs.Try.f151 [.dat (.int .i64) v] ⟨[Q_i_NodeFault_1 v], [⟨.bool, .sh, F_i_NodeFault_1 v⟩], []⟩
  delta con_i_within
  generalize hg_F_i_within : F_i_within = g_F_i_within
  generalize hg_Q_i_within : Q_i_within = g_Q_i_within
  generalize hR0 : F_i_NodeFault_1 v = R0
  generalize Q_i_NodeFault_1 v = Q0
  generalize hL : Lg.std = L
  generalize hA : Alg.std = A
  cbv
  subst hL hA
  try dsimp only [Ty.den]
  subst hR0 hg_F_i_within hg_Q_i_within
  simp only [Q_i_NodeFault_1] at hq
  simp only [Lg.std, Alg.std, List.drop_zero, List.take_length, F_i_within, Q_i_within, F_i_NodeFault_1]
  all_goals grind
def con_i_NodeFault_1 : Con := ⟨true, g1 (pD (.int .i64)) fun v => .one ⟨[Q_i_NodeFault_1 v], [⟨.bool, .sh, F_i_NodeFault_1 v⟩], []⟩, [], false, 0⟩
theorem ok_i_NodeFault_1 : ConOk pg 151 con_i_NodeFault_1 := ConOk.g1 (Enters.of (by kernel_rfl)) ct_i_NodeFault_1

def F_i_NodeFault_2 (k : Int) : Bool := !decide (2 ≤ k ∧ k ≤ 63)
def Q_i_NodeFault_2 (k : Int) : Prop := True
def O_i_NodeFault_2 : Opt := ⟨fun i => false, fun i => [], fun i => .done, fun i => none, fun i => false, fun i => [], fun i => false, fun i => none, fun i => none⟩
def τ_i_NodeFault_2 : Env := Env.of [(2, (.int .i64)), (4, .bool)] [] []

theorem ct_i_NodeFault_2 (k : Int) : Ct pg 152 [.dat (.int .i64) k] ⟨[Q_i_NodeFault_2 k], [⟨.bool, .sh, F_i_NodeFault_2 k⟩], []⟩ := by
  refine ct_claim (O := O_i_NodeFault_2) (τ := τ_i_NodeFault_2) (EnvOk.of (by kernel_rfl) (by kernel_rfl)) (GOk.of (.cons ok_i_isPage .nil : AllOk pg [(80, con_i_isPage)])) mixed (Enters.of (by kernel_rfl)) (fn := Go.Proofs.Try.f152) (by kernel_rfl) rfl (by kernel_rfl) ?_
  intro hp hw
  have hq : Q_i_NodeFault_2 k := hp _ (List.mem_singleton.2 rfl)
  clear hp
  change claim Lg.std Alg.std τ_i_NodeFault_2 (Gam.of [(80, con_i_isPage)]) O_i_NodeFault_2 Go.Proofs.Try.f152 [.dat (.int .i64) k] ⟨[Q_i_NodeFault_2 k], [⟨.bool, .sh, F_i_NodeFault_2 k⟩], []⟩
  delta con_i_isPage
  generalize hg_F_i_isPage : F_i_isPage = g_F_i_isPage
  generalize hg_Q_i_isPage : Q_i_isPage = g_Q_i_isPage
  generalize hR0 : F_i_NodeFault_2 k = R0
  generalize Q_i_NodeFault_2 k = Q0
  generalize hL : Lg.std = L
  generalize hA : Alg.std = A
  cbv
  subst hL hA
  try dsimp only [Ty.den]
  subst hR0 hg_F_i_isPage hg_Q_i_isPage
  simp only [Q_i_NodeFault_2] at hq
  simp only [Lg.std, Alg.std, List.drop_zero, List.take_length, F_i_isPage, Q_i_isPage, F_i_NodeFault_2]
  all_goals grind
def con_i_NodeFault_2 : Con := ⟨true, g1 (pD (.int .i64)) fun k => .one ⟨[Q_i_NodeFault_2 k], [⟨.bool, .sh, F_i_NodeFault_2 k⟩], []⟩, [], false, 0⟩
theorem ok_i_NodeFault_2 : ConOk pg 152 con_i_NodeFault_2 := ConOk.g1 (Enters.of (by kernel_rfl)) ct_i_NodeFault_2

def F_sl_IndexFunc_int64__i_NodeFault_1 (s : List (Int)) (u : Unit) : Int := findI (fun v => !decide (0 ≤ v ∧ v ≤ 65535)) s 0
def Q_sl_IndexFunc_int64__i_NodeFault_1 (s : List (Int)) (u : Unit) : Prop := True
def O_sl_IndexFunc_int64__i_NodeFault_1 : Opt := ⟨fun i => false, fun i => (match decide (i = 2) with | true => [true, true, false, false, false, false, false, true, true, false, false, false, false, false, false, false, false, false, false] | false => []), fun i => .done, fun i => none, fun i => false, fun i => [], fun i => false, fun i => none, fun i => none⟩
def τ_sl_IndexFunc_int64__i_NodeFault_1 : Env := Env.of [(2, (.int .i64)), (3, (.int .i64)), (4, .bool), (75, (.sl (.int .i64)))] [] []

theorem ct_sl_IndexFunc_int64__i_NodeFault_1 (s : List (Int)) (u : Unit) : Ct pg 153 [.dat (.sl (.int .i64)) s, .clo 151 []] ⟨[Q_sl_IndexFunc_int64__i_NodeFault_1 s u], [⟨(.int .i64), .sh, F_sl_IndexFunc_int64__i_NodeFault_1 s u⟩], []⟩ := by
  refine ct_claim (O := O_sl_IndexFunc_int64__i_NodeFault_1) (τ := τ_sl_IndexFunc_int64__i_NodeFault_1) (EnvOk.of (by kernel_rfl) (by kernel_rfl)) (GOk.of (.cons ok_i_NodeFault_1 .nil : AllOk pg [(151, con_i_NodeFault_1)])) mixed (Enters.of (by kernel_rfl)) (fn := Go.Proofs.Try.f153) (by kernel_rfl) rfl (by kernel_rfl) ?_
  intro hp hw
  have hq : Q_sl_IndexFunc_int64__i_NodeFault_1 s u := hp _ (List.mem_singleton.2 rfl)
  clear hp
  change claim Lg.std Alg.std τ_sl_IndexFunc_int64__i_NodeFault_1 (Gam.of [(151, con_i_NodeFault_1)]) O_sl_IndexFunc_int64__i_NodeFault_1 Go.Proofs.Try.f153 [.dat (.sl (.int .i64)) s, .clo 151 []] ⟨[Q_sl_IndexFunc_int64__i_NodeFault_1 s u], [⟨(.int .i64), .sh, F_sl_IndexFunc_int64__i_NodeFault_1 s u⟩], []⟩
  delta con_i_NodeFault_1
  generalize hg_F_i_NodeFault_1 : F_i_NodeFault_1 = g_F_i_NodeFault_1
  generalize hg_Q_i_NodeFault_1 : Q_i_NodeFault_1 = g_Q_i_NodeFault_1
  generalize hR0 : F_sl_IndexFunc_int64__i_NodeFault_1 s u = R0
  generalize Q_sl_IndexFunc_int64__i_NodeFault_1 s u = Q0
  generalize hL : Lg.std = L
  generalize hA : Alg.std = A
  cbv
  subst hL hA
  try dsimp only [Ty.den]
  refine lp_v (V := (Int) × (Int)) (fun ((i, M) : (Int) × (Int)) => ⟨[.dat (.sl (.int .i64)) s, .clo 151 [], Jk, Jk, Jk, Jk, Jk, .dat (.int .i64) M, .dat (.int .i64) i, Jk, Jk, Jk, Jk, Jk, Jk, Jk, Jk, Jk, Jk], []⟩) (fun ((i, M) : (Int) × (Int)) => M = s.length ∧ 0 ≤ i ∧ i ≤ s.length ∧ findI (fun v => !decide (0 ≤ v ∧ v ≤ 65535)) s 0 = findI (fun v => !decide (0 ≤ v ∧ v ≤ 65535)) (s.drop i.toNat) i) (fun ((i, M) : (Int) × (Int)) => s.length - i.toNat) (0, _) rfl ?_ ?_
  · simp [Alg.std]
  rintro ⟨i, M⟩ hf I hI
  replace hf : M = s.length ∧ 0 ≤ i ∧ i ≤ s.length ∧ findI (fun v => !decide (0 ≤ v ∧ v ≤ 65535)) s 0 = findI (fun v => !decide (0 ≤ v ∧ v ≤ 65535)) (s.drop i.toNat) i := hf
  generalize hL : Lg.std = L
  generalize hA : Alg.std = A
  cbv
  subst hL hA
  try dsimp only [Ty.den]
  subst hI
  simp only [Lg.std, Alg.std, List.drop_zero, List.take_length]
  obtain ⟨h1, h2, h3, h4⟩ := hf
  have hl := hw.1.1
  have hdc := fun (h : i.toNat < s.length) => drop_cons s 0 i.toNat h
  have he := fun (h : s.length ≤ i.toNat) => drop_nil s i.toNat h
  repeat' (first | intro _ | apply And.intro)
  all_goals (try refine ⟨(_, _), rfl, ?_, ?_⟩)
  all_goals subst hR0 hg_F_i_NodeFault_1 hg_Q_i_NodeFault_1
  all_goals (try simp only [F_i_NodeFault_1, Q_i_NodeFault_1, F_sl_IndexFunc_int64__i_NodeFault_1] at *)
  all_goals grind [findI]
def con_sl_IndexFunc_int64__i_NodeFault_1 : Con := ⟨true, g2 (pD (.sl (.int .i64))) (pC0 151) fun s u => .one ⟨[Q_sl_IndexFunc_int64__i_NodeFault_1 s u], [⟨(.int .i64), .sh, F_sl_IndexFunc_int64__i_NodeFault_1 s u⟩], []⟩, [], false, 0⟩
theorem ok_sl_IndexFunc_int64__i_NodeFault_1 : ConOk pg 153 con_sl_IndexFunc_int64__i_NodeFault_1 := ConOk.g2 (Enters.of (by kernel_rfl)) ct_sl_IndexFunc_int64__i_NodeFault_1

def F_sl_ContainsFunc_int64__i_NodeFault_1 (s : List (Int)) (u : Unit) : Bool := s.any (fun v => !decide (0 ≤ v ∧ v ≤ 65535))
def Q_sl_ContainsFunc_int64__i_NodeFault_1 (s : List (Int)) (u : Unit) : Prop := True
def O_sl_ContainsFunc_int64__i_NodeFault_1 : Opt := ⟨fun i => false, fun i => [], fun i => .done, fun i => none, fun i => false, fun i => [], fun i => false, fun i => none, fun i => none⟩
def τ_sl_ContainsFunc_int64__i_NodeFault_1 : Env := Env.of [(3, (.int .i64)), (4, .bool), (75, (.sl (.int .i64)))] [] []

theorem ct_sl_ContainsFunc_int64__i_NodeFault_1 (s : List (Int)) (u : Unit) : Ct pg 150 [.dat (.sl (.int .i64)) s, .clo 151 []] ⟨[Q_sl_ContainsFunc_int64__i_NodeFault_1 s u], [⟨.bool, .sh, F_sl_ContainsFunc_int64__i_NodeFault_1 s u⟩], []⟩ := by
  refine ct_claim (O := O_sl_ContainsFunc_int64__i_NodeFault_1) (τ := τ_sl_ContainsFunc_int64__i_NodeFault_1) (EnvOk.of (by kernel_rfl) (by kernel_rfl)) (GOk.of (.cons ok_i_NodeFault_1 (.cons ok_sl_IndexFunc_int64__i_NodeFault_1 .nil) : AllOk pg [(151, con_i_NodeFault_1), (153, con_sl_IndexFunc_int64__i_NodeFault_1)])) mixed (Enters.of (by kernel_rfl)) (fn := Go.Proofs.Try.f150) (by kernel_rfl) rfl (by kernel_rfl) ?_
  intro hp hw
  have hq : Q_sl_ContainsFunc_int64__i_NodeFault_1 s u := hp _ (List.mem_singleton.2 rfl)
  clear hp
  change claim Lg.std Alg.std τ_sl_ContainsFunc_int64__i_NodeFault_1 (Gam.of [(151, con_i_NodeFault_1), (153, con_sl_IndexFunc_int64__i_NodeFault_1)]) O_sl_ContainsFunc_int64__i_NodeFault_1 Go.Proofs.Try.f150 [.dat (.sl (.int .i64)) s, .clo 151 []] ⟨[Q_sl_ContainsFunc_int64__i_NodeFault_1 s u], [⟨.bool, .sh, F_sl_ContainsFunc_int64__i_NodeFault_1 s u⟩], []⟩
  delta con_i_NodeFault_1 con_sl_IndexFunc_int64__i_NodeFault_1
  generalize hg_F_i_NodeFault_1 : F_i_NodeFault_1 = g_F_i_NodeFault_1
  generalize hg_Q_i_NodeFault_1 : Q_i_NodeFault_1 = g_Q_i_NodeFault_1
  generalize hg_F_sl_IndexFunc_int64__i_NodeFault_1 : F_sl_IndexFunc_int64__i_NodeFault_1 = g_F_sl_IndexFunc_int64__i_NodeFault_1
  generalize hg_Q_sl_IndexFunc_int64__i_NodeFault_1 : Q_sl_IndexFunc_int64__i_NodeFault_1 = g_Q_sl_IndexFunc_int64__i_NodeFault_1
  generalize hR0 : F_sl_ContainsFunc_int64__i_NodeFault_1 s u = R0
  generalize Q_sl_ContainsFunc_int64__i_NodeFault_1 s u = Q0
  generalize hL : Lg.std = L
  generalize hA : Alg.std = A
  cbv
  subst hL hA
  try dsimp only [Ty.den]
  have hf := findI_any (fun v => !decide (0 ≤ v ∧ v ≤ 65535)) s 0 (by omega)
  subst hR0 hg_F_i_NodeFault_1 hg_Q_i_NodeFault_1 hg_F_sl_IndexFunc_int64__i_NodeFault_1 hg_Q_sl_IndexFunc_int64__i_NodeFault_1
  simp only [Q_sl_ContainsFunc_int64__i_NodeFault_1] at hq
  simp only [Lg.std, Alg.std, List.drop_zero, List.take_length, F_i_NodeFault_1, F_sl_IndexFunc_int64__i_NodeFault_1, Q_i_NodeFault_1, Q_sl_IndexFunc_int64__i_NodeFault_1, F_sl_ContainsFunc_int64__i_NodeFault_1]
  all_goals grind
def con_sl_ContainsFunc_int64__i_NodeFault_1 : Con := ⟨true, g2 (pD (.sl (.int .i64))) (pC0 151) fun s u => .one ⟨[Q_sl_ContainsFunc_int64__i_NodeFault_1 s u], [⟨.bool, .sh, F_sl_ContainsFunc_int64__i_NodeFault_1 s u⟩], []⟩, [], false, 0⟩
theorem ok_sl_ContainsFunc_int64__i_NodeFault_1 : ConOk pg 150 con_sl_ContainsFunc_int64__i_NodeFault_1 := ConOk.g2 (Enters.of (by kernel_rfl)) ct_sl_ContainsFunc_int64__i_NodeFault_1

def F_sl_IndexFunc_int64__i_NodeFault_2 (s : List (Int)) (u : Unit) : Int := findI (fun k => !decide (2 ≤ k ∧ k ≤ 63)) s 0
def Q_sl_IndexFunc_int64__i_NodeFault_2 (s : List (Int)) (u : Unit) : Prop := True
def O_sl_IndexFunc_int64__i_NodeFault_2 : Opt := ⟨fun i => false, fun i => (match decide (i = 2) with | true => [true, true, false, false, false, false, false, true, true, false, false, false, false, false, false, false, false, false, false] | false => []), fun i => .done, fun i => none, fun i => false, fun i => [], fun i => false, fun i => none, fun i => none⟩
def τ_sl_IndexFunc_int64__i_NodeFault_2 : Env := Env.of [(2, (.int .i64)), (3, (.int .i64)), (4, .bool), (75, (.sl (.int .i64)))] [] []

theorem ct_sl_IndexFunc_int64__i_NodeFault_2 (s : List (Int)) (u : Unit) : Ct pg 153 [.dat (.sl (.int .i64)) s, .clo 152 []] ⟨[Q_sl_IndexFunc_int64__i_NodeFault_2 s u], [⟨(.int .i64), .sh, F_sl_IndexFunc_int64__i_NodeFault_2 s u⟩], []⟩ := by
  refine ct_claim (O := O_sl_IndexFunc_int64__i_NodeFault_2) (τ := τ_sl_IndexFunc_int64__i_NodeFault_2) (EnvOk.of (by kernel_rfl) (by kernel_rfl)) (GOk.of (.cons ok_i_NodeFault_2 .nil : AllOk pg [(152, con_i_NodeFault_2)])) mixed (Enters.of (by kernel_rfl)) (fn := Go.Proofs.Try.f153) (by kernel_rfl) rfl (by kernel_rfl) ?_
  intro hp hw
  have hq : Q_sl_IndexFunc_int64__i_NodeFault_2 s u := hp _ (List.mem_singleton.2 rfl)
  clear hp
  change claim Lg.std Alg.std τ_sl_IndexFunc_int64__i_NodeFault_2 (Gam.of [(152, con_i_NodeFault_2)]) O_sl_IndexFunc_int64__i_NodeFault_2 Go.Proofs.Try.f153 [.dat (.sl (.int .i64)) s, .clo 152 []] ⟨[Q_sl_IndexFunc_int64__i_NodeFault_2 s u], [⟨(.int .i64), .sh, F_sl_IndexFunc_int64__i_NodeFault_2 s u⟩], []⟩
  delta con_i_NodeFault_2
  generalize hg_F_i_NodeFault_2 : F_i_NodeFault_2 = g_F_i_NodeFault_2
  generalize hg_Q_i_NodeFault_2 : Q_i_NodeFault_2 = g_Q_i_NodeFault_2
  generalize hR0 : F_sl_IndexFunc_int64__i_NodeFault_2 s u = R0
  generalize Q_sl_IndexFunc_int64__i_NodeFault_2 s u = Q0
  generalize hL : Lg.std = L
  generalize hA : Alg.std = A
  cbv
  subst hL hA
  try dsimp only [Ty.den]
  refine lp_v (V := (Int) × (Int)) (fun ((i, M) : (Int) × (Int)) => ⟨[.dat (.sl (.int .i64)) s, .clo 152 [], Jk, Jk, Jk, Jk, Jk, .dat (.int .i64) M, .dat (.int .i64) i, Jk, Jk, Jk, Jk, Jk, Jk, Jk, Jk, Jk, Jk], []⟩) (fun ((i, M) : (Int) × (Int)) => M = s.length ∧ 0 ≤ i ∧ i ≤ s.length ∧ findI (fun k => !decide (2 ≤ k ∧ k ≤ 63)) s 0 = findI (fun k => !decide (2 ≤ k ∧ k ≤ 63)) (s.drop i.toNat) i) (fun ((i, M) : (Int) × (Int)) => s.length - i.toNat) (0, _) rfl ?_ ?_
  · simp [Alg.std]
  rintro ⟨i, M⟩ hf I hI
  replace hf : M = s.length ∧ 0 ≤ i ∧ i ≤ s.length ∧ findI (fun k => !decide (2 ≤ k ∧ k ≤ 63)) s 0 = findI (fun k => !decide (2 ≤ k ∧ k ≤ 63)) (s.drop i.toNat) i := hf
  generalize hL : Lg.std = L
  generalize hA : Alg.std = A
  cbv
  subst hL hA
  try dsimp only [Ty.den]
  subst hI
  simp only [Lg.std, Alg.std, List.drop_zero, List.take_length]
  obtain ⟨h1, h2, h3, h4⟩ := hf
  have hl := hw.1.1
  have hdc := fun (h : i.toNat < s.length) => drop_cons s 0 i.toNat h
  have he := fun (h : s.length ≤ i.toNat) => drop_nil s i.toNat h
  repeat' (first | intro _ | apply And.intro)
  all_goals (try refine ⟨(_, _), rfl, ?_, ?_⟩)
  all_goals subst hR0 hg_F_i_NodeFault_2 hg_Q_i_NodeFault_2
  all_goals (try simp only [F_i_NodeFault_2, Q_i_NodeFault_2, F_sl_IndexFunc_int64__i_NodeFault_2] at *)
  all_goals grind [findI]
def con_sl_IndexFunc_int64__i_NodeFault_2 : Con := ⟨true, g2 (pD (.sl (.int .i64))) (pC0 152) fun s u => .one ⟨[Q_sl_IndexFunc_int64__i_NodeFault_2 s u], [⟨(.int .i64), .sh, F_sl_IndexFunc_int64__i_NodeFault_2 s u⟩], []⟩, [], false, 0⟩
theorem ok_sl_IndexFunc_int64__i_NodeFault_2 : ConOk pg 153 con_sl_IndexFunc_int64__i_NodeFault_2 := ConOk.g2 (Enters.of (by kernel_rfl)) ct_sl_IndexFunc_int64__i_NodeFault_2

def F_sl_ContainsFunc_int64__i_NodeFault_2 (s : List (Int)) (u : Unit) : Bool := s.any (fun k => !decide (2 ≤ k ∧ k ≤ 63))
def Q_sl_ContainsFunc_int64__i_NodeFault_2 (s : List (Int)) (u : Unit) : Prop := True
def O_sl_ContainsFunc_int64__i_NodeFault_2 : Opt := ⟨fun i => false, fun i => [], fun i => .done, fun i => none, fun i => false, fun i => [], fun i => false, fun i => none, fun i => none⟩
def τ_sl_ContainsFunc_int64__i_NodeFault_2 : Env := Env.of [(3, (.int .i64)), (4, .bool), (75, (.sl (.int .i64)))] [] []

theorem ct_sl_ContainsFunc_int64__i_NodeFault_2 (s : List (Int)) (u : Unit) : Ct pg 150 [.dat (.sl (.int .i64)) s, .clo 152 []] ⟨[Q_sl_ContainsFunc_int64__i_NodeFault_2 s u], [⟨.bool, .sh, F_sl_ContainsFunc_int64__i_NodeFault_2 s u⟩], []⟩ := by
  refine ct_claim (O := O_sl_ContainsFunc_int64__i_NodeFault_2) (τ := τ_sl_ContainsFunc_int64__i_NodeFault_2) (EnvOk.of (by kernel_rfl) (by kernel_rfl)) (GOk.of (.cons ok_i_NodeFault_2 (.cons (ConOk.or ok_sl_IndexFunc_int64__i_NodeFault_1 ok_sl_IndexFunc_int64__i_NodeFault_2) .nil) : AllOk pg [(152, con_i_NodeFault_2), (153, (Con.or con_sl_IndexFunc_int64__i_NodeFault_1 con_sl_IndexFunc_int64__i_NodeFault_2))])) mixed (Enters.of (by kernel_rfl)) (fn := Go.Proofs.Try.f150) (by kernel_rfl) rfl (by kernel_rfl) ?_
  intro hp hw
  have hq : Q_sl_ContainsFunc_int64__i_NodeFault_2 s u := hp _ (List.mem_singleton.2 rfl)
  clear hp
  change claim Lg.std Alg.std τ_sl_ContainsFunc_int64__i_NodeFault_2 (Gam.of [(152, con_i_NodeFault_2), (153, (Con.or con_sl_IndexFunc_int64__i_NodeFault_1 con_sl_IndexFunc_int64__i_NodeFault_2))]) O_sl_ContainsFunc_int64__i_NodeFault_2 Go.Proofs.Try.f150 [.dat (.sl (.int .i64)) s, .clo 152 []] ⟨[Q_sl_ContainsFunc_int64__i_NodeFault_2 s u], [⟨.bool, .sh, F_sl_ContainsFunc_int64__i_NodeFault_2 s u⟩], []⟩
  delta con_i_NodeFault_2 con_sl_IndexFunc_int64__i_NodeFault_1 con_sl_IndexFunc_int64__i_NodeFault_2
  generalize hg_F_i_NodeFault_2 : F_i_NodeFault_2 = g_F_i_NodeFault_2
  generalize hg_Q_i_NodeFault_2 : Q_i_NodeFault_2 = g_Q_i_NodeFault_2
  generalize hg_F_sl_IndexFunc_int64__i_NodeFault_1 : F_sl_IndexFunc_int64__i_NodeFault_1 = g_F_sl_IndexFunc_int64__i_NodeFault_1
  generalize hg_Q_sl_IndexFunc_int64__i_NodeFault_1 : Q_sl_IndexFunc_int64__i_NodeFault_1 = g_Q_sl_IndexFunc_int64__i_NodeFault_1
  generalize hg_F_sl_IndexFunc_int64__i_NodeFault_2 : F_sl_IndexFunc_int64__i_NodeFault_2 = g_F_sl_IndexFunc_int64__i_NodeFault_2
  generalize hg_Q_sl_IndexFunc_int64__i_NodeFault_2 : Q_sl_IndexFunc_int64__i_NodeFault_2 = g_Q_sl_IndexFunc_int64__i_NodeFault_2
  generalize hR0 : F_sl_ContainsFunc_int64__i_NodeFault_2 s u = R0
  generalize Q_sl_ContainsFunc_int64__i_NodeFault_2 s u = Q0
  generalize hL : Lg.std = L
  generalize hA : Alg.std = A
  cbv
  subst hL hA
  try dsimp only [Ty.den]
  have hf := findI_any (fun k => !decide (2 ≤ k ∧ k ≤ 63)) s 0 (by omega)
  subst hR0 hg_F_i_NodeFault_2 hg_Q_i_NodeFault_2 hg_F_sl_IndexFunc_int64__i_NodeFault_1 hg_Q_sl_IndexFunc_int64__i_NodeFault_1 hg_F_sl_IndexFunc_int64__i_NodeFault_2 hg_Q_sl_IndexFunc_int64__i_NodeFault_2
  simp only [Q_sl_ContainsFunc_int64__i_NodeFault_2] at hq
  simp only [Lg.std, Alg.std, List.drop_zero, List.take_length, F_i_NodeFault_2, F_sl_IndexFunc_int64__i_NodeFault_1, F_sl_IndexFunc_int64__i_NodeFault_2, Q_i_NodeFault_2, Q_sl_IndexFunc_int64__i_NodeFault_1, Q_sl_IndexFunc_int64__i_NodeFault_2, F_sl_ContainsFunc_int64__i_NodeFault_2]
  all_goals grind
def con_sl_ContainsFunc_int64__i_NodeFault_2 : Con := ⟨true, g2 (pD (.sl (.int .i64))) (pC0 152) fun s u => .one ⟨[Q_sl_ContainsFunc_int64__i_NodeFault_2 s u], [⟨.bool, .sh, F_sl_ContainsFunc_int64__i_NodeFault_2 s u⟩], []⟩, [], false, 0⟩
theorem ok_sl_ContainsFunc_int64__i_NodeFault_2 : ConOk pg 150 con_sl_ContainsFunc_int64__i_NodeFault_2 := ConOk.g2 (Enters.of (by kernel_rfl)) ct_sl_ContainsFunc_int64__i_NodeFault_2

def F_s_NodeFault (p : (Bool) × (List (List (Int))) × (List (Int)) × (List (Int)) × Unit) : Int := nodeFault p
def Q_s_NodeFault (p : (Bool) × (List (List (Int))) × (List (Int)) × (List (Int)) × Unit) : Prop := True
def O_s_NodeFault : Opt := ⟨fun i => (match decide (i = 11) with | true => true | false => false), fun i => (match decide (i = 25) with | true => [false, true, false, false, false, false, true, false, false, false, false, false, false, false, false, false, false, false, false, false, false, false, false, false, false, false, false, false, false, false, false, false, false, false, false, false, false, false, false, false, false, false, false, false, false, false, false, false, false, false, false, false, false, false, false, false, false, false, false, false, false, false, false, false, false, false, false, false, false, false, false, false, false, false, false, false, false, false, false, false, false, false, false, false, false, false, false, false, false, false, false, false, false, false, false, false, false, false, false, false, false, false, false, false, false, false, false, false, false, false, false, false, false, false, false, false, false] | false => (match decide (i = 17) with | true => [false, true, false, false, false, true, false, false, false, false, false, false, false, false, false, false, false, false, false, false, false, false, false, false, false, false, false, false, false, false, false, false, false, false, false, false, false, false, false, false, false, false, false, false, false, false, false, false, false, false, false, false, false, false, false, false, false, false, false, false, false, false, false, false, false, false, false, false, false, false, false, false, false, false, false, false, false, false, false, false, false, false, false, false, false, false, false, false, false, false, false, false, false, false, false, false, false, false, false, false, false, false, false, false, false, false, false, false, false, false, false, false, false, false, false, false, false] | false => (match decide (i = 9) with | true => [false, true, false, false, true, false, false, false, false, false, false, false, false, false, false, false, false, false, false, false, false, false, false, false, false, false, false, false, false, false, false, false, false, false, false, false, false, false, false, false, false, false, false, false, false, false, false, false, false, false, false, false, false, false, false, false, false, false, false, false, false, false, false, false, false, false, false, false, false, false, false, false, false, false, false, false, false, false, false, false, false, false, false, false, false, false, false, false, false, false, false, false, false, false, false, false, false, false, false, false, false, false, false, false, false, false, false, false, false, false, false, false, false, false, false, false, false] | false => (match decide (i = 4) with | true => [false, true, false, true, false, false, false, false, false, false, false, false, false, false, false, false, false, false, false, false, false, false, false, false, false, false, false, false, false, false, false, false, false, false, false, false, false, false, false, false, false, false, false, false, false, false, false, false, false, false, false, false, false, false, false, false, false, false, false, false, false, false, false, false, false, false, false, false, false, false, false, false, false, false, false, false, false, false, false, false, false, false, false, false, false, false, false, false, false, false, false, false, false, false, false, false, false, false, false, false, false, false, false, false, false, false, false, false, false, false, false, false, false, false, false, false, false] | false => [])))), fun i => .done, fun i => none, fun i => false, fun i => [], fun i => false, fun i => none, fun i => none⟩
def τ_s_NodeFault : Env := Env.of [(2, (.int .i64)), (3, (.int .i64)), (4, .bool), (22, (.sl (.sl (.int .u8)))), (34, (.sl (.int .u8))), (75, (.sl (.int .i64))), (156, (.pair .bool (.pair (.sl (.sl (.int .u8))) (.pair (.sl (.int .i64)) (.pair (.sl (.int .i64)) .unit)))))] [] []

theorem ct_s_NodeFault (p : (Bool) × (List (List (Int))) × (List (Int)) × (List (Int)) × Unit) : Ct pg 142 [.dat (.pair .bool (.pair (.sl (.sl (.int .u8))) (.pair (.sl (.int .i64)) (.pair (.sl (.int .i64)) .unit)))) p] ⟨[Q_s_NodeFault p], [⟨(.int .i64), .sh, F_s_NodeFault p⟩], []⟩ := by
  refine ct_claim (O := O_s_NodeFault) (τ := τ_s_NodeFault) (EnvOk.of (by kernel_rfl) (by kernel_rfl)) (GOk.of (.cons ok_s_l1In (.cons ok_s_l15Id (.cons ok_s_l1Order .nil)) : AllOk pg [(65, con_s_l1In), (85, con_s_l15Id), (116, con_s_l1Order)])) mixed (Enters.of (by kernel_rfl)) (fn := Go.Proofs.Try.f142) (by kernel_rfl) rfl (by kernel_rfl) ?_
  intro hp hw
  have hq : Q_s_NodeFault p := hp _ (List.mem_singleton.2 rfl)
  clear hp
  change claim Lg.std Alg.std τ_s_NodeFault (Gam.of [(65, con_s_l1In), (85, con_s_l15Id), (116, con_s_l1Order)]) O_s_NodeFault Go.Proofs.Try.f142 [.dat (.pair .bool (.pair (.sl (.sl (.int .u8))) (.pair (.sl (.int .i64)) (.pair (.sl (.int .i64)) .unit)))) p] ⟨[Q_s_NodeFault p], [⟨(.int .i64), .sh, F_s_NodeFault p⟩], []⟩
  delta con_s_l1In con_s_l15Id con_s_l1Order
  generalize hg_F_s_l1In : F_s_l1In = g_F_s_l1In
  generalize hg_Q_s_l1In : Q_s_l1In = g_Q_s_l1In
  generalize hg_F_s_l15Id : F_s_l15Id = g_F_s_l15Id
  generalize hg_Q_s_l15Id : Q_s_l15Id = g_Q_s_l15Id
  generalize hg_F_s_l1Order : F_s_l1Order = g_F_s_l1Order
  generalize hg_Q_s_l1Order : Q_s_l1Order = g_Q_s_l1Order
  generalize hR0 : F_s_NodeFault p = R0
  generalize Q_s_NodeFault p = Q0
  generalize hL : Lg.std = L
  generalize hA : Alg.std = A
  cbv
  subst hL hA
  try dsimp only [Ty.den]
  obtain ⟨p_0, p_1, p_2, p_3, ⟨⟩⟩ := p
  repeat' (first | intro _ | apply And.intro)
  all_goals first | trivial | ((fail_if_success (refine lp_v (V := Unit) (fun _ => ⟨[], []⟩) (fun _ => True) (fun _ => 0) () ?_ ?_ ?_)); subst hR0 hg_F_s_l1In hg_Q_s_l1In hg_F_s_l15Id hg_Q_s_l15Id hg_F_s_l1Order hg_Q_s_l1Order; (try simp only [Alg.std, F_s_l1In, F_s_l15Id, F_s_l1Order, Q_s_l1In, Q_s_l15Id, Q_s_l1Order, F_s_NodeFault] at *); all_goals grind [nodeFault]) | skip
  refine lp_v (V := (Int)) (fun (i : Int) => ⟨[Jk, .bptr 0 0, Jk, .dat (.int .i64) i, Jk, Jk, Jk, Jk, Jk, Jk, Jk, Jk, Jk, Jk, Jk, Jk, Jk, Jk, Jk, Jk, Jk, Jk, Jk, Jk, Jk, Jk, Jk, Jk, Jk, Jk, Jk, Jk, Jk, Jk, Jk, Jk, Jk, Jk, Jk, Jk, Jk, Jk, Jk, Jk, Jk, Jk, Jk, Jk, Jk, Jk, Jk, Jk, Jk, Jk, Jk, Jk, Jk, Jk, Jk, Jk, Jk, Jk, Jk, Jk, Jk, Jk, Jk, Jk, Jk, Jk, Jk, Jk, Jk, Jk, Jk, Jk, Jk, Jk, Jk, Jk, Jk, Jk, Jk, Jk, Jk, Jk, Jk, Jk, Jk, Jk, Jk, Jk, Jk, Jk, Jk, Jk, Jk, Jk, Jk, Jk, Jk, Jk, Jk, Jk, Jk, Jk, Jk, Jk, Jk, Jk, Jk, Jk, Jk, Jk, Jk, Jk, Jk], [some (.box [.dat .bool p_0, .dat (.sl (.sl (.int .u8))) p_1, .dat (.sl (.int .i64)) p_2, .dat (.sl (.int .i64)) p_3])]⟩) (fun (i : Int) => 0 ≤ i ∧ i ≤ p_1.length ∧ p_1.any badKey = (p_1.drop i.toNat).any badKey) (fun (i : Int) => p_1.length - i.toNat) (0) rfl ?_ ?_
  · simp
  rintro i hf I hI
  replace hf : 0 ≤ i ∧ i ≤ p_1.length ∧ p_1.any badKey = (p_1.drop i.toNat).any badKey := hf
  generalize hL : Lg.std = L
  generalize hA : Alg.std = A
  cbv
  subst hL hA
  try dsimp only [Ty.den]
  subst hI
  obtain ⟨h1, h2, h3⟩ := hf
  have hl := hw.1.2.1.1
  have hdc := fun (h : i.toNat < p_1.length) => drop_cons p_1 ([] : List Int) i.toNat h
  have he := fun (h : p_1.length ≤ i.toNat) => drop_nil p_1 i.toNat h
  repeat' (first | intro _ | apply And.intro)
  all_goals first | (with_reducible exact True.intro) | ((fail_if_success (refine lp_v (V := Unit) (fun _ => ⟨[], []⟩) (fun _ => True) (fun _ => 0) () ?_ ?_ ?_)); (try simp only [Lg.std, Alg.std, List.drop_zero, List.take_length] at *); (try refine ⟨_, rfl, ?_, ?_⟩); (all_goals (subst hR0 hg_F_s_l1In hg_Q_s_l1In hg_F_s_l15Id hg_Q_s_l15Id hg_F_s_l1Order hg_Q_s_l1Order; (try simp only [Lg.std, Alg.std, List.drop_zero, List.take_length, F_s_l1In, F_s_l15Id, F_s_l1Order, Q_s_l1In, Q_s_l15Id, Q_s_l1Order, F_s_NodeFault] at *); first | done | (grind [nodeFault, badKey])))) | skip
  refine lp_v (V := (Int)) (fun (i : Int) => ⟨[Jk, .bptr 0 0, Jk, Jk, .dat (.int .i64) i, Jk, Jk, Jk, Jk, Jk, Jk, Jk, Jk, Jk, Jk, Jk, Jk, Jk, Jk, Jk, Jk, Jk, Jk, Jk, Jk, Jk, Jk, Jk, Jk, Jk, Jk, Jk, Jk, Jk, Jk, Jk, Jk, Jk, Jk, Jk, Jk, Jk, Jk, Jk, Jk, Jk, Jk, Jk, Jk, Jk, Jk, Jk, Jk, Jk, Jk, Jk, Jk, Jk, Jk, Jk, Jk, Jk, Jk, Jk, Jk, Jk, Jk, Jk, Jk, Jk, Jk, Jk, Jk, Jk, Jk, Jk, Jk, Jk, Jk, Jk, Jk, Jk, Jk, Jk, Jk, Jk, Jk, Jk, Jk, Jk, Jk, Jk, Jk, Jk, Jk, Jk, Jk, Jk, Jk, Jk, Jk, Jk, Jk, Jk, Jk, Jk, Jk, Jk, Jk, Jk, Jk, Jk, Jk, Jk, Jk, Jk, Jk], [some (.box [.dat .bool p_0, .dat (.sl (.sl (.int .u8))) p_1, .dat (.sl (.int .i64)) p_2, .dat (.sl (.int .i64)) p_3])]⟩) (fun (i : Int) => 1 ≤ i ∧ (i ≤ p_1.length ∨ i = 1) ∧ incr p_1 = incr (p_1.drop (i.toNat - 1))) (fun (i : Int) => p_1.length - i.toNat) (1) rfl ?_ ?_
  · simp
  rintro i hf I hI
  replace hf : 1 ≤ i ∧ (i ≤ p_1.length ∨ i = 1) ∧ incr p_1 = incr (p_1.drop (i.toNat - 1)) := hf
  generalize hL : Lg.std = L
  generalize hA : Alg.std = A
  cbv
  subst hL hA
  try dsimp only [Ty.den]
  subst hI
  obtain ⟨h1, h2, h3⟩ := hf
  have hl := hw.1.2.1.1
  have hs := fun (h1 : 1 ≤ i.toNat) (h : i.toNat < p_1.length) => incr_step p_1 i.toNat h1 h
  have he := fun (h : p_1.length ≤ i.toNat) => incr_end p_1 i.toNat h
  have e1 : (i - 1).toNat = i.toNat - 1 := by omega
  have e2 : (i + 1).toNat - 1 = i.toNat := by omega
  repeat' (first | intro _ | apply And.intro)
  all_goals first | (with_reducible exact True.intro) | ((fail_if_success (refine lp_v (V := Unit) (fun _ => ⟨[], []⟩) (fun _ => True) (fun _ => 0) () ?_ ?_ ?_)); (try simp only [Lg.std, Alg.std, List.drop_zero, List.take_length] at *); (try refine ⟨_, rfl, ?_, ?_⟩); (all_goals (subst hR0 hg_F_s_l1In hg_Q_s_l1In hg_F_s_l15Id hg_Q_s_l15Id hg_F_s_l1Order hg_Q_s_l1Order; (try simp only [Lg.std, Alg.std, List.drop_zero, List.take_length, F_s_l1In, F_s_l15Id, F_s_l1Order, Q_s_l1In, Q_s_l15Id, Q_s_l1Order, F_s_NodeFault] at *); first | done | (grind [nodeFault])))) | skip
  · refine lp_v (V := (Int)) (fun (i : Int) => ⟨[Jk, .bptr 0 0, Jk, Jk, Jk, .dat (.int .i64) i, Jk, Jk, Jk, Jk, Jk, Jk, Jk, Jk, Jk, Jk, Jk, Jk, Jk, Jk, Jk, Jk, Jk, Jk, Jk, Jk, Jk, Jk, Jk, Jk, Jk, Jk, Jk, Jk, Jk, Jk, Jk, Jk, Jk, Jk, Jk, Jk, Jk, Jk, Jk, Jk, Jk, Jk, Jk, Jk, Jk, Jk, Jk, Jk, Jk, Jk, Jk, Jk, Jk, Jk, Jk, Jk, Jk, Jk, Jk, Jk, Jk, Jk, Jk, Jk, Jk, Jk, Jk, Jk, Jk, Jk, Jk, Jk, Jk, Jk, Jk, Jk, Jk, Jk, Jk, Jk, Jk, Jk, Jk, Jk, Jk, Jk, Jk, Jk, Jk, Jk, Jk, Jk, Jk, Jk, Jk, Jk, Jk, Jk, Jk, Jk, Jk, Jk, Jk, Jk, Jk, Jk, Jk, Jk, Jk, Jk, Jk], [some (.box [.dat .bool p_0, .dat (.sl (.sl (.int .u8))) p_1, .dat (.sl (.int .i64)) p_2, .dat (.sl (.int .i64)) p_3])]⟩) (fun (i : Int) => 0 ≤ i ∧ i ≤ p_2.length ∧ p_2.any (fun v => !decide (0 ≤ v ∧ v ≤ 65535)) = (p_2.drop i.toNat).any (fun v => !decide (0 ≤ v ∧ v ≤ 65535))) (fun (i : Int) => p_2.length - i.toNat) (0) rfl ?_ ?_
    · simp
    rintro i hf I hI
    replace hf : 0 ≤ i ∧ i ≤ p_2.length ∧ p_2.any (fun v => !decide (0 ≤ v ∧ v ≤ 65535)) = (p_2.drop i.toNat).any (fun v => !decide (0 ≤ v ∧ v ≤ 65535)) := hf
    generalize hL : Lg.std = L
    generalize hA : Alg.std = A
    cbv
    subst hL hA
    try dsimp only [Ty.den]
    subst hI
    obtain ⟨h1, h2, h3⟩ := hf
    have hl := hw.1.2.2.1.1
    have hdc := fun (h : i.toNat < p_2.length) => drop_cons p_2 0 i.toNat h
    have he := fun (h : p_2.length ≤ i.toNat) => drop_nil p_2 i.toNat h
    repeat' (first | intro _ | apply And.intro)
    all_goals first | (with_reducible exact True.intro) | ((fail_if_success (refine lp_v (V := Unit) (fun _ => ⟨[], []⟩) (fun _ => True) (fun _ => 0) () ?_ ?_ ?_)); (try simp only [Lg.std, Alg.std, List.drop_zero, List.take_length] at *); (try refine ⟨_, rfl, ?_, ?_⟩); (all_goals (subst hR0 hg_F_s_l1In hg_Q_s_l1In hg_F_s_l15Id hg_Q_s_l15Id hg_F_s_l1Order hg_Q_s_l1Order; (try simp only [Lg.std, Alg.std, List.drop_zero, List.take_length, F_s_l1In, F_s_l15Id, F_s_l1Order, Q_s_l1In, Q_s_l15Id, Q_s_l1Order, F_s_NodeFault] at *); first | done | (grind [nodeFault])))) | skip
  · refine lp_v (V := (Int)) (fun (i : Int) => ⟨[Jk, .bptr 0 0, Jk, Jk, Jk, Jk, .dat (.int .i64) i, Jk, Jk, Jk, Jk, Jk, Jk, Jk, Jk, Jk, Jk, Jk, Jk, Jk, Jk, Jk, Jk, Jk, Jk, Jk, Jk, Jk, Jk, Jk, Jk, Jk, Jk, Jk, Jk, Jk, Jk, Jk, Jk, Jk, Jk, Jk, Jk, Jk, Jk, Jk, Jk, Jk, Jk, Jk, Jk, Jk, Jk, Jk, Jk, Jk, Jk, Jk, Jk, Jk, Jk, Jk, Jk, Jk, Jk, Jk, Jk, Jk, Jk, Jk, Jk, Jk, Jk, Jk, Jk, Jk, Jk, Jk, Jk, Jk, Jk, Jk, Jk, Jk, Jk, Jk, Jk, Jk, Jk, Jk, Jk, Jk, Jk, Jk, Jk, Jk, Jk, Jk, Jk, Jk, Jk, Jk, Jk, Jk, Jk, Jk, Jk, Jk, Jk, Jk, Jk, Jk, Jk, Jk, Jk, Jk, Jk], [some (.box [.dat .bool p_0, .dat (.sl (.sl (.int .u8))) p_1, .dat (.sl (.int .i64)) p_2, .dat (.sl (.int .i64)) p_3])]⟩) (fun (i : Int) => 0 ≤ i ∧ i ≤ p_3.length ∧ p_3.any (fun k => !decide (2 ≤ k ∧ k ≤ 63)) = (p_3.drop i.toNat).any (fun k => !decide (2 ≤ k ∧ k ≤ 63))) (fun (i : Int) => p_3.length - i.toNat) (0) rfl ?_ ?_
    · simp
    rintro i hf I hI
    replace hf : 0 ≤ i ∧ i ≤ p_3.length ∧ p_3.any (fun k => !decide (2 ≤ k ∧ k ≤ 63)) = (p_3.drop i.toNat).any (fun k => !decide (2 ≤ k ∧ k ≤ 63)) := hf
    generalize hL : Lg.std = L
    generalize hA : Alg.std = A
    cbv
    subst hL hA
    try dsimp only [Ty.den]
    subst hI
    obtain ⟨h1, h2, h3⟩ := hf
    have hl := hw.1.2.2.2.1.1
    have hdc := fun (h : i.toNat < p_3.length) => drop_cons p_3 0 i.toNat h
    have he := fun (h : p_3.length ≤ i.toNat) => drop_nil p_3 i.toNat h
    repeat' (first | intro _ | apply And.intro)
    all_goals first | (with_reducible exact True.intro) | ((fail_if_success (refine lp_v (V := Unit) (fun _ => ⟨[], []⟩) (fun _ => True) (fun _ => 0) () ?_ ?_ ?_)); (try simp only [Lg.std, Alg.std, List.drop_zero, List.take_length] at *); (try refine ⟨_, rfl, ?_, ?_⟩); (all_goals (subst hR0 hg_F_s_l1In hg_Q_s_l1In hg_F_s_l15Id hg_Q_s_l15Id hg_F_s_l1Order hg_Q_s_l1Order; (try simp only [Lg.std, Alg.std, List.drop_zero, List.take_length, F_s_l1In, F_s_l15Id, F_s_l1Order, Q_s_l1In, Q_s_l15Id, Q_s_l1Order, F_s_NodeFault] at *); first | done | (grind [nodeFault])))) | skip
def con_s_NodeFault : Con := ⟨true, g1 (pD (.pair .bool (.pair (.sl (.sl (.int .u8))) (.pair (.sl (.int .i64)) (.pair (.sl (.int .i64)) .unit))))) fun p => .one ⟨[Q_s_NodeFault p], [⟨(.int .i64), .sh, F_s_NodeFault p⟩], []⟩, [], false, 0⟩
theorem ok_s_NodeFault : ConOk pg 142 con_s_NodeFault := ConOk.g1 (Enters.of (by kernel_rfl)) ct_s_NodeFault

def F_i_NodeFault (p : (Bool) × (List (List (Int))) × (List (Int)) × (List (Int)) × Unit) : Int := nodeFault p
def Q_i_NodeFault (p : (Bool) × (List (List (Int))) × (List (Int)) × (List (Int)) × Unit) : Prop := True
def O_i_NodeFault : Opt := ⟨fun i => (match decide (i = 13) with | true => true | false => false), fun i => (match decide (i = 11) with | true => [false, true, false, false, false, false, true, false, false, false, false, false, false, false, false, false, false, false, false, false, false, false, false, false, false, false, false, false, false, false, false, false, false, false, false, false, false, false, false, false, false, false, false, false, false, false, false, false, false, false, false, false, false, false, false, false, false, false, false, false, false, false, false, false, false, false, false, false, false, false, false, false, false, false, false, false, false, false, false, false, false, false, false, false, false] | false => (match decide (i = 4) with | true => [false, true, false, false, false, false, false, false, false, false, false, false, true, true, true, false, false, false, false, false, false, false, false, false, false, false, false, false, false, false, false, false, false, false, false, false, false, false, false, false, false, false, false, false, false, false, false, false, false, false, false, false, false, false, false, false, false, false, false, false, false, false, false, false, false, false, false, false, false, false, false, false, false, false, false, false, false, false, false, false, false, false, false, false, false] | false => [])), fun i => .done, fun i => none, fun i => false, fun i => [], fun i => false, fun i => none, fun i => none⟩
def τ_i_NodeFault : Env := Env.of [(2, (.int .i64)), (3, (.int .i64)), (4, .bool), (22, (.sl (.sl (.int .u8)))), (34, (.sl (.int .u8))), (75, (.sl (.int .i64))), (156, (.pair .bool (.pair (.sl (.sl (.int .u8))) (.pair (.sl (.int .i64)) (.pair (.sl (.int .i64)) .unit)))))] [] []

theorem ct_i_NodeFault (p : (Bool) × (List (List (Int))) × (List (Int)) × (List (Int)) × Unit) : Ct pg 148 [.dat (.pair .bool (.pair (.sl (.sl (.int .u8))) (.pair (.sl (.int .i64)) (.pair (.sl (.int .i64)) .unit)))) p] ⟨[Q_i_NodeFault p], [⟨(.int .i64), .sh, F_i_NodeFault p⟩], []⟩ := by
  refine ct_claim (O := O_i_NodeFault) (τ := τ_i_NodeFault) (EnvOk.of (by kernel_rfl) (by kernel_rfl)) (GOk.of (.cons ok_b_Compare (.cons ok_i_rowKeyFault (.cons ok_i_NodeFault_1 (.cons ok_i_NodeFault_2 (.cons (ConOk.or ok_sl_ContainsFunc_int64__i_NodeFault_1 ok_sl_ContainsFunc_int64__i_NodeFault_2) .nil)))) : AllOk pg [(68, con_b_Compare), (57, con_i_rowKeyFault), (151, con_i_NodeFault_1), (152, con_i_NodeFault_2), (150, (Con.or con_sl_ContainsFunc_int64__i_NodeFault_1 con_sl_ContainsFunc_int64__i_NodeFault_2))])) mixed (Enters.of (by kernel_rfl)) (fn := Go.Proofs.Try.f148) (by kernel_rfl) rfl (by kernel_rfl) ?_
  intro hp hw
  have hq : Q_i_NodeFault p := hp _ (List.mem_singleton.2 rfl)
  clear hp
  change claim Lg.std Alg.std τ_i_NodeFault (Gam.of [(68, con_b_Compare), (57, con_i_rowKeyFault), (151, con_i_NodeFault_1), (152, con_i_NodeFault_2), (150, (Con.or con_sl_ContainsFunc_int64__i_NodeFault_1 con_sl_ContainsFunc_int64__i_NodeFault_2))]) O_i_NodeFault Go.Proofs.Try.f148 [.dat (.pair .bool (.pair (.sl (.sl (.int .u8))) (.pair (.sl (.int .i64)) (.pair (.sl (.int .i64)) .unit)))) p] ⟨[Q_i_NodeFault p], [⟨(.int .i64), .sh, F_i_NodeFault p⟩], []⟩
  delta con_b_Compare con_i_rowKeyFault con_i_NodeFault_1 con_i_NodeFault_2 con_sl_ContainsFunc_int64__i_NodeFault_1 con_sl_ContainsFunc_int64__i_NodeFault_2
  generalize hg_F_b_Compare : F_b_Compare = g_F_b_Compare
  generalize hg_Q_b_Compare : Q_b_Compare = g_Q_b_Compare
  generalize hg_F_i_rowKeyFault : F_i_rowKeyFault = g_F_i_rowKeyFault
  generalize hg_Q_i_rowKeyFault : Q_i_rowKeyFault = g_Q_i_rowKeyFault
  generalize hg_F_i_NodeFault_1 : F_i_NodeFault_1 = g_F_i_NodeFault_1
  generalize hg_Q_i_NodeFault_1 : Q_i_NodeFault_1 = g_Q_i_NodeFault_1
  generalize hg_F_i_NodeFault_2 : F_i_NodeFault_2 = g_F_i_NodeFault_2
  generalize hg_Q_i_NodeFault_2 : Q_i_NodeFault_2 = g_Q_i_NodeFault_2
  generalize hg_F_sl_ContainsFunc_int64__i_NodeFault_1 : F_sl_ContainsFunc_int64__i_NodeFault_1 = g_F_sl_ContainsFunc_int64__i_NodeFault_1
  generalize hg_Q_sl_ContainsFunc_int64__i_NodeFault_1 : Q_sl_ContainsFunc_int64__i_NodeFault_1 = g_Q_sl_ContainsFunc_int64__i_NodeFault_1
  generalize hg_F_sl_ContainsFunc_int64__i_NodeFault_2 : F_sl_ContainsFunc_int64__i_NodeFault_2 = g_F_sl_ContainsFunc_int64__i_NodeFault_2
  generalize hg_Q_sl_ContainsFunc_int64__i_NodeFault_2 : Q_sl_ContainsFunc_int64__i_NodeFault_2 = g_Q_sl_ContainsFunc_int64__i_NodeFault_2
  generalize hR0 : F_i_NodeFault p = R0
  generalize Q_i_NodeFault p = Q0
  generalize hL : Lg.std = L
  generalize hA : Alg.std = A
  cbv
  subst hL hA
  try dsimp only [Ty.den]
  obtain ⟨p_0, p_1, p_2, p_3, ⟨⟩⟩ := p
  repeat' (first | intro _ | apply And.intro)
  all_goals first | trivial | ((fail_if_success (refine lp_v (V := Unit) (fun _ => ⟨[], []⟩) (fun _ => True) (fun _ => 0) () ?_ ?_ ?_)); subst hR0 hg_F_b_Compare hg_Q_b_Compare hg_F_i_rowKeyFault hg_Q_i_rowKeyFault hg_F_i_NodeFault_1 hg_Q_i_NodeFault_1 hg_F_i_NodeFault_2 hg_Q_i_NodeFault_2 hg_F_sl_ContainsFunc_int64__i_NodeFault_1 hg_Q_sl_ContainsFunc_int64__i_NodeFault_1 hg_F_sl_ContainsFunc_int64__i_NodeFault_2 hg_Q_sl_ContainsFunc_int64__i_NodeFault_2; (try simp only [Alg.std, F_b_Compare, F_i_rowKeyFault, F_i_NodeFault_1, F_i_NodeFault_2, F_sl_ContainsFunc_int64__i_NodeFault_1, F_sl_ContainsFunc_int64__i_NodeFault_2, Q_b_Compare, Q_i_rowKeyFault, Q_i_NodeFault_1, Q_i_NodeFault_2, Q_sl_ContainsFunc_int64__i_NodeFault_1, Q_sl_ContainsFunc_int64__i_NodeFault_2, F_i_NodeFault] at *); all_goals grind [nodeFault]) | skip
  refine lp_v (V := (Int) × (Int)) (fun ((i, M) : (Int) × (Int)) => ⟨[Jk, .bptr 0 0, Jk, Jk, Jk, Jk, Jk, Jk, Jk, Jk, Jk, Jk, .dat (.sl (.sl (.int .u8))) p_1, .dat (.int .i64) M, .dat (.int .i64) i, Jk, Jk, Jk, Jk, Jk, Jk, Jk, Jk, Jk, Jk, Jk, Jk, Jk, Jk, Jk, Jk, Jk, Jk, Jk, Jk, Jk, Jk, Jk, Jk, Jk, Jk, Jk, Jk, Jk, Jk, Jk, Jk, Jk, Jk, Jk, Jk, Jk, Jk, Jk, Jk, Jk, Jk, Jk, Jk, Jk, Jk, Jk, Jk, Jk, Jk, Jk, Jk, Jk, Jk, Jk, Jk, Jk, Jk, Jk, Jk, Jk, Jk, Jk, Jk, Jk, Jk, Jk, Jk, Jk, Jk], [some (.box [.dat .bool p_0, .dat (.sl (.sl (.int .u8))) p_1, .dat (.sl (.int .i64)) p_2, .dat (.sl (.int .i64)) p_3])]⟩) (fun ((i, M) : (Int) × (Int)) => M = p_1.length ∧ 0 ≤ i ∧ i ≤ p_1.length ∧ p_1.any badKey = (p_1.drop i.toNat).any badKey) (fun ((i, M) : (Int) × (Int)) => p_1.length - i.toNat) (0, _) rfl ?_ ?_
  · simp [Alg.std]
  rintro ⟨i, M⟩ hf I hI
  replace hf : M = p_1.length ∧ 0 ≤ i ∧ i ≤ p_1.length ∧ p_1.any badKey = (p_1.drop i.toNat).any badKey := hf
  generalize hL : Lg.std = L
  generalize hA : Alg.std = A
  cbv
  subst hL hA
  try dsimp only [Ty.den]
  subst hI
  obtain ⟨h1, h2, h3, h4⟩ := hf
  have hl := hw.1.2.1.1
  have hdc := fun (h : i.toNat < p_1.length) => drop_cons p_1 ([] : List Int) i.toNat h
  have he := fun (h : p_1.length ≤ i.toNat) => drop_nil p_1 i.toNat h
  repeat' (first | intro _ | apply And.intro)
  all_goals first | (with_reducible exact True.intro) | ((fail_if_success (refine lp_v (V := Unit) (fun _ => ⟨[], []⟩) (fun _ => True) (fun _ => 0) () ?_ ?_ ?_)); (try simp only [Lg.std, Alg.std, List.drop_zero, List.take_length] at *); (try refine ⟨(_, _), rfl, ?_, ?_⟩); (all_goals (subst hR0 hg_F_b_Compare hg_Q_b_Compare hg_F_i_rowKeyFault hg_Q_i_rowKeyFault hg_F_i_NodeFault_1 hg_Q_i_NodeFault_1 hg_F_i_NodeFault_2 hg_Q_i_NodeFault_2 hg_F_sl_ContainsFunc_int64__i_NodeFault_1 hg_Q_sl_ContainsFunc_int64__i_NodeFault_1 hg_F_sl_ContainsFunc_int64__i_NodeFault_2 hg_Q_sl_ContainsFunc_int64__i_NodeFault_2; (try simp only [Lg.std, Alg.std, List.drop_zero, List.take_length, F_b_Compare, F_i_rowKeyFault, F_i_NodeFault_1, F_i_NodeFault_2, F_sl_ContainsFunc_int64__i_NodeFault_1, F_sl_ContainsFunc_int64__i_NodeFault_2, Q_b_Compare, Q_i_rowKeyFault, Q_i_NodeFault_1, Q_i_NodeFault_2, Q_sl_ContainsFunc_int64__i_NodeFault_1, Q_sl_ContainsFunc_int64__i_NodeFault_2, F_i_NodeFault] at *); first | done | (grind [nodeFault, badKey])))) | skip
  refine lp_v (V := (Int)) (fun (i : Int) => ⟨[Jk, .bptr 0 0, Jk, Jk, Jk, Jk, .dat (.int .i64) i, Jk, Jk, Jk, Jk, Jk, Jk, Jk, Jk, Jk, Jk, Jk, Jk, Jk, Jk, Jk, Jk, Jk, Jk, Jk, Jk, Jk, Jk, Jk, Jk, Jk, Jk, Jk, Jk, Jk, Jk, Jk, Jk, Jk, Jk, Jk, Jk, Jk, Jk, Jk, Jk, Jk, Jk, Jk, Jk, Jk, Jk, Jk, Jk, Jk, Jk, Jk, Jk, Jk, Jk, Jk, Jk, Jk, Jk, Jk, Jk, Jk, Jk, Jk, Jk, Jk, Jk, Jk, Jk, Jk, Jk, Jk, Jk, Jk, Jk, Jk, Jk, Jk, Jk], [some (.box [.dat .bool p_0, .dat (.sl (.sl (.int .u8))) p_1, .dat (.sl (.int .i64)) p_2, .dat (.sl (.int .i64)) p_3])]⟩) (fun (i : Int) => 1 ≤ i ∧ (i ≤ p_1.length ∨ i = 1) ∧ incr p_1 = incr (p_1.drop (i.toNat - 1))) (fun (i : Int) => p_1.length - i.toNat) (1) rfl ?_ ?_
  · simp
  rintro i hf I hI
  replace hf : 1 ≤ i ∧ (i ≤ p_1.length ∨ i = 1) ∧ incr p_1 = incr (p_1.drop (i.toNat - 1)) := hf
  generalize hL : Lg.std = L
  generalize hA : Alg.std = A
  cbv
  subst hL hA
  try dsimp only [Ty.den]
  subst hI
  obtain ⟨h1, h2, h3⟩ := hf
  have hl := hw.1.2.1.1
  have hs := fun (h1 : 1 ≤ i.toNat) (h : i.toNat < p_1.length) => incr_step p_1 i.toNat h1 h
  have he := fun (h : p_1.length ≤ i.toNat) => incr_end p_1 i.toNat h
  have e1 : (i - 1).toNat = i.toNat - 1 := by omega
  have e2 : (i + 1).toNat - 1 = i.toNat := by omega
  repeat' (first | intro _ | apply And.intro)
  all_goals first | (with_reducible exact True.intro) | ((fail_if_success (refine lp_v (V := Unit) (fun _ => ⟨[], []⟩) (fun _ => True) (fun _ => 0) () ?_ ?_ ?_)); (try simp only [Lg.std, Alg.std, List.drop_zero, List.take_length] at *); (try refine ⟨_, rfl, ?_, ?_⟩); (all_goals (subst hR0 hg_F_b_Compare hg_Q_b_Compare hg_F_i_rowKeyFault hg_Q_i_rowKeyFault hg_F_i_NodeFault_1 hg_Q_i_NodeFault_1 hg_F_i_NodeFault_2 hg_Q_i_NodeFault_2 hg_F_sl_ContainsFunc_int64__i_NodeFault_1 hg_Q_sl_ContainsFunc_int64__i_NodeFault_1 hg_F_sl_ContainsFunc_int64__i_NodeFault_2 hg_Q_sl_ContainsFunc_int64__i_NodeFault_2; (try simp only [Lg.std, Alg.std, List.drop_zero, List.take_length, F_b_Compare, F_i_rowKeyFault, F_i_NodeFault_1, F_i_NodeFault_2, F_sl_ContainsFunc_int64__i_NodeFault_1, F_sl_ContainsFunc_int64__i_NodeFault_2, Q_b_Compare, Q_i_rowKeyFault, Q_i_NodeFault_1, Q_i_NodeFault_2, Q_sl_ContainsFunc_int64__i_NodeFault_1, Q_sl_ContainsFunc_int64__i_NodeFault_2, F_i_NodeFault] at *); first | done | (grind [nodeFault])))) | skip
def con_i_NodeFault : Con := ⟨true, g1 (pD (.pair .bool (.pair (.sl (.sl (.int .u8))) (.pair (.sl (.int .i64)) (.pair (.sl (.int .i64)) .unit))))) fun p => .one ⟨[Q_i_NodeFault p], [⟨(.int .i64), .sh, F_i_NodeFault p⟩], []⟩, [], false, 0⟩
theorem ok_i_NodeFault : ConOk pg 148 con_i_NodeFault := ConOk.g1 (Enters.of (by kernel_rfl)) ct_i_NodeFault
end Go.Vee
