/-
  Contracts of functions of the program: what each returns for all arguments that its precondition lets in.
-/
import Derived.Test.YtkbnbjdkdlooiaaGreatDoorVK2
set_option linter.unusedSimpArgs false
set_option linter.unusedVariables false
set_option maxRecDepth 100000
set_option maxHeartbeats 4000000
set_option synthInstance.maxHeartbeats 4000000
set_option synthInstance.maxSize 20000000
namespace Go.Vee
open Go
def findG {α : Type} (p : α → Bool) : List α → Int → Int
  | [], _ => -1
  | x :: l, i => if p x = true then i else findG p l (i + 1)
theorem findG_cons {α : Type} (p : α → Bool) (x : α) (l : List α) (i : Int) : findG p (x :: l) i = if p x = true then i else findG p l (i + 1) := rfl
theorem findG_nil {α : Type} (p : α → Bool) (i : Int) : findG p [] i = -1 := rfl
theorem findG_any {α : Type} (p : α → Bool) : ∀ (l : List α) (i : Int), 0 ≤ i → decide (0 ≤ findG p l i) = l.any p
  | [], i, h => rfl
  | x :: l, i, h => by
    have := findG_any p l (i + 1) (by omega)
    simp only [findG, List.any_cons]
    split <;> simp_all
theorem any_contains (a : List Int) (n : Int) : a.any (fun x => decide (n = x)) = a.contains n := by
  induction a with
  | nil => rfl
  | cons x l ih => simp [List.any_cons, ih, List.contains_cons, BEq.beq]
abbrev PutT := Int × List Int × Unit
abbrev putD : PutT := (0, [], ())
theorem getD_mem {α : Type} (l : List α) (d : α) (i : Nat) (h : i < l.length) : l.getD i d ∈ l := by
  rw [List.getD_eq_getElem?_getD, List.getElem?_eq_getElem h]; simp

def F_sl_Index_int64 (a : List (Int)) (n : Int) : Int := findG (fun x => decide (n = x)) a 0
def Q_sl_Index_int64 (a : List (Int)) (n : Int) : Prop := True
def O_sl_Index_int64 : Opt := ⟨fun i => false, fun i => (match decide (i = 2) with | true => [true, true, false, false, false, false, false, true, true, false, false, false, false, false, false, false, false, false, false] | false => []), fun i => .done, fun i => none, fun i => false, fun i => [], fun i => false, fun i => none⟩
def τ_sl_Index_int64 : Env := Env.of [(2, (.int .i64)), (3, (.int .i64)), (4, .bool), (62, (.sl (.int .i64)))] [] []

theorem ct_sl_Index_int64 (a : List (Int)) (n : Int) : Ct pg 201 [.dat (.sl (.int .i64)) a, .dat (.int .i64) n] ⟨[Q_sl_Index_int64 a n], [⟨(.int .i64), .sh, F_sl_Index_int64 a n⟩], []⟩ := by
  refine ct_claim (O := O_sl_Index_int64) (τ := τ_sl_Index_int64) (EnvOk.of (by kernel_rfl) (by kernel_rfl)) (GOk.of (.nil : AllOk pg [])) mixed (Enters.of (by kernel_rfl)) (fn := Go.Proofs.Tryz.f201) (by kernel_rfl) rfl (by kernel_rfl) ?_
  intro hp hw
  have hq : Q_sl_Index_int64 a n := hp _ (List.mem_singleton.2 rfl)
  clear hp
  change claim Lg.std Alg.std τ_sl_Index_int64 (Gam.of []) O_sl_Index_int64 Go.Proofs.Tryz.f201 [.dat (.sl (.int .i64)) a, .dat (.int .i64) n] ⟨[Q_sl_Index_int64 a n], [⟨(.int .i64), .sh, F_sl_Index_int64 a n⟩], []⟩
  generalize hR0 : F_sl_Index_int64 a n = R0
  generalize Q_sl_Index_int64 a n = Q0
  generalize hL : Lg.std = L
  generalize hA : Alg.std = A
  cbv
  subst hL hA
  try dsimp only [Ty.den]
  refine lp_v (V := (Int) × (Int)) (fun ((i, M) : (Int) × (Int)) => ⟨[.dat (.sl (.int .i64)) a, .dat (.int .i64) n, .junk, .junk, .junk, .junk, .junk, .dat (.int .i64) M, .dat (.int .i64) i, .junk, .junk, .junk, .junk, .junk, .junk, .junk, .junk, .junk, .junk], []⟩) (fun ((i, M) : (Int) × (Int)) => M = a.length ∧ 0 ≤ i ∧ i ≤ a.length ∧ findG (fun x => decide (n = x)) a 0 = findG (fun x => decide (n = x)) (a.drop i.toNat) i) (fun ((i, M) : (Int) × (Int)) => a.length - i.toNat) (0, _) rfl ?_ ?_
  · simp [Alg.std]
  rintro ⟨i, M⟩ hf I hI
  replace hf : M = a.length ∧ 0 ≤ i ∧ i ≤ a.length ∧ findG (fun x => decide (n = x)) a 0 = findG (fun x => decide (n = x)) (a.drop i.toNat) i := hf
  generalize hL : Lg.std = L
  generalize hA : Alg.std = A
  cbv
  subst hL hA
  try dsimp only [Ty.den]
  subst hI
  simp only [Lg.std, Alg.std, List.drop_zero, List.take_length]
  obtain ⟨h1, h2, h3, h4⟩ := hf
  have hl := hw.1.1
  have hdc := fun (h : i.toNat < a.length) => drop_cons a 0 i.toNat h
  have he := fun (h : a.length ≤ i.toNat) => drop_nil a i.toNat h
  repeat' (first | intro _ | apply And.intro)
  all_goals (try refine ⟨(_, _), rfl, ?_, ?_⟩)
  all_goals subst hR0
  all_goals (try simp only [F_sl_Index_int64] at *)
  all_goals grind [findG_cons, findG_nil]
def con_sl_Index_int64 : Con := ⟨true, g2 (pD (.sl (.int .i64))) (pD (.int .i64)) fun a n => .one ⟨[Q_sl_Index_int64 a n], [⟨(.int .i64), .sh, F_sl_Index_int64 a n⟩], []⟩, [], false, 0⟩
theorem ok_sl_Index_int64 : ConOk pg 201 con_sl_Index_int64 := ConOk.g2 (Enters.of (by kernel_rfl)) ct_sl_Index_int64

def F_sl_Contains_int64 (a : List (Int)) (n : Int) : Bool := a.contains n
def Q_sl_Contains_int64 (a : List (Int)) (n : Int) : Prop := True
def O_sl_Contains_int64 : Opt := ⟨fun i => false, fun i => [], fun i => .done, fun i => none, fun i => false, fun i => [], fun i => false, fun i => none⟩
def τ_sl_Contains_int64 : Env := Env.of [(2, (.int .i64)), (3, (.int .i64)), (4, .bool), (62, (.sl (.int .i64)))] [] []

theorem ct_sl_Contains_int64 (a : List (Int)) (n : Int) : Ct pg 152 [.dat (.sl (.int .i64)) a, .dat (.int .i64) n] ⟨[Q_sl_Contains_int64 a n], [⟨.bool, .sh, F_sl_Contains_int64 a n⟩], []⟩ := by
  refine ct_claim (O := O_sl_Contains_int64) (τ := τ_sl_Contains_int64) (EnvOk.of (by kernel_rfl) (by kernel_rfl)) (GOk.of (.cons ok_sl_Index_int64 .nil : AllOk pg [(201, con_sl_Index_int64)])) mixed (Enters.of (by kernel_rfl)) (fn := Go.Proofs.Tryz.f152) (by kernel_rfl) rfl (by kernel_rfl) ?_
  intro hp hw
  have hq : Q_sl_Contains_int64 a n := hp _ (List.mem_singleton.2 rfl)
  clear hp
  change claim Lg.std Alg.std τ_sl_Contains_int64 (Gam.of [(201, ⟨true, g2 (pD (.sl (.int .i64))) (pD (.int .i64)) fun a n => .one ⟨[Q_sl_Index_int64 a n], [⟨(.int .i64), .sh, F_sl_Index_int64 a n⟩], []⟩, [], false, 0⟩)]) O_sl_Contains_int64 Go.Proofs.Tryz.f152 [.dat (.sl (.int .i64)) a, .dat (.int .i64) n] ⟨[Q_sl_Contains_int64 a n], [⟨.bool, .sh, F_sl_Contains_int64 a n⟩], []⟩
  generalize hg_F_sl_Index_int64 : F_sl_Index_int64 = g_F_sl_Index_int64
  generalize hg_Q_sl_Index_int64 : Q_sl_Index_int64 = g_Q_sl_Index_int64
  generalize hR0 : F_sl_Contains_int64 a n = R0
  generalize Q_sl_Contains_int64 a n = Q0
  generalize hL : Lg.std = L
  generalize hA : Alg.std = A
  cbv
  subst hL hA
  try dsimp only [Ty.den]
  have hf := findG_any (fun x => decide (n = x)) a 0 (by omega)
  have hc := any_contains a n
  subst hR0 hg_F_sl_Index_int64 hg_Q_sl_Index_int64
  simp only [Q_sl_Contains_int64] at hq
  simp only [Lg.std, Alg.std, List.drop_zero, List.take_length, F_sl_Index_int64, Q_sl_Index_int64, F_sl_Contains_int64]
  all_goals grind
def con_sl_Contains_int64 : Con := ⟨true, g2 (pD (.sl (.int .i64))) (pD (.int .i64)) fun a n => .one ⟨[Q_sl_Contains_int64 a n], [⟨.bool, .sh, F_sl_Contains_int64 a n⟩], []⟩, [], false, 0⟩
theorem ok_sl_Contains_int64 : ConOk pg 152 con_sl_Contains_int64 := ConOk.g2 (Enters.of (by kernel_rfl)) ct_sl_Contains_int64

def F_i_DraftFault_1 (n : Int) (d : ((List (List (Int))) × (List ((Int) × (List (Int)) × Unit)) × Unit) × (List (Int)) × (List (Int)) × Unit) : Bool := d.2.2.1.contains n
def Q_i_DraftFault_1 (n : Int) (d : ((List (List (Int))) × (List ((Int) × (List (Int)) × Unit)) × Unit) × (List (Int)) × (List (Int)) × Unit) : Prop := True
def O_i_DraftFault_1 : Opt := ⟨fun i => false, fun i => [], fun i => .done, fun i => none, fun i => false, fun i => [], fun i => false, fun i => none⟩
def τ_i_DraftFault_1 : Env := Env.of [(2, (.int .i64)), (3, (.int .i64)), (4, .bool), (62, (.sl (.int .i64))), (74, (.pair (.pair (.sl (.sl (.int .u8))) (.pair (.sl (.pair (.int .i64) (.pair (.sl (.int .u8)) .unit))) .unit)) (.pair (.sl (.int .i64)) (.pair (.sl (.int .i64)) .unit))))] [] []

theorem ct_i_DraftFault_1 (n : Int) (d : ((List (List (Int))) × (List ((Int) × (List (Int)) × Unit)) × Unit) × (List (Int)) × (List (Int)) × Unit) : Ct pg 151 [.dat (.int .i64) n, .dptr (.pair (.pair (.sl (.sl (.int .u8))) (.pair (.sl (.pair (.int .i64) (.pair (.sl (.int .u8)) .unit))) .unit)) (.pair (.sl (.int .i64)) (.pair (.sl (.int .i64)) .unit))) d] ⟨[Q_i_DraftFault_1 n d], [⟨.bool, .sh, F_i_DraftFault_1 n d⟩], []⟩ := by
  refine ct_claim (O := O_i_DraftFault_1) (τ := τ_i_DraftFault_1) (EnvOk.of (by kernel_rfl) (by kernel_rfl)) (GOk.of (.cons ok_sl_Contains_int64 .nil : AllOk pg [(152, con_sl_Contains_int64)])) mixed (Enters.of (by kernel_rfl)) (fn := Go.Proofs.Tryz.f151) (by kernel_rfl) rfl (by kernel_rfl) ?_
  intro hp hw
  have hq : Q_i_DraftFault_1 n d := hp _ (List.mem_singleton.2 rfl)
  clear hp
  change claim Lg.std Alg.std τ_i_DraftFault_1 (Gam.of [(152, ⟨true, g2 (pD (.sl (.int .i64))) (pD (.int .i64)) fun a n => .one ⟨[Q_sl_Contains_int64 a n], [⟨.bool, .sh, F_sl_Contains_int64 a n⟩], []⟩, [], false, 0⟩)]) O_i_DraftFault_1 Go.Proofs.Tryz.f151 [.dat (.int .i64) n, .dptr (.pair (.pair (.sl (.sl (.int .u8))) (.pair (.sl (.pair (.int .i64) (.pair (.sl (.int .u8)) .unit))) .unit)) (.pair (.sl (.int .i64)) (.pair (.sl (.int .i64)) .unit))) d] ⟨[Q_i_DraftFault_1 n d], [⟨.bool, .sh, F_i_DraftFault_1 n d⟩], []⟩
  generalize hg_F_sl_Contains_int64 : F_sl_Contains_int64 = g_F_sl_Contains_int64
  generalize hg_Q_sl_Contains_int64 : Q_sl_Contains_int64 = g_Q_sl_Contains_int64
  generalize hR0 : F_i_DraftFault_1 n d = R0
  generalize Q_i_DraftFault_1 n d = Q0
  generalize hL : Lg.std = L
  generalize hA : Alg.std = A
  cbv
  subst hL hA
  try dsimp only [Ty.den]
  subst hR0 hg_F_sl_Contains_int64 hg_Q_sl_Contains_int64
  simp only [Q_i_DraftFault_1] at hq
  simp only [Lg.std, Alg.std, List.drop_zero, List.take_length, F_sl_Contains_int64, Q_sl_Contains_int64, F_i_DraftFault_1]
  all_goals grind
def con_i_DraftFault_1 : Con := ⟨true, g2 (pD (.int .i64)) (pP (.pair (.pair (.sl (.sl (.int .u8))) (.pair (.sl (.pair (.int .i64) (.pair (.sl (.int .u8)) .unit))) .unit)) (.pair (.sl (.int .i64)) (.pair (.sl (.int .i64)) .unit)))) fun n d => .one ⟨[Q_i_DraftFault_1 n d], [⟨.bool, .sh, F_i_DraftFault_1 n d⟩], []⟩, [], false, 0⟩
theorem ok_i_DraftFault_1 : ConOk pg 151 con_i_DraftFault_1 := ConOk.g2 (Enters.of (by kernel_rfl)) ct_i_DraftFault_1

def F_sl_IndexFunc_int64__i_DraftFault_1 (s : List (Int)) (d : ((List (List (Int))) × (List ((Int) × (List (Int)) × Unit)) × Unit) × (List (Int)) × (List (Int)) × Unit) : Int := findG (fun x => d.2.2.1.contains x) s 0
def Q_sl_IndexFunc_int64__i_DraftFault_1 (s : List (Int)) (d : ((List (List (Int))) × (List ((Int) × (List (Int)) × Unit)) × Unit) × (List (Int)) × (List (Int)) × Unit) : Prop := True
def O_sl_IndexFunc_int64__i_DraftFault_1 : Opt := ⟨fun i => false, fun i => (match decide (i = 2) with | true => [true, true, false, false, false, false, false, true, true, false, false, false, false, false, false, false, false, false, false] | false => []), fun i => .done, fun i => none, fun i => false, fun i => [], fun i => false, fun i => none⟩
def τ_sl_IndexFunc_int64__i_DraftFault_1 : Env := Env.of [(2, (.int .i64)), (3, (.int .i64)), (4, .bool), (62, (.sl (.int .i64)))] [] []

theorem ct_sl_IndexFunc_int64__i_DraftFault_1 (s : List (Int)) (d : ((List (List (Int))) × (List ((Int) × (List (Int)) × Unit)) × Unit) × (List (Int)) × (List (Int)) × Unit) : Ct pg 200 [.dat (.sl (.int .i64)) s, .clo 151 [.dptr (.pair (.pair (.sl (.sl (.int .u8))) (.pair (.sl (.pair (.int .i64) (.pair (.sl (.int .u8)) .unit))) .unit)) (.pair (.sl (.int .i64)) (.pair (.sl (.int .i64)) .unit))) d]] ⟨[Q_sl_IndexFunc_int64__i_DraftFault_1 s d], [⟨(.int .i64), .sh, F_sl_IndexFunc_int64__i_DraftFault_1 s d⟩], []⟩ := by
  refine ct_claim (O := O_sl_IndexFunc_int64__i_DraftFault_1) (τ := τ_sl_IndexFunc_int64__i_DraftFault_1) (EnvOk.of (by kernel_rfl) (by kernel_rfl)) (GOk.of (.cons ok_i_DraftFault_1 .nil : AllOk pg [(151, con_i_DraftFault_1)])) mixed (Enters.of (by kernel_rfl)) (fn := Go.Proofs.Tryz.f200) (by kernel_rfl) rfl (by kernel_rfl) ?_
  intro hp hw
  have hq : Q_sl_IndexFunc_int64__i_DraftFault_1 s d := hp _ (List.mem_singleton.2 rfl)
  clear hp
  change claim Lg.std Alg.std τ_sl_IndexFunc_int64__i_DraftFault_1 (Gam.of [(151, ⟨true, g2 (pD (.int .i64)) (pP (.pair (.pair (.sl (.sl (.int .u8))) (.pair (.sl (.pair (.int .i64) (.pair (.sl (.int .u8)) .unit))) .unit)) (.pair (.sl (.int .i64)) (.pair (.sl (.int .i64)) .unit)))) fun n d => .one ⟨[Q_i_DraftFault_1 n d], [⟨.bool, .sh, F_i_DraftFault_1 n d⟩], []⟩, [], false, 0⟩)]) O_sl_IndexFunc_int64__i_DraftFault_1 Go.Proofs.Tryz.f200 [.dat (.sl (.int .i64)) s, .clo 151 [.dptr (.pair (.pair (.sl (.sl (.int .u8))) (.pair (.sl (.pair (.int .i64) (.pair (.sl (.int .u8)) .unit))) .unit)) (.pair (.sl (.int .i64)) (.pair (.sl (.int .i64)) .unit))) d]] ⟨[Q_sl_IndexFunc_int64__i_DraftFault_1 s d], [⟨(.int .i64), .sh, F_sl_IndexFunc_int64__i_DraftFault_1 s d⟩], []⟩
  generalize hg_F_i_DraftFault_1 : F_i_DraftFault_1 = g_F_i_DraftFault_1
  generalize hg_Q_i_DraftFault_1 : Q_i_DraftFault_1 = g_Q_i_DraftFault_1
  generalize hR0 : F_sl_IndexFunc_int64__i_DraftFault_1 s d = R0
  generalize Q_sl_IndexFunc_int64__i_DraftFault_1 s d = Q0
  generalize hL : Lg.std = L
  generalize hA : Alg.std = A
  cbv
  subst hL hA
  try dsimp only [Ty.den]
  refine lp_v (V := (Int) × (Int)) (fun ((i, M) : (Int) × (Int)) => ⟨[.dat (.sl (.int .i64)) s, .clo 151 [.dptr (.pair (.pair (.sl (.sl (.int .u8))) (.pair (.sl (.pair (.int .i64) (.pair (.sl (.int .u8)) .unit))) .unit)) (.pair (.sl (.int .i64)) (.pair (.sl (.int .i64)) .unit))) d], .junk, .junk, .junk, .junk, .junk, .dat (.int .i64) M, .dat (.int .i64) i, .junk, .junk, .junk, .junk, .junk, .junk, .junk, .junk, .junk, .junk], []⟩) (fun ((i, M) : (Int) × (Int)) => M = s.length ∧ 0 ≤ i ∧ i ≤ s.length ∧ findG (fun x => d.2.2.1.contains x) s 0 = findG (fun x => d.2.2.1.contains x) (s.drop i.toNat) i) (fun ((i, M) : (Int) × (Int)) => s.length - i.toNat) (0, _) rfl ?_ ?_
  · simp [Alg.std]
  rintro ⟨i, M⟩ hf I hI
  replace hf : M = s.length ∧ 0 ≤ i ∧ i ≤ s.length ∧ findG (fun x => d.2.2.1.contains x) s 0 = findG (fun x => d.2.2.1.contains x) (s.drop i.toNat) i := hf
  generalize hL : Lg.std = L
  generalize hA : Alg.std = A
  cbv
  subst hL hA
  try dsimp only [Ty.den]
  subst hI
  simp only [Lg.std, Alg.std, List.drop_zero, List.take_length]
  obtain ⟨h1, h2, h3, h4⟩ := hf
  have hl := hw.1.1
  have hdc := fun (h : i.toNat < s.length) => drop_cons s 0 i.toNat h
  have he := fun (h : s.length ≤ i.toNat) => drop_nil s i.toNat h
  repeat' (first | intro _ | apply And.intro)
  all_goals (try refine ⟨(_, _), rfl, ?_, ?_⟩)
  all_goals subst hR0 hg_F_i_DraftFault_1 hg_Q_i_DraftFault_1
  all_goals (try simp only [F_i_DraftFault_1, Q_i_DraftFault_1, F_sl_IndexFunc_int64__i_DraftFault_1] at *)
  all_goals grind [findG_cons, findG_nil]
def con_sl_IndexFunc_int64__i_DraftFault_1 : Con := ⟨true, g2 (pD (.sl (.int .i64))) (pC1 151 (pP (.pair (.pair (.sl (.sl (.int .u8))) (.pair (.sl (.pair (.int .i64) (.pair (.sl (.int .u8)) .unit))) .unit)) (.pair (.sl (.int .i64)) (.pair (.sl (.int .i64)) .unit))))) fun s d => .one ⟨[Q_sl_IndexFunc_int64__i_DraftFault_1 s d], [⟨(.int .i64), .sh, F_sl_IndexFunc_int64__i_DraftFault_1 s d⟩], []⟩, [], false, 0⟩
theorem ok_sl_IndexFunc_int64__i_DraftFault_1 : ConOk pg 200 con_sl_IndexFunc_int64__i_DraftFault_1 := ConOk.g2 (Enters.of (by kernel_rfl)) ct_sl_IndexFunc_int64__i_DraftFault_1

def F_sl_ContainsFunc_int64__i_DraftFault_1 (s : List (Int)) (d : ((List (List (Int))) × (List ((Int) × (List (Int)) × Unit)) × Unit) × (List (Int)) × (List (Int)) × Unit) : Bool := s.any (fun x => d.2.2.1.contains x)
def Q_sl_ContainsFunc_int64__i_DraftFault_1 (s : List (Int)) (d : ((List (List (Int))) × (List ((Int) × (List (Int)) × Unit)) × Unit) × (List (Int)) × (List (Int)) × Unit) : Prop := True
def O_sl_ContainsFunc_int64__i_DraftFault_1 : Opt := ⟨fun i => false, fun i => [], fun i => .done, fun i => none, fun i => false, fun i => [], fun i => false, fun i => none⟩
def τ_sl_ContainsFunc_int64__i_DraftFault_1 : Env := Env.of [(3, (.int .i64)), (4, .bool), (62, (.sl (.int .i64)))] [] []

theorem ct_sl_ContainsFunc_int64__i_DraftFault_1 (s : List (Int)) (d : ((List (List (Int))) × (List ((Int) × (List (Int)) × Unit)) × Unit) × (List (Int)) × (List (Int)) × Unit) : Ct pg 150 [.dat (.sl (.int .i64)) s, .clo 151 [.dptr (.pair (.pair (.sl (.sl (.int .u8))) (.pair (.sl (.pair (.int .i64) (.pair (.sl (.int .u8)) .unit))) .unit)) (.pair (.sl (.int .i64)) (.pair (.sl (.int .i64)) .unit))) d]] ⟨[Q_sl_ContainsFunc_int64__i_DraftFault_1 s d], [⟨.bool, .sh, F_sl_ContainsFunc_int64__i_DraftFault_1 s d⟩], []⟩ := by
  refine ct_claim (O := O_sl_ContainsFunc_int64__i_DraftFault_1) (τ := τ_sl_ContainsFunc_int64__i_DraftFault_1) (EnvOk.of (by kernel_rfl) (by kernel_rfl)) (GOk.of (.cons ok_i_DraftFault_1 (.cons ok_sl_IndexFunc_int64__i_DraftFault_1 .nil) : AllOk pg [(151, con_i_DraftFault_1), (200, con_sl_IndexFunc_int64__i_DraftFault_1)])) mixed (Enters.of (by kernel_rfl)) (fn := Go.Proofs.Tryz.f150) (by kernel_rfl) rfl (by kernel_rfl) ?_
  intro hp hw
  have hq : Q_sl_ContainsFunc_int64__i_DraftFault_1 s d := hp _ (List.mem_singleton.2 rfl)
  clear hp
  change claim Lg.std Alg.std τ_sl_ContainsFunc_int64__i_DraftFault_1 (Gam.of [(151, ⟨true, g2 (pD (.int .i64)) (pP (.pair (.pair (.sl (.sl (.int .u8))) (.pair (.sl (.pair (.int .i64) (.pair (.sl (.int .u8)) .unit))) .unit)) (.pair (.sl (.int .i64)) (.pair (.sl (.int .i64)) .unit)))) fun n d => .one ⟨[Q_i_DraftFault_1 n d], [⟨.bool, .sh, F_i_DraftFault_1 n d⟩], []⟩, [], false, 0⟩), (200, ⟨true, g2 (pD (.sl (.int .i64))) (pC1 151 (pP (.pair (.pair (.sl (.sl (.int .u8))) (.pair (.sl (.pair (.int .i64) (.pair (.sl (.int .u8)) .unit))) .unit)) (.pair (.sl (.int .i64)) (.pair (.sl (.int .i64)) .unit))))) fun s d => .one ⟨[Q_sl_IndexFunc_int64__i_DraftFault_1 s d], [⟨(.int .i64), .sh, F_sl_IndexFunc_int64__i_DraftFault_1 s d⟩], []⟩, [], false, 0⟩)]) O_sl_ContainsFunc_int64__i_DraftFault_1 Go.Proofs.Tryz.f150 [.dat (.sl (.int .i64)) s, .clo 151 [.dptr (.pair (.pair (.sl (.sl (.int .u8))) (.pair (.sl (.pair (.int .i64) (.pair (.sl (.int .u8)) .unit))) .unit)) (.pair (.sl (.int .i64)) (.pair (.sl (.int .i64)) .unit))) d]] ⟨[Q_sl_ContainsFunc_int64__i_DraftFault_1 s d], [⟨.bool, .sh, F_sl_ContainsFunc_int64__i_DraftFault_1 s d⟩], []⟩
  generalize hg_F_i_DraftFault_1 : F_i_DraftFault_1 = g_F_i_DraftFault_1
  generalize hg_Q_i_DraftFault_1 : Q_i_DraftFault_1 = g_Q_i_DraftFault_1
  generalize hg_F_sl_IndexFunc_int64__i_DraftFault_1 : F_sl_IndexFunc_int64__i_DraftFault_1 = g_F_sl_IndexFunc_int64__i_DraftFault_1
  generalize hg_Q_sl_IndexFunc_int64__i_DraftFault_1 : Q_sl_IndexFunc_int64__i_DraftFault_1 = g_Q_sl_IndexFunc_int64__i_DraftFault_1
  generalize hR0 : F_sl_ContainsFunc_int64__i_DraftFault_1 s d = R0
  generalize Q_sl_ContainsFunc_int64__i_DraftFault_1 s d = Q0
  generalize hL : Lg.std = L
  generalize hA : Alg.std = A
  cbv
  subst hL hA
  try dsimp only [Ty.den]
  have hf := findG_any (fun x => d.2.2.1.contains x) s 0 (by omega)
  subst hR0 hg_F_i_DraftFault_1 hg_Q_i_DraftFault_1 hg_F_sl_IndexFunc_int64__i_DraftFault_1 hg_Q_sl_IndexFunc_int64__i_DraftFault_1
  simp only [Q_sl_ContainsFunc_int64__i_DraftFault_1] at hq
  simp only [Lg.std, Alg.std, List.drop_zero, List.take_length, F_i_DraftFault_1, F_sl_IndexFunc_int64__i_DraftFault_1, Q_i_DraftFault_1, Q_sl_IndexFunc_int64__i_DraftFault_1, F_sl_ContainsFunc_int64__i_DraftFault_1]
  all_goals grind
def con_sl_ContainsFunc_int64__i_DraftFault_1 : Con := ⟨true, g2 (pD (.sl (.int .i64))) (pC1 151 (pP (.pair (.pair (.sl (.sl (.int .u8))) (.pair (.sl (.pair (.int .i64) (.pair (.sl (.int .u8)) .unit))) .unit)) (.pair (.sl (.int .i64)) (.pair (.sl (.int .i64)) .unit))))) fun s d => .one ⟨[Q_sl_ContainsFunc_int64__i_DraftFault_1 s d], [⟨.bool, .sh, F_sl_ContainsFunc_int64__i_DraftFault_1 s d⟩], []⟩, [], false, 0⟩
theorem ok_sl_ContainsFunc_int64__i_DraftFault_1 : ConOk pg 150 con_sl_ContainsFunc_int64__i_DraftFault_1 := ConOk.g2 (Enters.of (by kernel_rfl)) ct_sl_ContainsFunc_int64__i_DraftFault_1
end Go.Vee
