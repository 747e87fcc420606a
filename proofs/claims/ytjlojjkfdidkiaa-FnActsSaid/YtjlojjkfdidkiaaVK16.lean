/-
  Contracts of functions of the program: what each returns for all arguments that its precondition lets in.
-/
import Derived.Test.YtjlojjkfdidkiaaVK15
set_option linter.unusedSimpArgs false
set_option linter.unusedVariables false
set_option maxRecDepth 100000
set_option maxHeartbeats 4000000
set_option synthInstance.maxHeartbeats 4000000
set_option synthInstance.maxSize 20000000
namespace Go.Vee
open Go
def lwAtV (c : List Int) (i n : Int) : Int :=
  if n ≤ 1 then 0 else if c.length = 0 then (i * 7) % n
  else if n > 200 then ((c.getD (i % c.length).toNat 0 + i / c.length * 3) * 251 + c.getD ((i + 1) % c.length).toNat 0) % n
  else (c.getD (i % c.length).toNat 0 + i / c.length * 3) % n
theorem lwAtV_range (c : List Int) (i n : Int) (h : 1 ≤ n) : 0 ≤ lwAtV c i n ∧ lwAtV c i n < n := by
  unfold lwAtV
  repeat' split
  all_goals first | omega | (constructor; (apply Int.emod_nonneg; omega); (apply Int.emod_lt_of_pos; omega))
theorem div_le (a b : Int) (ha : 0 ≤ a) (hb : 0 < b) : 0 ≤ a / b ∧ a / b ≤ a := ⟨Int.ediv_nonneg ha (by omega), Int.ediv_le_self b ha⟩
theorem mod_in (a b : Int) (hb : 0 < b) : 0 ≤ a % b ∧ a % b < b := ⟨Int.emod_nonneg _ (by omega), Int.emod_lt_of_pos _ hb⟩
theorem pick_2 (c : List Int) (a x0 x1 : Int) : pickV c a [x0, x1] = x0 ∨ pickV c a [x0, x1] = x1 := by
  have := pickV_mem c a [x0, x1] (by simp)
  simpa using this
theorem pick_3 (c : List Int) (a x0 x1 x2 : Int) : pickV c a [x0, x1, x2] = x0 ∨ pickV c a [x0, x1, x2] = x1 ∨ pickV c a [x0, x1, x2] = x2 := by
  have := pickV_mem c a [x0, x1, x2] (by simp)
  simpa using this
theorem pick_5 (c : List Int) (a x0 x1 x2 x3 x4 : Int) : pickV c a [x0, x1, x2, x3, x4] = x0 ∨ pickV c a [x0, x1, x2, x3, x4] = x1 ∨ pickV c a [x0, x1, x2, x3, x4] = x2 ∨ pickV c a [x0, x1, x2, x3, x4] = x3 ∨ pickV c a [x0, x1, x2, x3, x4] = x4 := by
  have := pickV_mem c a [x0, x1, x2, x3, x4] (by simp)
  simpa using this

def F_s_l1Source (code : List (Int)) : (List (Int)) × (Int) × Unit := (code, 0, PUnit.unit)
def Q_s_l1Source (code : List (Int)) : Prop := True
def O_s_l1Source : Opt := ⟨fun i => false, fun i => [], fun i => .done, fun i => none, fun i => false, fun i => [], fun i => false, fun i => none, fun i => none⟩
def τ_s_l1Source : Env := Env.of [(2, (.int .i64)), (34, (.sl (.int .u8))), (145, (.pair (.sl (.int .u8)) (.pair (.int .i64) .unit)))] [(103, (.pair (.sl (.int .u8)) (.pair (.int .i64) .unit)))] []

theorem ct_s_l1Source (code : List (Int)) : Ct pg 87 [.dat (.sl (.int .u8)) code] ⟨[Q_s_l1Source code], [⟨(.pair (.sl (.int .u8)) (.pair (.int .i64) .unit)), (.np (.pr .sh (.pr .sh .sh))), F_s_l1Source code⟩], []⟩ := by
  refine ct_claim (O := O_s_l1Source) (τ := τ_s_l1Source) (EnvOk.of (by kernel_rfl) (by kernel_rfl)) (GOk.of (.nil : AllOk pg [])) mixed (Enters.of (by kernel_rfl)) (fn := Go.Proofs.Try.f87) (by kernel_rfl) rfl (by kernel_rfl) ?_
  intro hp hw
  have hq : Q_s_l1Source code := hp _ (List.mem_singleton.2 rfl)
  clear hp
  change claim Lg.std Alg.std τ_s_l1Source (Gam.of []) O_s_l1Source Go.Proofs.Try.f87 [.dat (.sl (.int .u8)) code] ⟨[Q_s_l1Source code], [⟨(.pair (.sl (.int .u8)) (.pair (.int .i64) .unit)), (.np (.pr .sh (.pr .sh .sh))), F_s_l1Source code⟩], []⟩
  generalize hR0 : F_s_l1Source code = R0
  generalize Q_s_l1Source code = Q0
  generalize hL : Lg.std = L
  generalize hA : Alg.std = A
  cbv
  subst hL hA
  try dsimp only [Ty.den]
  subst hR0
  simp only [Q_s_l1Source] at hq
  simp only [Lg.std, Alg.std, List.drop_zero, List.take_length, F_s_l1Source]
  all_goals grind
def con_s_l1Source : Con := ⟨true, g1 (pD (.sl (.int .u8))) fun code => .one ⟨[Q_s_l1Source code], [⟨(.pair (.sl (.int .u8)) (.pair (.int .i64) .unit)), (.np (.pr .sh (.pr .sh .sh))), F_s_l1Source code⟩], []⟩, [], false, 0⟩
theorem ok_s_l1Source : ConOk pg 87 con_s_l1Source := ConOk.g1 (Enters.of (by kernel_rfl)) ct_s_l1Source

def F_s_l1Next (s : (List (Int)) × (Int) × Unit) (n : Int) : Int := nextV s.1 s.2.1 n
def B_s_l1Next_s (s : (List (Int)) × (Int) × Unit) (n : Int) : (List (Int)) × (Int) × Unit := (s.1, s.2.1 + 1, PUnit.unit)
def Q_s_l1Next (s : (List (Int)) × (Int) × Unit) (n : Int) : Prop := okSrc 1000000000000 s
def O_s_l1Next : Opt := ⟨fun i => (match decide (i = 10) with | true => true | false => (match decide (i = 8) with | true => true | false => false)), fun i => [], fun i => .done, fun i => none, fun i => false, fun i => [], fun i => false, fun i => none, fun i => none⟩
def τ_s_l1Next : Env := Env.of [(2, (.int .i64)), (3, (.int .i64)), (4, .bool), (5, (.int .u8)), (34, (.sl (.int .u8))), (145, (.pair (.sl (.int .u8)) (.pair (.int .i64) .unit)))] [(103, (.pair (.sl (.int .u8)) (.pair (.int .i64) .unit)))] []

theorem ct_s_l1Next (s : (List (Int)) × (Int) × Unit) (n : Int) : Ct pg 76 [.mp (.pair (.sl (.int .u8)) (.pair (.int .i64) .unit)) (.pr .sh (.pr .sh .sh)) s, .dat (.int .i64) n] ⟨[Q_s_l1Next s n], [⟨(.int .i64), .sh, F_s_l1Next s n⟩], [.mp (.pair (.sl (.int .u8)) (.pair (.int .i64) .unit)) (.pr .sh (.pr .sh .sh)) (B_s_l1Next_s s n)]⟩ := by
  refine ct_claim (O := O_s_l1Next) (τ := τ_s_l1Next) (EnvOk.of (by kernel_rfl) (by kernel_rfl)) (GOk.of (.nil : AllOk pg [])) mixed (Enters.of (by kernel_rfl)) (fn := Go.Proofs.Try.f76) (by kernel_rfl) rfl (by kernel_rfl) ?_
  intro hp hw
  have hq : Q_s_l1Next s n := hp _ (List.mem_singleton.2 rfl)
  clear hp
  change claim Lg.std Alg.std τ_s_l1Next (Gam.of []) O_s_l1Next Go.Proofs.Try.f76 [.mp (.pair (.sl (.int .u8)) (.pair (.int .i64) .unit)) (.pr .sh (.pr .sh .sh)) s, .dat (.int .i64) n] ⟨[Q_s_l1Next s n], [⟨(.int .i64), .sh, F_s_l1Next s n⟩], [.mp (.pair (.sl (.int .u8)) (.pair (.int .i64) .unit)) (.pr .sh (.pr .sh .sh)) (B_s_l1Next_s s n)]⟩
  generalize hR0 : F_s_l1Next s n = R0
  generalize hB_s : B_s_l1Next_s s n = B_s
  generalize Q_s_l1Next s n = Q0
  generalize hL : Lg.std = L
  generalize hA : Alg.std = A
  cbv
  subst hL hA
  try dsimp only [Ty.den]
  obtain ⟨s_0, s_1, ⟨⟩⟩ := s
  simp only [Q_s_l1Next, okSrc] at hq
  have hb := u8s hw.1.1.2
  have hr := fun i (h : i < s_0.length) => getD_range hb 0 i h
  have hd := fun (h : 0 < (s_0.length : Int)) => div_le s_1 s_0.length (by omega) h
  have hm1 := fun (h : 0 < (s_0.length : Int)) => mod_in s_1 s_0.length h
  have hm2 := fun (h : 0 < (s_0.length : Int)) => mod_in (s_1 + 1) s_0.length h
  have hr1 := fun (h : 0 < (s_0.length : Int)) => hr (s_1 % s_0.length).toNat (by have := hm1 h; omega)
  have hr2 := fun (h : 0 < (s_0.length : Int)) => hr ((s_1 + 1) % s_0.length).toNat (by have := hm2 h; omega)
  have hs1 : s_1 + 1 - 1 = s_1 := by omega
  clear hr hb
  subst hR0 hB_s
  simp only [Lg.std, Alg.std, List.drop_zero, List.take_length, F_s_l1Next, B_s_l1Next_s, nextV, hs1] at *
  repeat' (first | intro _ | apply And.intro)
  all_goals first | omega | grind
def con_s_l1Next : Con := ⟨true, g2 (pW (.pair (.sl (.int .u8)) (.pair (.int .i64) .unit)) (.pr .sh (.pr .sh .sh))) (pD (.int .i64)) fun s n => .one ⟨[Q_s_l1Next s n], [⟨(.int .i64), .sh, F_s_l1Next s n⟩], [.mp (.pair (.sl (.int .u8)) (.pair (.int .i64) .unit)) (.pr .sh (.pr .sh .sh)) (B_s_l1Next_s s n)]⟩, [(.pr .sh (.pr .sh .sh))], false, 0⟩
theorem ok_s_l1Next : ConOk pg 76 con_s_l1Next := ConOk.g2 (Enters.of (by kernel_rfl)) ct_s_l1Next

def F_s_l1Chance (s : (List (Int)) × (Int) × Unit) (n : Int) : Bool := decide (nextV s.1 s.2.1 n = 0)
def B_s_l1Chance_s (s : (List (Int)) × (Int) × Unit) (n : Int) : (List (Int)) × (Int) × Unit := (s.1, s.2.1 + 1, PUnit.unit)
def Q_s_l1Chance (s : (List (Int)) × (Int) × Unit) (n : Int) : Prop := okSrc 1000000000000 s
def O_s_l1Chance : Opt := ⟨fun i => false, fun i => [], fun i => .done, fun i => none, fun i => false, fun i => [], fun i => false, fun i => none, fun i => none⟩
def τ_s_l1Chance : Env := Env.of [(2, (.int .i64)), (4, .bool)] [(103, (.pair (.sl (.int .u8)) (.pair (.int .i64) .unit)))] []

theorem ct_s_l1Chance (s : (List (Int)) × (Int) × Unit) (n : Int) : Ct pg 89 [.mp (.pair (.sl (.int .u8)) (.pair (.int .i64) .unit)) (.pr .sh (.pr .sh .sh)) s, .dat (.int .i64) n] ⟨[Q_s_l1Chance s n], [⟨.bool, .sh, F_s_l1Chance s n⟩], [.mp (.pair (.sl (.int .u8)) (.pair (.int .i64) .unit)) (.pr .sh (.pr .sh .sh)) (B_s_l1Chance_s s n)]⟩ := by
  refine ct_claim (O := O_s_l1Chance) (τ := τ_s_l1Chance) (EnvOk.of (by kernel_rfl) (by kernel_rfl)) (GOk.of (.cons ok_s_l1Next .nil : AllOk pg [(76, con_s_l1Next)])) mixed (Enters.of (by kernel_rfl)) (fn := Go.Proofs.Try.f89) (by kernel_rfl) rfl (by kernel_rfl) ?_
  intro hp hw
  have hq : Q_s_l1Chance s n := hp _ (List.mem_singleton.2 rfl)
  clear hp
  change claim Lg.std Alg.std τ_s_l1Chance (Gam.of [(76, con_s_l1Next)]) O_s_l1Chance Go.Proofs.Try.f89 [.mp (.pair (.sl (.int .u8)) (.pair (.int .i64) .unit)) (.pr .sh (.pr .sh .sh)) s, .dat (.int .i64) n] ⟨[Q_s_l1Chance s n], [⟨.bool, .sh, F_s_l1Chance s n⟩], [.mp (.pair (.sl (.int .u8)) (.pair (.int .i64) .unit)) (.pr .sh (.pr .sh .sh)) (B_s_l1Chance_s s n)]⟩
  delta con_s_l1Next
  generalize hg_F_s_l1Next : F_s_l1Next = g_F_s_l1Next
  generalize hg_B_s_l1Next_s : B_s_l1Next_s = g_B_s_l1Next_s
  generalize hg_Q_s_l1Next : Q_s_l1Next = g_Q_s_l1Next
  generalize hR0 : F_s_l1Chance s n = R0
  generalize hB_s : B_s_l1Chance_s s n = B_s
  generalize Q_s_l1Chance s n = Q0
  generalize hL : Lg.std = L
  generalize hA : Alg.std = A
  cbv
  subst hL hA
  try dsimp only [Ty.den]
  obtain ⟨s_0, s_1, ⟨⟩⟩ := s
  subst hR0 hB_s hg_F_s_l1Next hg_B_s_l1Next_s hg_Q_s_l1Next
  simp only [Q_s_l1Chance] at hq
  simp only [Lg.std, Alg.std, List.drop_zero, List.take_length, F_s_l1Next, B_s_l1Next_s, Q_s_l1Next, F_s_l1Chance, B_s_l1Chance_s]
  all_goals grind
def con_s_l1Chance : Con := ⟨true, g2 (pW (.pair (.sl (.int .u8)) (.pair (.int .i64) .unit)) (.pr .sh (.pr .sh .sh))) (pD (.int .i64)) fun s n => .one ⟨[Q_s_l1Chance s n], [⟨.bool, .sh, F_s_l1Chance s n⟩], [.mp (.pair (.sl (.int .u8)) (.pair (.int .i64) .unit)) (.pr .sh (.pr .sh .sh)) (B_s_l1Chance_s s n)]⟩, [(.pr .sh (.pr .sh .sh))], false, 0⟩
theorem ok_s_l1Chance : ConOk pg 89 con_s_l1Chance := ConOk.g2 (Enters.of (by kernel_rfl)) ct_s_l1Chance

def F_s_l1Pick (s : (List (Int)) × (Int) × Unit) (list : List (Int)) : Int := pickV s.1 s.2.1 list
def B_s_l1Pick_s (s : (List (Int)) × (Int) × Unit) (list : List (Int)) : (List (Int)) × (Int) × Unit := (s.1, s.2.1 + 1, PUnit.unit)
def Q_s_l1Pick (s : (List (Int)) × (Int) × Unit) (list : List (Int)) : Prop := okSrc 1000000000000 s ∧ 0 < list.length
def O_s_l1Pick : Opt := ⟨fun i => false, fun i => [], fun i => .done, fun i => none, fun i => false, fun i => [], fun i => false, fun i => none, fun i => none⟩
def τ_s_l1Pick : Env := Env.of [(2, (.int .i64)), (3, (.int .i64)), (4, .bool), (75, (.sl (.int .i64)))] [(103, (.pair (.sl (.int .u8)) (.pair (.int .i64) .unit)))] []

theorem ct_s_l1Pick (s : (List (Int)) × (Int) × Unit) (list : List (Int)) : Ct pg 74 [.mp (.pair (.sl (.int .u8)) (.pair (.int .i64) .unit)) (.pr .sh (.pr .sh .sh)) s, .dat (.sl (.int .i64)) list] ⟨[Q_s_l1Pick s list], [⟨(.int .i64), .sh, F_s_l1Pick s list⟩], [.mp (.pair (.sl (.int .u8)) (.pair (.int .i64) .unit)) (.pr .sh (.pr .sh .sh)) (B_s_l1Pick_s s list)]⟩ := by
  refine ct_claim (O := O_s_l1Pick) (τ := τ_s_l1Pick) (EnvOk.of (by kernel_rfl) (by kernel_rfl)) (GOk.of (.cons ok_s_l1Next .nil : AllOk pg [(76, con_s_l1Next)])) mixed (Enters.of (by kernel_rfl)) (fn := Go.Proofs.Try.f74) (by kernel_rfl) rfl (by kernel_rfl) ?_
  intro hp hw
  have hq : Q_s_l1Pick s list := hp _ (List.mem_singleton.2 rfl)
  clear hp
  change claim Lg.std Alg.std τ_s_l1Pick (Gam.of [(76, con_s_l1Next)]) O_s_l1Pick Go.Proofs.Try.f74 [.mp (.pair (.sl (.int .u8)) (.pair (.int .i64) .unit)) (.pr .sh (.pr .sh .sh)) s, .dat (.sl (.int .i64)) list] ⟨[Q_s_l1Pick s list], [⟨(.int .i64), .sh, F_s_l1Pick s list⟩], [.mp (.pair (.sl (.int .u8)) (.pair (.int .i64) .unit)) (.pr .sh (.pr .sh .sh)) (B_s_l1Pick_s s list)]⟩
  delta con_s_l1Next
  generalize hg_F_s_l1Next : F_s_l1Next = g_F_s_l1Next
  generalize hg_B_s_l1Next_s : B_s_l1Next_s = g_B_s_l1Next_s
  generalize hg_Q_s_l1Next : Q_s_l1Next = g_Q_s_l1Next
  generalize hR0 : F_s_l1Pick s list = R0
  generalize hB_s : B_s_l1Pick_s s list = B_s
  generalize Q_s_l1Pick s list = Q0
  generalize hL : Lg.std = L
  generalize hA : Alg.std = A
  cbv
  subst hL hA
  try dsimp only [Ty.den]
  obtain ⟨s_0, s_1, ⟨⟩⟩ := s
  have hn := nextV_range s_0 s_1 list.length
  subst hR0 hB_s hg_F_s_l1Next hg_B_s_l1Next_s hg_Q_s_l1Next
  simp only [Q_s_l1Pick] at hq
  simp only [Lg.std, Alg.std, List.drop_zero, List.take_length, F_s_l1Next, B_s_l1Next_s, Q_s_l1Next, F_s_l1Pick, B_s_l1Pick_s, pickV]
  all_goals grind
def con_s_l1Pick : Con := ⟨true, g2 (pW (.pair (.sl (.int .u8)) (.pair (.int .i64) .unit)) (.pr .sh (.pr .sh .sh))) (pD (.sl (.int .i64))) fun s list => .one ⟨[Q_s_l1Pick s list], [⟨(.int .i64), .sh, F_s_l1Pick s list⟩], [.mp (.pair (.sl (.int .u8)) (.pair (.int .i64) .unit)) (.pr .sh (.pr .sh .sh)) (B_s_l1Pick_s s list)]⟩, [(.pr .sh (.pr .sh .sh))], false, 0⟩
theorem ok_s_l1Pick : ConOk pg 74 con_s_l1Pick := ConOk.g2 (Enters.of (by kernel_rfl)) ct_s_l1Pick

def F_s_l1Some (s : (List (Int)) × (Int) × Unit) (n : Int) : List (Int) := someV s.1 s.2.1 n
def B_s_l1Some_s (s : (List (Int)) × (Int) × Unit) (n : Int) : (List (Int)) × (Int) × Unit := (s.1, s.2.1 + n.toNat, PUnit.unit)
def Q_s_l1Some (s : (List (Int)) × (Int) × Unit) (n : Int) : Prop := okSrc 100000000000 s ∧ n ≤ 1000000
def O_s_l1Some : Opt := ⟨fun i => false, fun i => (match decide (i = 2) with | true => [true, true, false, false, false, true, false, false, false, false, false, false, false, false, false, false, false, false] | false => []), fun i => .done, fun i => none, fun i => (match decide (i = 2) with | true => true | false => false), fun i => [], fun i => false, fun i => none, fun i => none⟩
def τ_s_l1Some : Env := Env.of [(2, (.int .i64)), (4, .bool), (5, (.int .u8)), (34, (.sl (.int .u8)))] [(103, (.pair (.sl (.int .u8)) (.pair (.int .i64) .unit)))] []

theorem ct_s_l1Some (s : (List (Int)) × (Int) × Unit) (n : Int) : Ct pg 73 [.mp (.pair (.sl (.int .u8)) (.pair (.int .i64) .unit)) (.pr .sh (.pr .sh .sh)) s, .dat (.int .i64) n] ⟨[Q_s_l1Some s n], [⟨(.sl (.int .u8)), (.ow .sh), F_s_l1Some s n⟩], [.mp (.pair (.sl (.int .u8)) (.pair (.int .i64) .unit)) (.pr .sh (.pr .sh .sh)) (B_s_l1Some_s s n)]⟩ := by
  refine ct_claim (O := O_s_l1Some) (τ := τ_s_l1Some) (EnvOk.of (by kernel_rfl) (by kernel_rfl)) (GOk.of (.cons ok_s_l1Next .nil : AllOk pg [(76, con_s_l1Next)])) mixed (Enters.of (by kernel_rfl)) (fn := Go.Proofs.Try.f73) (by kernel_rfl) rfl (by kernel_rfl) ?_
  intro hp hw
  have hq : Q_s_l1Some s n := hp _ (List.mem_singleton.2 rfl)
  clear hp
  change claim Lg.std Alg.std τ_s_l1Some (Gam.of [(76, con_s_l1Next)]) O_s_l1Some Go.Proofs.Try.f73 [.mp (.pair (.sl (.int .u8)) (.pair (.int .i64) .unit)) (.pr .sh (.pr .sh .sh)) s, .dat (.int .i64) n] ⟨[Q_s_l1Some s n], [⟨(.sl (.int .u8)), (.ow .sh), F_s_l1Some s n⟩], [.mp (.pair (.sl (.int .u8)) (.pair (.int .i64) .unit)) (.pr .sh (.pr .sh .sh)) (B_s_l1Some_s s n)]⟩
  delta con_s_l1Next
  generalize hg_F_s_l1Next : F_s_l1Next = g_F_s_l1Next
  generalize hg_B_s_l1Next_s : B_s_l1Next_s = g_B_s_l1Next_s
  generalize hg_Q_s_l1Next : Q_s_l1Next = g_Q_s_l1Next
  generalize hR0 : F_s_l1Some s n = R0
  generalize hB_s : B_s_l1Some_s s n = B_s
  generalize Q_s_l1Some s n = Q0
  generalize hL : Lg.std = L
  generalize hA : Alg.std = A
  cbv
  subst hL hA
  try dsimp only [Ty.den]
  obtain ⟨s_0, s_1, ⟨⟩⟩ := s
  simp only [Q_s_l1Some, okSrc] at hq
  repeat' (first | intro _ | apply And.intro)
  all_goals first | trivial | ((fail_if_success (refine lp_v (V := Unit) (fun _ => ⟨[], []⟩) (fun _ => True) (fun _ => 0) () ?_ ?_ ?_)); subst hR0 hB_s hg_F_s_l1Next hg_B_s_l1Next_s hg_Q_s_l1Next; (try simp only [Alg.std, F_s_l1Next, B_s_l1Next_s, Q_s_l1Next, F_s_l1Some, B_s_l1Some_s] at *); all_goals grind) | skip
  refine lp_v (V := (Nat) × (Int) × (Nat) × (List Int) × (List Int) × (Int)) (fun ((k, m, N, xs, C, a) : (Nat) × (Int) × (Nat) × (List Int) × (List Int) × (Int)) => ⟨[.bptr 0 0, .dat (.int .i64) m, Jk, Jk, Jk, .ref (.int .u8) 1 0 [] 0 N, Jk, Jk, Jk, Jk, Jk, Jk, Jk, Jk, Jk, Jk, Jk, Jk], [some (.box [.dat (.sl (.int .u8)) C, .dat (.int .i64) a]), some (.row 0 (.int .u8) .sh xs), some (.gh [.bptr 0 0])]⟩) (fun ((k, m, N, xs, C, a) : (Nat) × (Int) × (Nat) × (List Int) × (List Int) × (Int)) => N = xs.length ∧ C = s_0 ∧ a = s_1 + k ∧ m = n - k ∧ (k ≤ n.toNat) ∧ xs = someV s_0 s_1 (k : Nat)) (fun ((k, m, N, xs, C, a) : (Nat) × (Int) × (Nat) × (List Int) × (List Int) × (Int)) => n.toNat - k) (0, _, _, _, _, _) rfl ?_ ?_
  · subst hR0 hB_s hg_F_s_l1Next hg_B_s_l1Next_s hg_Q_s_l1Next
    (try simp only [Alg.std, F_s_l1Next, B_s_l1Next_s, Q_s_l1Next, F_s_l1Some, B_s_l1Some_s] at *)
    simp [someV]
  rintro ⟨k, m, N, xs, C, a⟩ hf I hI
  replace hf : N = xs.length ∧ C = s_0 ∧ a = s_1 + k ∧ m = n - k ∧ (k ≤ n.toNat) ∧ xs = someV s_0 s_1 (k : Nat) := hf
  generalize hL : Lg.std = L
  generalize hA : Alg.std = A
  cbv
  subst hL hA
  try dsimp only [Ty.den]
  subst hI
  obtain ⟨h1, h2, h3, h4, h5, h6⟩ := hf
  have hsn := someV_snoc s_0 s_1 k
  have hnr := nextV_range s_0 (s_1 + k) 256
  have hln := someV_len s_0 s_1 (k : Nat)
  have hkk : (k : Int) = n → someV s_0 s_1 (k : Nat) = someV s_0 s_1 n := fun h => by rw [h]
  have hkz : n ≤ 0 → k = 0 → someV s_0 s_1 (k : Nat) = someV s_0 s_1 n := fun h h0 => by simp [someV, h0]; omega
  repeat' (first | intro _ | apply And.intro)
  all_goals first | (with_reducible exact True.intro) | ((fail_if_success (refine lp_v (V := Unit) (fun _ => ⟨[], []⟩) (fun _ => True) (fun _ => 0) () ?_ ?_ ?_)); (try simp only [Lg.std, Alg.std, List.drop_zero, List.take_length] at *); (try refine ⟨(k + 1, _, _, _, _, _), rfl, ?_, ?_⟩); (all_goals (subst hR0 hB_s hg_F_s_l1Next hg_B_s_l1Next_s hg_Q_s_l1Next; (try simp only [Lg.std, Alg.std, List.drop_zero, List.take_length, F_s_l1Next, B_s_l1Next_s, Q_s_l1Next, F_s_l1Some, B_s_l1Some_s] at *); first | done | ((try simp only [okSrc, wrap8] at *); grind [wrap8])))) | skip
def con_s_l1Some : Con := ⟨true, g2 (pW (.pair (.sl (.int .u8)) (.pair (.int .i64) .unit)) (.pr .sh (.pr .sh .sh))) (pD (.int .i64)) fun s n => .one ⟨[Q_s_l1Some s n], [⟨(.sl (.int .u8)), (.ow .sh), F_s_l1Some s n⟩], [.mp (.pair (.sl (.int .u8)) (.pair (.int .i64) .unit)) (.pr .sh (.pr .sh .sh)) (B_s_l1Some_s s n)]⟩, [(.pr .sh (.pr .sh .sh))], false, 0⟩
theorem ok_s_l1Some : ConOk pg 73 con_s_l1Some := ConOk.g2 (Enters.of (by kernel_rfl)) ct_s_l1Some

def F_w_lwAt (more : List (Int)) (i : Int) (n : Int) : Int := lwAtV more i n
def Q_w_lwAt (more : List (Int)) (i : Int) (n : Int) : Prop := 0 ≤ i ∧ i ≤ 1000000
def O_w_lwAt : Opt := ⟨fun i => (match decide (i = 6) with | true => true | false => false), fun i => [], fun i => .done, fun i => none, fun i => false, fun i => [], fun i => false, fun i => none, fun i => none⟩
def τ_w_lwAt : Env := Env.of [(2, (.int .i64)), (3, (.int .i64)), (4, .bool), (5, (.int .u8)), (34, (.sl (.int .u8)))] [] []

theorem ct_w_lwAt (more : List (Int)) (i : Int) (n : Int) : Ct pg 37 [.dat (.sl (.int .u8)) more, .dat (.int .i64) i, .dat (.int .i64) n] ⟨[Q_w_lwAt more i n], [⟨(.int .i64), .sh, F_w_lwAt more i n⟩], []⟩ := by
  refine ct_claim (O := O_w_lwAt) (τ := τ_w_lwAt) (EnvOk.of (by kernel_rfl) (by kernel_rfl)) (GOk.of (.nil : AllOk pg [])) mixed (Enters.of (by kernel_rfl)) (fn := Go.Proofs.Try.f37) (by kernel_rfl) rfl (by kernel_rfl) ?_
  intro hp hw
  have hq : Q_w_lwAt more i n := hp _ (List.mem_singleton.2 rfl)
  clear hp
  change claim Lg.std Alg.std τ_w_lwAt (Gam.of []) O_w_lwAt Go.Proofs.Try.f37 [.dat (.sl (.int .u8)) more, .dat (.int .i64) i, .dat (.int .i64) n] ⟨[Q_w_lwAt more i n], [⟨(.int .i64), .sh, F_w_lwAt more i n⟩], []⟩
  generalize hR0 : F_w_lwAt more i n = R0
  generalize Q_w_lwAt more i n = Q0
  generalize hL : Lg.std = L
  generalize hA : Alg.std = A
  cbv
  subst hL hA
  try dsimp only [Ty.den]
  simp only [Q_w_lwAt] at hq
  have hb := u8s hw.1.2
  have hr := fun i (h : i < more.length) => getD_range hb 0 i h
  have hl := hw.1.1
  have hd := fun (h : 0 < (more.length : Int)) => div_le i more.length (by omega) h
  have hm1 := fun (h : 0 < (more.length : Int)) => mod_in i more.length h
  have hm2 := fun (h : 0 < (more.length : Int)) => mod_in (i + 1) more.length h
  have hr1 := fun (h : 0 < (more.length : Int)) => hr (i % more.length).toNat (by have := hm1 h; omega)
  have hr2 := fun (h : 0 < (more.length : Int)) => hr ((i + 1) % more.length).toNat (by have := hm2 h; omega)
  clear hr hb
  subst hR0
  simp only [Lg.std, Alg.std, List.drop_zero, List.take_length, F_w_lwAt, lwAtV] at *
  repeat' (first | intro _ | apply And.intro)
  all_goals first | omega | grind
def con_w_lwAt : Con := ⟨true, g3 (pD (.sl (.int .u8))) (pD (.int .i64)) (pD (.int .i64)) fun more i n => .one ⟨[Q_w_lwAt more i n], [⟨(.int .i64), .sh, F_w_lwAt more i n⟩], []⟩, [], false, 0⟩
theorem ok_w_lwAt : ConOk pg 37 con_w_lwAt := ConOk.g3 (Enters.of (by kernel_rfl)) ct_w_lwAt

def F_w_lwBig (code : List (Int)) : Bool := decide (code.length > 1048576)
def Q_w_lwBig (code : List (Int)) : Prop := True
def O_w_lwBig : Opt := ⟨fun i => false, fun i => [], fun i => .done, fun i => none, fun i => false, fun i => [], fun i => false, fun i => none, fun i => none⟩
def τ_w_lwBig : Env := Env.of [(2, (.int .i64)), (3, (.int .i64)), (4, .bool), (34, (.sl (.int .u8)))] [] []

theorem ct_w_lwBig (code : List (Int)) : Ct pg 28 [.dat (.sl (.int .u8)) code] ⟨[Q_w_lwBig code], [⟨.bool, .sh, F_w_lwBig code⟩], []⟩ := by
  refine ct_claim (O := O_w_lwBig) (τ := τ_w_lwBig) (EnvOk.of (by kernel_rfl) (by kernel_rfl)) (GOk.of (.nil : AllOk pg [])) mixed (Enters.of (by kernel_rfl)) (fn := Go.Proofs.Try.f28) (by kernel_rfl) rfl (by kernel_rfl) ?_
  intro hp hw
  have hq : Q_w_lwBig code := hp _ (List.mem_singleton.2 rfl)
  clear hp
  change claim Lg.std Alg.std τ_w_lwBig (Gam.of []) O_w_lwBig Go.Proofs.Try.f28 [.dat (.sl (.int .u8)) code] ⟨[Q_w_lwBig code], [⟨.bool, .sh, F_w_lwBig code⟩], []⟩
  generalize hR0 : F_w_lwBig code = R0
  generalize Q_w_lwBig code = Q0
  generalize hL : Lg.std = L
  generalize hA : Alg.std = A
  cbv
  subst hL hA
  try dsimp only [Ty.den]
  subst hR0
  simp only [Q_w_lwBig] at hq
  simp only [Lg.std, Alg.std, List.drop_zero, List.take_length, F_w_lwBig]
  all_goals grind
def con_w_lwBig : Con := ⟨true, g1 (pD (.sl (.int .u8))) fun code => .one ⟨[Q_w_lwBig code], [⟨.bool, .sh, F_w_lwBig code⟩], []⟩, [], false, 0⟩
theorem ok_w_lwBig : ConOk pg 28 con_w_lwBig := ConOk.g1 (Enters.of (by kernel_rfl)) ct_w_lwBig
end Go.Vee
