/-
  Contracts of functions of the program: what each returns for all arguments that its precondition lets in.
-/
import Derived.Test.YtjlojjkfdidkiaaVK9
set_option linter.unusedSimpArgs false
set_option linter.unusedVariables false
set_option maxRecDepth 100000
set_option maxHeartbeats 4000000
set_option synthInstance.maxHeartbeats 4000000
set_option synthInstance.maxSize 20000000
namespace Go.Vee
open Go
def lwAtV (c : List Int) (i n : Int) : Int :=
  if n ≤ 1 then 0 else if c.length = 0 then (i * 7) % n
  else if n > 200 then ((c.getD (i % c.length).toNat 0 + i / c.length * 3) * 251 + c.getD ((i + 1) % c.length).toNat 0) % n
  else (c.getD (i % c.length).toNat 0 + i / c.length * 3) % n
theorem lwAtV_range (c : List Int) (i n : Int) (h : 1 ≤ n) : 0 ≤ lwAtV c i n ∧ lwAtV c i n < n := by
  unfold lwAtV
  repeat' split
  all_goals first | omega | (constructor; (apply Int.emod_nonneg; omega); (apply Int.emod_lt_of_pos; omega))
theorem div_le (a b : Int) (ha : 0 ≤ a) (hb : 0 < b) : 0 ≤ a / b ∧ a / b ≤ a := ⟨Int.ediv_nonneg ha (by omega), Int.ediv_le_self b ha⟩
theorem mod_in (a b : Int) (hb : 0 < b) : 0 ≤ a % b ∧ a % b < b := ⟨Int.emod_nonneg _ (by omega), Int.emod_lt_of_pos _ hb⟩
theorem pick_1 (c : List Int) (a x0 : Int) : pickV c a [x0] = x0 := by
  have := pickV_mem c a [x0] (by simp)
  simpa using this
theorem pick_2 (c : List Int) (a x0 x1 : Int) : pickV c a [x0, x1] = x0 ∨ pickV c a [x0, x1] = x1 := by
  have := pickV_mem c a [x0, x1] (by simp)
  simpa using this
theorem pick_3 (c : List Int) (a x0 x1 x2 : Int) : pickV c a [x0, x1, x2] = x0 ∨ pickV c a [x0, x1, x2] = x1 ∨ pickV c a [x0, x1, x2] = x2 := by
  have := pickV_mem c a [x0, x1, x2] (by simp)
  simpa using this
theorem pick_4 (c : List Int) (a x0 x1 x2 x3 : Int) : pickV c a [x0, x1, x2, x3] = x0 ∨ pickV c a [x0, x1, x2, x3] = x1 ∨ pickV c a [x0, x1, x2, x3] = x2 ∨ pickV c a [x0, x1, x2, x3] = x3 := by
  have := pickV_mem c a [x0, x1, x2, x3] (by simp)
  simpa using this
theorem pick_5 (c : List Int) (a x0 x1 x2 x3 x4 : Int) : pickV c a [x0, x1, x2, x3, x4] = x0 ∨ pickV c a [x0, x1, x2, x3, x4] = x1 ∨ pickV c a [x0, x1, x2, x3, x4] = x2 ∨ pickV c a [x0, x1, x2, x3, x4] = x3 ∨ pickV c a [x0, x1, x2, x3, x4] = x4 := by
  have := pickV_mem c a [x0, x1, x2, x3, x4] (by simp)
  simpa using this
theorem pick_6 (c : List Int) (a x0 x1 x2 x3 x4 x5 : Int) : pickV c a [x0, x1, x2, x3, x4, x5] = x0 ∨ pickV c a [x0, x1, x2, x3, x4, x5] = x1 ∨ pickV c a [x0, x1, x2, x3, x4, x5] = x2 ∨ pickV c a [x0, x1, x2, x3, x4, x5] = x3 ∨ pickV c a [x0, x1, x2, x3, x4, x5] = x4 ∨ pickV c a [x0, x1, x2, x3, x4, x5] = x5 := by
  have := pickV_mem c a [x0, x1, x2, x3, x4, x5] (by simp)
  simpa using this
theorem pick_7 (c : List Int) (a x0 x1 x2 x3 x4 x5 x6 : Int) : pickV c a [x0, x1, x2, x3, x4, x5, x6] = x0 ∨ pickV c a [x0, x1, x2, x3, x4, x5, x6] = x1 ∨ pickV c a [x0, x1, x2, x3, x4, x5, x6] = x2 ∨ pickV c a [x0, x1, x2, x3, x4, x5, x6] = x3 ∨ pickV c a [x0, x1, x2, x3, x4, x5, x6] = x4 ∨ pickV c a [x0, x1, x2, x3, x4, x5, x6] = x5 ∨ pickV c a [x0, x1, x2, x3, x4, x5, x6] = x6 := by
  have := pickV_mem c a [x0, x1, x2, x3, x4, x5, x6] (by simp)
  simpa using this
theorem pick_8 (c : List Int) (a x0 x1 x2 x3 x4 x5 x6 x7 : Int) : pickV c a [x0, x1, x2, x3, x4, x5, x6, x7] = x0 ∨ pickV c a [x0, x1, x2, x3, x4, x5, x6, x7] = x1 ∨ pickV c a [x0, x1, x2, x3, x4, x5, x6, x7] = x2 ∨ pickV c a [x0, x1, x2, x3, x4, x5, x6, x7] = x3 ∨ pickV c a [x0, x1, x2, x3, x4, x5, x6, x7] = x4 ∨ pickV c a [x0, x1, x2, x3, x4, x5, x6, x7] = x5 ∨ pickV c a [x0, x1, x2, x3, x4, x5, x6, x7] = x6 ∨ pickV c a [x0, x1, x2, x3, x4, x5, x6, x7] = x7 := by
  have := pickV_mem c a [x0, x1, x2, x3, x4, x5, x6, x7] (by simp)
  simpa using this
def okBy (l : List Int) : Prop := ∀ x ∈ l, 0 ≤ x ∧ x ≤ 255
theorem someV_ok (c : List Int) (a n : Int) : okBy (someV c a n) := someV_byte c a n
theorem okBy_mem (l : List Int) (x : Int) (h : okBy l) (hx : x ∈ l) : 0 ≤ x ∧ x ≤ 255 := h x hx
theorem okBy_nil : okBy [] := fun x hx => by simp at hx
theorem pairOf_len (n : Int) : (pairOf n).length = 2 := rfl
theorem okBy_set (l : List Int) (i : Nat) (v : Int) (h : okBy l) (hv : 0 ≤ v ∧ v ≤ 255) : okBy (l.set i v) := fun x hx => by
  rcases List.mem_or_eq_of_mem_set hx with hx | rfl
  · exact h x hx
  · exact hv
theorem okBy_app (a b : List Int) (ha : okBy a) (hb : okBy b) : okBy (a ++ b) := fun x hx => by
  rcases List.mem_append.1 hx with hx | hx
  · exact ha x hx
  · exact hb x hx
theorem okBy_take (a : List Int) (n : Nat) (ha : okBy a) : okBy (a.take n) := fun x hx => ha x (List.mem_of_mem_take hx)
theorem okBy_drop (a : List Int) (n : Nat) (ha : okBy a) : okBy (a.drop n) := fun x hx => ha x (List.mem_of_mem_drop hx)
theorem okBy_pair (n : Int) : okBy (pairOf n) := fun x hx => by
  simp only [pairOf, List.mem_cons, List.not_mem_nil, or_false] at hx
  rcases hx with rfl | rfl <;> omega
theorem okBy_page (p : PageT) (h : okBy p.2.2.1) : okBy (packPage p) := okBy_app _ _ (padded_byte p h) (okBy_pair _)
theorem bit_byte (x y : Int) : 0 ≤ bitStd .xor .u8 x y ∧ bitStd .xor .u8 x y ≤ 255 := by
  show 0 ≤ IntKind.wrap .u8 _ ∧ IntKind.wrap .u8 _ ≤ 255
  rw [wrap8]
  omega
theorem wrap_byte (n : Int) : 0 ≤ IntKind.wrap .u8 n ∧ IntKind.wrap .u8 n ≤ 255 := by rw [wrap8]; omega
theorem okBy_getD (l : List Int) (i : Nat) (h : okBy l) : 0 ≤ l.getD i 0 ∧ l.getD i 0 ≤ 255 := by
  by_cases hi : i < l.length
  · exact getD_range h 0 i hi
  · rw [List.getD_eq_getElem?_getD, List.getElem?_eq_none (by omega)]; simp
theorem pack_len (p : PageT) (h : pageFault p = 0) : (packPage p).length = 96 ∧ p.2.2.1.length ≤ 91 := ⟨packPage_length p (pageFault_len p h), pageFault_len p h⟩


def F_s_l1Source (code : List (Int)) : (List (Int)) × (Int) × Unit := (code, 0, PUnit.unit)
def Q_s_l1Source (code : List (Int)) : Prop := True
def O_s_l1Source : Opt := ⟨fun i => false, fun i => [], fun i => .done, fun i => none, fun i => false, fun i => [], fun i => false, fun i => none, fun i => none⟩
def τ_s_l1Source : Env := Env.of [(2, (.int .i64)), (34, (.sl (.int .u8))), (145, (.pair (.sl (.int .u8)) (.pair (.int .i64) .unit)))] [(103, (.pair (.sl (.int .u8)) (.pair (.int .i64) .unit)))] []

theorem ct_s_l1Source (code : List (Int)) : Ct pg 87 [.dat (.sl (.int .u8)) code] ⟨[Q_s_l1Source code], [⟨(.pair (.sl (.int .u8)) (.pair (.int .i64) .unit)), (.np (.pr .sh (.pr .sh .sh))), F_s_l1Source code⟩], []⟩ := by
  refine ct_claim (O := O_s_l1Source) (τ := τ_s_l1Source) (EnvOk.of (by kernel_rfl) (by kernel_rfl)) (GOk.of (.nil : AllOk pg [])) mixed (Enters.of (by kernel_rfl)) (fn := Go.Proofs.Try.f87) (by kernel_rfl) rfl (by kernel_rfl) ?_
  intro hp hw
  have hq : Q_s_l1Source code := hp _ (List.mem_singleton.2 rfl)
  clear hp
  change claim Lg.std Alg.std τ_s_l1Source (Gam.of []) O_s_l1Source Go.Proofs.Try.f87 [.dat (.sl (.int .u8)) code] ⟨[Q_s_l1Source code], [⟨(.pair (.sl (.int .u8)) (.pair (.int .i64) .unit)), (.np (.pr .sh (.pr .sh .sh))), F_s_l1Source code⟩], []⟩
  generalize hR0 : F_s_l1Source code = R0
  generalize Q_s_l1Source code = Q0
  generalize hL : Lg.std = L
  generalize hA : Alg.std = A
  cbv
  subst hL hA
  try dsimp only [Ty.den]
  subst hR0
  simp only [Q_s_l1Source] at hq
  simp only [Lg.std, Alg.std, List.drop_zero, List.take_length, F_s_l1Source]
  all_goals grind
def con_s_l1Source : Con := ⟨true, g1 (pD (.sl (.int .u8))) fun code => .one ⟨[Q_s_l1Source code], [⟨(.pair (.sl (.int .u8)) (.pair (.int .i64) .unit)), (.np (.pr .sh (.pr .sh .sh))), F_s_l1Source code⟩], []⟩, [], false, 0⟩
theorem ok_s_l1Source : ConOk pg 87 con_s_l1Source := ConOk.g1 (Enters.of (by kernel_rfl)) ct_s_l1Source

def F_s_l1Later (code : List (Int)) (n : Int) : (List (Int)) × (Int) × Unit := (code, 5 + 7 * n, PUnit.unit)
def Q_s_l1Later (code : List (Int)) (n : Int) : Prop := 0 ≤ n ∧ n ≤ 1000000
def O_s_l1Later : Opt := ⟨fun i => false, fun i => [], fun i => .done, fun i => none, fun i => false, fun i => [], fun i => false, fun i => none, fun i => none⟩
def τ_s_l1Later : Env := Env.of [(2, (.int .i64)), (4, .bool), (34, (.sl (.int .u8))), (145, (.pair (.sl (.int .u8)) (.pair (.int .i64) .unit)))] [(103, (.pair (.sl (.int .u8)) (.pair (.int .i64) .unit)))] []

theorem ct_s_l1Later (code : List (Int)) (n : Int) : Ct pg 71 [.dat (.sl (.int .u8)) code, .dat (.int .i64) n] ⟨[Q_s_l1Later code n], [⟨(.pair (.sl (.int .u8)) (.pair (.int .i64) .unit)), (.np (.pr .sh (.pr .sh .sh))), F_s_l1Later code n⟩], []⟩ := by
  refine ct_claim (O := O_s_l1Later) (τ := τ_s_l1Later) (EnvOk.of (by kernel_rfl) (by kernel_rfl)) (GOk.of (.nil : AllOk pg [])) mixed (Enters.of (by kernel_rfl)) (fn := Go.Proofs.Try.f71) (by kernel_rfl) rfl (by kernel_rfl) ?_
  intro hp hw
  have hq : Q_s_l1Later code n := hp _ (List.mem_singleton.2 rfl)
  clear hp
  change claim Lg.std Alg.std τ_s_l1Later (Gam.of []) O_s_l1Later Go.Proofs.Try.f71 [.dat (.sl (.int .u8)) code, .dat (.int .i64) n] ⟨[Q_s_l1Later code n], [⟨(.pair (.sl (.int .u8)) (.pair (.int .i64) .unit)), (.np (.pr .sh (.pr .sh .sh))), F_s_l1Later code n⟩], []⟩
  generalize hR0 : F_s_l1Later code n = R0
  generalize Q_s_l1Later code n = Q0
  generalize hL : Lg.std = L
  generalize hA : Alg.std = A
  cbv
  subst hL hA
  try dsimp only [Ty.den]
  subst hR0
  simp only [Q_s_l1Later] at hq
  simp only [Lg.std, Alg.std, List.drop_zero, List.take_length, F_s_l1Later]
  all_goals grind
def con_s_l1Later : Con := ⟨true, g2 (pD (.sl (.int .u8))) (pD (.int .i64)) fun code n => .one ⟨[Q_s_l1Later code n], [⟨(.pair (.sl (.int .u8)) (.pair (.int .i64) .unit)), (.np (.pr .sh (.pr .sh .sh))), F_s_l1Later code n⟩], []⟩, [], false, 0⟩
theorem ok_s_l1Later : ConOk pg 71 con_s_l1Later := ConOk.g2 (Enters.of (by kernel_rfl)) ct_s_l1Later

def F_s_l1Next (s : (List (Int)) × (Int) × Unit) (n : Int) : Int := nextV s.1 s.2.1 n
def B_s_l1Next_s (s : (List (Int)) × (Int) × Unit) (n : Int) : (List (Int)) × (Int) × Unit := (s.1, s.2.1 + 1, PUnit.unit)
def Q_s_l1Next (s : (List (Int)) × (Int) × Unit) (n : Int) : Prop := okSrc 1000000000000 s
def O_s_l1Next : Opt := ⟨fun i => (match decide (i = 10) with | true => true | false => (match decide (i = 8) with | true => true | false => false)), fun i => [], fun i => .done, fun i => none, fun i => false, fun i => [], fun i => false, fun i => none, fun i => none⟩
def τ_s_l1Next : Env := Env.of [(2, (.int .i64)), (3, (.int .i64)), (4, .bool), (5, (.int .u8)), (34, (.sl (.int .u8))), (145, (.pair (.sl (.int .u8)) (.pair (.int .i64) .unit)))] [(103, (.pair (.sl (.int .u8)) (.pair (.int .i64) .unit)))] []

theorem ct_s_l1Next (s : (List (Int)) × (Int) × Unit) (n : Int) : Ct pg 76 [.mp (.pair (.sl (.int .u8)) (.pair (.int .i64) .unit)) (.pr .sh (.pr .sh .sh)) s, .dat (.int .i64) n] ⟨[Q_s_l1Next s n], [⟨(.int .i64), .sh, F_s_l1Next s n⟩], [.mp (.pair (.sl (.int .u8)) (.pair (.int .i64) .unit)) (.pr .sh (.pr .sh .sh)) (B_s_l1Next_s s n)]⟩ := by
  refine ct_claim (O := O_s_l1Next) (τ := τ_s_l1Next) (EnvOk.of (by kernel_rfl) (by kernel_rfl)) (GOk.of (.nil : AllOk pg [])) mixed (Enters.of (by kernel_rfl)) (fn := Go.Proofs.Try.f76) (by kernel_rfl) rfl (by kernel_rfl) ?_
  intro hp hw
  have hq : Q_s_l1Next s n := hp _ (List.mem_singleton.2 rfl)
  clear hp
  change claim Lg.std Alg.std τ_s_l1Next (Gam.of []) O_s_l1Next Go.Proofs.Try.f76 [.mp (.pair (.sl (.int .u8)) (.pair (.int .i64) .unit)) (.pr .sh (.pr .sh .sh)) s, .dat (.int .i64) n] ⟨[Q_s_l1Next s n], [⟨(.int .i64), .sh, F_s_l1Next s n⟩], [.mp (.pair (.sl (.int .u8)) (.pair (.int .i64) .unit)) (.pr .sh (.pr .sh .sh)) (B_s_l1Next_s s n)]⟩
  generalize hR0 : F_s_l1Next s n = R0
  generalize hB_s : B_s_l1Next_s s n = B_s
  generalize Q_s_l1Next s n = Q0
  generalize hL : Lg.std = L
  generalize hA : Alg.std = A
  cbv
  subst hL hA
  try dsimp only [Ty.den]
  obtain ⟨s_0, s_1, ⟨⟩⟩ := s
  simp only [Q_s_l1Next, okSrc] at hq
  have hb := u8s hw.1.1.2
  have hr := fun i (h : i < s_0.length) => getD_range hb 0 i h
  have hd := fun (h : 0 < (s_0.length : Int)) => div_le s_1 s_0.length (by omega) h
  have hm1 := fun (h : 0 < (s_0.length : Int)) => mod_in s_1 s_0.length h
  have hm2 := fun (h : 0 < (s_0.length : Int)) => mod_in (s_1 + 1) s_0.length h
  have hr1 := fun (h : 0 < (s_0.length : Int)) => hr (s_1 % s_0.length).toNat (by have := hm1 h; omega)
  have hr2 := fun (h : 0 < (s_0.length : Int)) => hr ((s_1 + 1) % s_0.length).toNat (by have := hm2 h; omega)
  have hs1 : s_1 + 1 - 1 = s_1 := by omega
  clear hr hb
  subst hR0 hB_s
  simp only [Lg.std, Alg.std, List.drop_zero, List.take_length, F_s_l1Next, B_s_l1Next_s, nextV, hs1] at *
  repeat' (first | intro _ | apply And.intro)
  all_goals first | omega | grind
def con_s_l1Next : Con := ⟨true, g2 (pW (.pair (.sl (.int .u8)) (.pair (.int .i64) .unit)) (.pr .sh (.pr .sh .sh))) (pD (.int .i64)) fun s n => .one ⟨[Q_s_l1Next s n], [⟨(.int .i64), .sh, F_s_l1Next s n⟩], [.mp (.pair (.sl (.int .u8)) (.pair (.int .i64) .unit)) (.pr .sh (.pr .sh .sh)) (B_s_l1Next_s s n)]⟩, [(.pr .sh (.pr .sh .sh))], false, 0⟩
theorem ok_s_l1Next : ConOk pg 76 con_s_l1Next := ConOk.g2 (Enters.of (by kernel_rfl)) ct_s_l1Next

def F_s_l1Pick (s : (List (Int)) × (Int) × Unit) (list : List (Int)) : Int := pickV s.1 s.2.1 list
def B_s_l1Pick_s (s : (List (Int)) × (Int) × Unit) (list : List (Int)) : (List (Int)) × (Int) × Unit := (s.1, s.2.1 + 1, PUnit.unit)
def Q_s_l1Pick (s : (List (Int)) × (Int) × Unit) (list : List (Int)) : Prop := okSrc 1000000000000 s ∧ 0 < list.length
def O_s_l1Pick : Opt := ⟨fun i => false, fun i => [], fun i => .done, fun i => none, fun i => false, fun i => [], fun i => false, fun i => none, fun i => none⟩
def τ_s_l1Pick : Env := Env.of [(2, (.int .i64)), (3, (.int .i64)), (4, .bool), (75, (.sl (.int .i64)))] [(103, (.pair (.sl (.int .u8)) (.pair (.int .i64) .unit)))] []

theorem ct_s_l1Pick (s : (List (Int)) × (Int) × Unit) (list : List (Int)) : Ct pg 74 [.mp (.pair (.sl (.int .u8)) (.pair (.int .i64) .unit)) (.pr .sh (.pr .sh .sh)) s, .dat (.sl (.int .i64)) list] ⟨[Q_s_l1Pick s list], [⟨(.int .i64), .sh, F_s_l1Pick s list⟩], [.mp (.pair (.sl (.int .u8)) (.pair (.int .i64) .unit)) (.pr .sh (.pr .sh .sh)) (B_s_l1Pick_s s list)]⟩ := by
  refine ct_claim (O := O_s_l1Pick) (τ := τ_s_l1Pick) (EnvOk.of (by kernel_rfl) (by kernel_rfl)) (GOk.of (.cons ok_s_l1Next .nil : AllOk pg [(76, con_s_l1Next)])) mixed (Enters.of (by kernel_rfl)) (fn := Go.Proofs.Try.f74) (by kernel_rfl) rfl (by kernel_rfl) ?_
  intro hp hw
  have hq : Q_s_l1Pick s list := hp _ (List.mem_singleton.2 rfl)
  clear hp
  change claim Lg.std Alg.std τ_s_l1Pick (Gam.of [(76, con_s_l1Next)]) O_s_l1Pick Go.Proofs.Try.f74 [.mp (.pair (.sl (.int .u8)) (.pair (.int .i64) .unit)) (.pr .sh (.pr .sh .sh)) s, .dat (.sl (.int .i64)) list] ⟨[Q_s_l1Pick s list], [⟨(.int .i64), .sh, F_s_l1Pick s list⟩], [.mp (.pair (.sl (.int .u8)) (.pair (.int .i64) .unit)) (.pr .sh (.pr .sh .sh)) (B_s_l1Pick_s s list)]⟩
  delta con_s_l1Next
  generalize hg_F_s_l1Next : F_s_l1Next = g_F_s_l1Next
  generalize hg_B_s_l1Next_s : B_s_l1Next_s = g_B_s_l1Next_s
  generalize hg_Q_s_l1Next : Q_s_l1Next = g_Q_s_l1Next
  generalize hR0 : F_s_l1Pick s list = R0
  generalize hB_s : B_s_l1Pick_s s list = B_s
  generalize Q_s_l1Pick s list = Q0
  generalize hL : Lg.std = L
  generalize hA : Alg.std = A
  cbv
  subst hL hA
  try dsimp only [Ty.den]
  obtain ⟨s_0, s_1, ⟨⟩⟩ := s
  have hn := nextV_range s_0 s_1 list.length
  subst hR0 hB_s hg_F_s_l1Next hg_B_s_l1Next_s hg_Q_s_l1Next
  simp only [Q_s_l1Pick] at hq
  simp only [Lg.std, Alg.std, List.drop_zero, List.take_length, F_s_l1Next, B_s_l1Next_s, Q_s_l1Next, F_s_l1Pick, B_s_l1Pick_s, pickV]
  all_goals grind
def con_s_l1Pick : Con := ⟨true, g2 (pW (.pair (.sl (.int .u8)) (.pair (.int .i64) .unit)) (.pr .sh (.pr .sh .sh))) (pD (.sl (.int .i64))) fun s list => .one ⟨[Q_s_l1Pick s list], [⟨(.int .i64), .sh, F_s_l1Pick s list⟩], [.mp (.pair (.sl (.int .u8)) (.pair (.int .i64) .unit)) (.pr .sh (.pr .sh .sh)) (B_s_l1Pick_s s list)]⟩, [(.pr .sh (.pr .sh .sh))], false, 0⟩
theorem ok_s_l1Pick : ConOk pg 74 con_s_l1Pick := ConOk.g2 (Enters.of (by kernel_rfl)) ct_s_l1Pick

def F_s_l1Some (s : (List (Int)) × (Int) × Unit) (n : Int) : List (Int) := someV s.1 s.2.1 n
def B_s_l1Some_s (s : (List (Int)) × (Int) × Unit) (n : Int) : (List (Int)) × (Int) × Unit := (s.1, s.2.1 + n.toNat, PUnit.unit)
def Q_s_l1Some (s : (List (Int)) × (Int) × Unit) (n : Int) : Prop := okSrc 100000000000 s ∧ n ≤ 1000000
def O_s_l1Some : Opt := ⟨fun i => false, fun i => (match decide (i = 2) with | true => [true, true, false, false, false, true, false, false, false, false, false, false, false, false, false, false, false, false] | false => []), fun i => .done, fun i => none, fun i => (match decide (i = 2) with | true => true | false => false), fun i => [], fun i => false, fun i => none, fun i => none⟩
def τ_s_l1Some : Env := Env.of [(2, (.int .i64)), (4, .bool), (5, (.int .u8)), (34, (.sl (.int .u8)))] [(103, (.pair (.sl (.int .u8)) (.pair (.int .i64) .unit)))] []

theorem ct_s_l1Some (s : (List (Int)) × (Int) × Unit) (n : Int) : Ct pg 73 [.mp (.pair (.sl (.int .u8)) (.pair (.int .i64) .unit)) (.pr .sh (.pr .sh .sh)) s, .dat (.int .i64) n] ⟨[Q_s_l1Some s n], [⟨(.sl (.int .u8)), (.ow .sh), F_s_l1Some s n⟩], [.mp (.pair (.sl (.int .u8)) (.pair (.int .i64) .unit)) (.pr .sh (.pr .sh .sh)) (B_s_l1Some_s s n)]⟩ := by
  refine ct_claim (O := O_s_l1Some) (τ := τ_s_l1Some) (EnvOk.of (by kernel_rfl) (by kernel_rfl)) (GOk.of (.cons ok_s_l1Next .nil : AllOk pg [(76, con_s_l1Next)])) mixed (Enters.of (by kernel_rfl)) (fn := Go.Proofs.Try.f73) (by kernel_rfl) rfl (by kernel_rfl) ?_
  intro hp hw
  have hq : Q_s_l1Some s n := hp _ (List.mem_singleton.2 rfl)
  clear hp
  change claim Lg.std Alg.std τ_s_l1Some (Gam.of [(76, con_s_l1Next)]) O_s_l1Some Go.Proofs.Try.f73 [.mp (.pair (.sl (.int .u8)) (.pair (.int .i64) .unit)) (.pr .sh (.pr .sh .sh)) s, .dat (.int .i64) n] ⟨[Q_s_l1Some s n], [⟨(.sl (.int .u8)), (.ow .sh), F_s_l1Some s n⟩], [.mp (.pair (.sl (.int .u8)) (.pair (.int .i64) .unit)) (.pr .sh (.pr .sh .sh)) (B_s_l1Some_s s n)]⟩
  delta con_s_l1Next
  generalize hg_F_s_l1Next : F_s_l1Next = g_F_s_l1Next
  generalize hg_B_s_l1Next_s : B_s_l1Next_s = g_B_s_l1Next_s
  generalize hg_Q_s_l1Next : Q_s_l1Next = g_Q_s_l1Next
  generalize hR0 : F_s_l1Some s n = R0
  generalize hB_s : B_s_l1Some_s s n = B_s
  generalize Q_s_l1Some s n = Q0
  generalize hL : Lg.std = L
  generalize hA : Alg.std = A
  cbv
  subst hL hA
  try dsimp only [Ty.den]
  obtain ⟨s_0, s_1, ⟨⟩⟩ := s
  simp only [Q_s_l1Some, okSrc] at hq
  repeat' (first | intro _ | apply And.intro)
  all_goals first | trivial | ((fail_if_success (refine lp_v (V := Unit) (fun _ => ⟨[], []⟩) (fun _ => True) (fun _ => 0) () ?_ ?_ ?_)); subst hR0 hB_s hg_F_s_l1Next hg_B_s_l1Next_s hg_Q_s_l1Next; (try simp only [Alg.std, F_s_l1Next, B_s_l1Next_s, Q_s_l1Next, F_s_l1Some, B_s_l1Some_s] at *); all_goals grind) | skip
  refine lp_v (V := (Nat) × (Int) × (Nat) × (List Int) × (List Int) × (Int)) (fun ((k, m, N, xs, C, a) : (Nat) × (Int) × (Nat) × (List Int) × (List Int) × (Int)) => ⟨[.bptr 0 0, .dat (.int .i64) m, Jk, Jk, Jk, .ref (.int .u8) 1 0 [] 0 N, Jk, Jk, Jk, Jk, Jk, Jk, Jk, Jk, Jk, Jk, Jk, Jk], [some (.box [.dat (.sl (.int .u8)) C, .dat (.int .i64) a]), some (.row 0 (.int .u8) .sh xs), some (.gh [.bptr 0 0])]⟩) (fun ((k, m, N, xs, C, a) : (Nat) × (Int) × (Nat) × (List Int) × (List Int) × (Int)) => N = xs.length ∧ C = s_0 ∧ a = s_1 + k ∧ m = n - k ∧ (k ≤ n.toNat) ∧ xs = someV s_0 s_1 (k : Nat)) (fun ((k, m, N, xs, C, a) : (Nat) × (Int) × (Nat) × (List Int) × (List Int) × (Int)) => n.toNat - k) (0, _, _, _, _, _) rfl ?_ ?_
  · subst hR0 hB_s hg_F_s_l1Next hg_B_s_l1Next_s hg_Q_s_l1Next
    (try simp only [Alg.std, F_s_l1Next, B_s_l1Next_s, Q_s_l1Next, F_s_l1Some, B_s_l1Some_s] at *)
    simp [someV]
  rintro ⟨k, m, N, xs, C, a⟩ hf I hI
  replace hf : N = xs.length ∧ C = s_0 ∧ a = s_1 + k ∧ m = n - k ∧ (k ≤ n.toNat) ∧ xs = someV s_0 s_1 (k : Nat) := hf
  generalize hL : Lg.std = L
  generalize hA : Alg.std = A
  cbv
  subst hL hA
  try dsimp only [Ty.den]
  subst hI
  obtain ⟨h1, h2, h3, h4, h5, h6⟩ := hf
  have hsn := someV_snoc s_0 s_1 k
  have hnr := nextV_range s_0 (s_1 + k) 256
  have hln := someV_len s_0 s_1 (k : Nat)
  have hkk : (k : Int) = n → someV s_0 s_1 (k : Nat) = someV s_0 s_1 n := fun h => by rw [h]
  have hkz : n ≤ 0 → k = 0 → someV s_0 s_1 (k : Nat) = someV s_0 s_1 n := fun h h0 => by simp [someV, h0]; omega
  repeat' (first | intro _ | apply And.intro)
  all_goals first | (with_reducible exact True.intro) | ((fail_if_success (refine lp_v (V := Unit) (fun _ => ⟨[], []⟩) (fun _ => True) (fun _ => 0) () ?_ ?_ ?_)); (try simp only [Lg.std, Alg.std, List.drop_zero, List.take_length] at *); (try refine ⟨(k + 1, _, _, _, _, _), rfl, ?_, ?_⟩); (all_goals (subst hR0 hB_s hg_F_s_l1Next hg_B_s_l1Next_s hg_Q_s_l1Next; (try simp only [Lg.std, Alg.std, List.drop_zero, List.take_length, F_s_l1Next, B_s_l1Next_s, Q_s_l1Next, F_s_l1Some, B_s_l1Some_s] at *); first | done | ((try simp only [okSrc, wrap8] at *); grind [wrap8])))) | skip
def con_s_l1Some : Con := ⟨true, g2 (pW (.pair (.sl (.int .u8)) (.pair (.int .i64) .unit)) (.pr .sh (.pr .sh .sh))) (pD (.int .i64)) fun s n => .one ⟨[Q_s_l1Some s n], [⟨(.sl (.int .u8)), (.ow .sh), F_s_l1Some s n⟩], [.mp (.pair (.sl (.int .u8)) (.pair (.int .i64) .unit)) (.pr .sh (.pr .sh .sh)) (B_s_l1Some_s s n)]⟩, [(.pr .sh (.pr .sh .sh))], false, 0⟩
theorem ok_s_l1Some : ConOk pg 73 con_s_l1Some := ConOk.g2 (Enters.of (by kernel_rfl)) ct_s_l1Some

def F_w_lwAt (more : List (Int)) (i : Int) (n : Int) : Int := lwAtV more i n
def Q_w_lwAt (more : List (Int)) (i : Int) (n : Int) : Prop := 0 ≤ i ∧ i ≤ 1000000
def O_w_lwAt : Opt := ⟨fun i => (match decide (i = 6) with | true => true | false => false), fun i => [], fun i => .done, fun i => none, fun i => false, fun i => [], fun i => false, fun i => none, fun i => none⟩
def τ_w_lwAt : Env := Env.of [(2, (.int .i64)), (3, (.int .i64)), (4, .bool), (5, (.int .u8)), (34, (.sl (.int .u8)))] [] []

theorem ct_w_lwAt (more : List (Int)) (i : Int) (n : Int) : Ct pg 37 [.dat (.sl (.int .u8)) more, .dat (.int .i64) i, .dat (.int .i64) n] ⟨[Q_w_lwAt more i n], [⟨(.int .i64), .sh, F_w_lwAt more i n⟩], []⟩ := by
  refine ct_claim (O := O_w_lwAt) (τ := τ_w_lwAt) (EnvOk.of (by kernel_rfl) (by kernel_rfl)) (GOk.of (.nil : AllOk pg [])) mixed (Enters.of (by kernel_rfl)) (fn := Go.Proofs.Try.f37) (by kernel_rfl) rfl (by kernel_rfl) ?_
  intro hp hw
  have hq : Q_w_lwAt more i n := hp _ (List.mem_singleton.2 rfl)
  clear hp
  change claim Lg.std Alg.std τ_w_lwAt (Gam.of []) O_w_lwAt Go.Proofs.Try.f37 [.dat (.sl (.int .u8)) more, .dat (.int .i64) i, .dat (.int .i64) n] ⟨[Q_w_lwAt more i n], [⟨(.int .i64), .sh, F_w_lwAt more i n⟩], []⟩
  generalize hR0 : F_w_lwAt more i n = R0
  generalize Q_w_lwAt more i n = Q0
  generalize hL : Lg.std = L
  generalize hA : Alg.std = A
  cbv
  subst hL hA
  try dsimp only [Ty.den]
  simp only [Q_w_lwAt] at hq
  have hb := u8s hw.1.2
  have hr := fun i (h : i < more.length) => getD_range hb 0 i h
  have hl := hw.1.1
  have hd := fun (h : 0 < (more.length : Int)) => div_le i more.length (by omega) h
  have hm1 := fun (h : 0 < (more.length : Int)) => mod_in i more.length h
  have hm2 := fun (h : 0 < (more.length : Int)) => mod_in (i + 1) more.length h
  have hr1 := fun (h : 0 < (more.length : Int)) => hr (i % more.length).toNat (by have := hm1 h; omega)
  have hr2 := fun (h : 0 < (more.length : Int)) => hr ((i + 1) % more.length).toNat (by have := hm2 h; omega)
  clear hr hb
  subst hR0
  simp only [Lg.std, Alg.std, List.drop_zero, List.take_length, F_w_lwAt, lwAtV] at *
  repeat' (first | intro _ | apply And.intro)
  all_goals first | omega | grind
def con_w_lwAt : Con := ⟨true, g3 (pD (.sl (.int .u8))) (pD (.int .i64)) (pD (.int .i64)) fun more i n => .one ⟨[Q_w_lwAt more i n], [⟨(.int .i64), .sh, F_w_lwAt more i n⟩], []⟩, [], false, 0⟩
theorem ok_w_lwAt : ConOk pg 37 con_w_lwAt := ConOk.g3 (Enters.of (by kernel_rfl)) ct_w_lwAt

def F_w_lwBig (code : List (Int)) : Bool := decide (code.length > 1048576)
def Q_w_lwBig (code : List (Int)) : Prop := True
def O_w_lwBig : Opt := ⟨fun i => false, fun i => [], fun i => .done, fun i => none, fun i => false, fun i => [], fun i => false, fun i => none, fun i => none⟩
def τ_w_lwBig : Env := Env.of [(2, (.int .i64)), (3, (.int .i64)), (4, .bool), (34, (.sl (.int .u8)))] [] []

theorem ct_w_lwBig (code : List (Int)) : Ct pg 28 [.dat (.sl (.int .u8)) code] ⟨[Q_w_lwBig code], [⟨.bool, .sh, F_w_lwBig code⟩], []⟩ := by
  refine ct_claim (O := O_w_lwBig) (τ := τ_w_lwBig) (EnvOk.of (by kernel_rfl) (by kernel_rfl)) (GOk.of (.nil : AllOk pg [])) mixed (Enters.of (by kernel_rfl)) (fn := Go.Proofs.Try.f28) (by kernel_rfl) rfl (by kernel_rfl) ?_
  intro hp hw
  have hq : Q_w_lwBig code := hp _ (List.mem_singleton.2 rfl)
  clear hp
  change claim Lg.std Alg.std τ_w_lwBig (Gam.of []) O_w_lwBig Go.Proofs.Try.f28 [.dat (.sl (.int .u8)) code] ⟨[Q_w_lwBig code], [⟨.bool, .sh, F_w_lwBig code⟩], []⟩
  generalize hR0 : F_w_lwBig code = R0
  generalize Q_w_lwBig code = Q0
  generalize hL : Lg.std = L
  generalize hA : Alg.std = A
  cbv
  subst hL hA
  try dsimp only [Ty.den]
  subst hR0
  simp only [Q_w_lwBig] at hq
  simp only [Lg.std, Alg.std, List.drop_zero, List.take_length, F_w_lwBig]
  all_goals grind
def con_w_lwBig : Con := ⟨true, g1 (pD (.sl (.int .u8))) fun code => .one ⟨[Q_w_lwBig code], [⟨.bool, .sh, F_w_lwBig code⟩], []⟩, [], false, 0⟩
theorem ok_w_lwBig : ConOk pg 28 con_w_lwBig := ConOk.g1 (Enters.of (by kernel_rfl)) ct_w_lwBig

def F_w_lwBytes (a : List (Int)) (b : List (Int)) : Bool := decide (a = b)
def Q_w_lwBytes (a : List (Int)) (b : List (Int)) : Prop := True
def O_w_lwBytes : Opt := ⟨fun i => false, fun i => [], fun i => .done, fun i => none, fun i => false, fun i => [], fun i => false, fun i => none, fun i => none⟩
def τ_w_lwBytes : Env := Env.of [(4, .bool), (9, .str), (34, (.sl (.int .u8)))] [] []

theorem ct_w_lwBytes (a : List (Int)) (b : List (Int)) : Ct pg 36 [.dat (.sl (.int .u8)) a, .dat (.sl (.int .u8)) b] ⟨[Q_w_lwBytes a b], [⟨.bool, .sh, F_w_lwBytes a b⟩], []⟩ := by
  refine ct_claim (O := O_w_lwBytes) (τ := τ_w_lwBytes) (EnvOk.of (by kernel_rfl) (by kernel_rfl)) (GOk.of (.nil : AllOk pg [])) mixed (Enters.of (by kernel_rfl)) (fn := Go.Proofs.Try.f36) (by kernel_rfl) rfl (by kernel_rfl) ?_
  intro hp hw
  have hq : Q_w_lwBytes a b := hp _ (List.mem_singleton.2 rfl)
  clear hp
  change claim Lg.std Alg.std τ_w_lwBytes (Gam.of []) O_w_lwBytes Go.Proofs.Try.f36 [.dat (.sl (.int .u8)) a, .dat (.sl (.int .u8)) b] ⟨[Q_w_lwBytes a b], [⟨.bool, .sh, F_w_lwBytes a b⟩], []⟩
  generalize hR0 : F_w_lwBytes a b = R0
  generalize Q_w_lwBytes a b = Q0
  generalize hL : Lg.std = L
  generalize hA : Alg.std = A
  cbv
  subst hL hA
  try dsimp only [Ty.den]
  subst hR0
  simp only [Q_w_lwBytes] at hq
  simp only [Lg.std, Alg.std, List.drop_zero, List.take_length, F_w_lwBytes]
  all_goals grind
def con_w_lwBytes : Con := ⟨true, g2 (pD (.sl (.int .u8))) (pD (.sl (.int .u8))) fun a b => .one ⟨[Q_w_lwBytes a b], [⟨.bool, .sh, F_w_lwBytes a b⟩], []⟩, [], false, 0⟩
theorem ok_w_lwBytes : ConOk pg 36 con_w_lwBytes := ConOk.g2 (Enters.of (by kernel_rfl)) ct_w_lwBytes

def Q_s_DrawPageFault (code : List (Int)) : Prop := code.length ≤ 1048640
def P_s_DrawPageFault (code : List (Int)) (p : (Int) × (Int) × (List (Int)) × Unit) : Prop := p.2.2.1.length ≤ 1000 ∧ okBy p.2.2.1
def O_s_DrawPageFault : Opt := ⟨fun i => false, fun i => [], fun i => .done, fun i => none, fun i => false, fun i => [], fun i => false, fun i => none, fun i => none⟩
def τ_s_DrawPageFault : Env := Env.of [(2, (.int .i64)), (3, (.int .i64)), (4, .bool), (34, (.sl (.int .u8))), (54, (.pair (.int .i64) (.pair (.int .i64) (.pair (.sl (.int .u8)) .unit)))), (75, (.sl (.int .i64)))] [(103, (.pair (.sl (.int .u8)) (.pair (.int .i64) .unit)))] []

theorem ct_s_DrawPageFault (code : List (Int)) : CtX pg 69 [.dat (.sl (.int .u8)) code] (.any (.pair (.pair (.int .i64) (.pair (.int .i64) (.pair (.sl (.int .u8)) .unit))) .unit) [Q_s_DrawPageFault code] (fun y => [P_s_DrawPageFault code y.1]) fun y => ⟨[], [⟨(.pair (.int .i64) (.pair (.int .i64) (.pair (.sl (.int .u8)) .unit))), (.pr .sh (.pr .sh (.pr (.ow .sh) .sh))), y.1⟩], []⟩) := by
  refine ctx_claim (O := O_s_DrawPageFault) (τ := τ_s_DrawPageFault) (EnvOk.of (by kernel_rfl) (by kernel_rfl)) (GOk.of (.cons ok_s_l1Source (.cons ok_s_l1Next (.cons ok_s_l1Pick (.cons ok_s_l1Some .nil))) : AllOk pg [(87, con_s_l1Source), (76, con_s_l1Next), (74, con_s_l1Pick), (73, con_s_l1Some)])) mixed (Enters.of (by kernel_rfl)) (fn := Go.Proofs.Try.f69) (by kernel_rfl) rfl (by kernel_rfl) ?_
  intro hp hw
  have hq : Q_s_DrawPageFault code := hp _ (List.mem_singleton.2 rfl)
  clear hp
  change claimX Lg.std Alg.std τ_s_DrawPageFault (Gam.of [(87, con_s_l1Source), (76, con_s_l1Next), (74, con_s_l1Pick), (73, con_s_l1Some)]) O_s_DrawPageFault Go.Proofs.Try.f69 [.dat (.sl (.int .u8)) code] (.any (.pair (.pair (.int .i64) (.pair (.int .i64) (.pair (.sl (.int .u8)) .unit))) .unit) [Q_s_DrawPageFault code] (fun y => [P_s_DrawPageFault code y.1]) fun y => ⟨[], [⟨(.pair (.int .i64) (.pair (.int .i64) (.pair (.sl (.int .u8)) .unit))), (.pr .sh (.pr .sh (.pr (.ow .sh) .sh))), y.1⟩], []⟩)
  delta con_s_l1Source con_s_l1Next con_s_l1Pick con_s_l1Some
  generalize hg_F_s_l1Source : F_s_l1Source = g_F_s_l1Source
  generalize hg_Q_s_l1Source : Q_s_l1Source = g_Q_s_l1Source
  generalize hg_F_s_l1Next : F_s_l1Next = g_F_s_l1Next
  generalize hg_B_s_l1Next_s : B_s_l1Next_s = g_B_s_l1Next_s
  generalize hg_Q_s_l1Next : Q_s_l1Next = g_Q_s_l1Next
  generalize hg_F_s_l1Pick : F_s_l1Pick = g_F_s_l1Pick
  generalize hg_B_s_l1Pick_s : B_s_l1Pick_s = g_B_s_l1Pick_s
  generalize hg_Q_s_l1Pick : Q_s_l1Pick = g_Q_s_l1Pick
  generalize hg_F_s_l1Some : F_s_l1Some = g_F_s_l1Some
  generalize hg_B_s_l1Some_s : B_s_l1Some_s = g_B_s_l1Some_s
  generalize hg_Q_s_l1Some : Q_s_l1Some = g_Q_s_l1Some
  generalize hP : P_s_DrawPageFault code = P0
  generalize Q_s_DrawPageFault code = Q0
  generalize hL : Lg.std = L
  generalize hA : Alg.std = A
  cbv
  subst hL hA
  try dsimp only [Ty.den]
  subst hP hg_F_s_l1Source hg_Q_s_l1Source hg_F_s_l1Next hg_B_s_l1Next_s hg_Q_s_l1Next hg_F_s_l1Pick hg_B_s_l1Pick_s hg_Q_s_l1Pick hg_F_s_l1Some hg_B_s_l1Some_s hg_Q_s_l1Some
  simp only [Q_s_DrawPageFault] at hq
  simp only [Lg.std, Alg.std, List.drop_zero, List.take_length, List.take_succ_cons, List.take_zero, List.take_nil, F_s_l1Source, F_s_l1Next, F_s_l1Pick, F_s_l1Some, B_s_l1Next_s, B_s_l1Pick_s, B_s_l1Some_s, Q_s_l1Source, Q_s_l1Next, Q_s_l1Pick, Q_s_l1Some, P_s_DrawPageFault] at *
  have hN := nextV_range
  have hP1 := pick_1
  have hP2 := pick_2
  have hP3 := pick_3
  have hP4 := pick_4
  have hP5 := pick_5
  have hP6 := pick_6
  have hP7 := pick_7
  have hP8 := pick_8
  have hL := someV_len
  have hY := someV_ok
  have hZ := someV_byte
  have hB := okBy_mem
  repeat' (first | intro _ | apply And.intro)
  all_goals grind [List.length_cons, List.length_nil, okSrc, okBy_nil]
def con_s_DrawPageFault : Con := ⟨true, g1 (pD (.sl (.int .u8))) fun code => .any (.pair (.pair (.int .i64) (.pair (.int .i64) (.pair (.sl (.int .u8)) .unit))) .unit) [Q_s_DrawPageFault code] (fun y => [P_s_DrawPageFault code y.1]) fun y => ⟨[], [⟨(.pair (.int .i64) (.pair (.int .i64) (.pair (.sl (.int .u8)) .unit))), (.pr .sh (.pr .sh (.pr (.ow .sh) .sh))), y.1⟩], []⟩, [], false, 0⟩
theorem ok_s_DrawPageFault : ConOk pg 69 con_s_DrawPageFault := ConOk.g1 (Enters.of (by kernel_rfl)) ct_s_DrawPageFault

def Q_s_DrawPackPage (code : List (Int)) : Prop := code.length ≤ 1048640
def P_s_DrawPackPage (code : List (Int)) (p : (Int) × (Int) × (List (Int)) × Unit) : Prop := p.2.2.1.length ≤ 1000 ∧ okBy p.2.2.1
def O_s_DrawPackPage : Opt := ⟨fun i => false, fun i => [], fun i => .done, fun i => none, fun i => false, fun i => [], fun i => false, fun i => none, fun i => none⟩
def τ_s_DrawPackPage : Env := Env.of [(2, (.int .i64)), (34, (.sl (.int .u8))), (54, (.pair (.int .i64) (.pair (.int .i64) (.pair (.sl (.int .u8)) .unit))))] [] []

theorem ct_s_DrawPackPage (code : List (Int)) : CtX pg 29 [.dat (.sl (.int .u8)) code] (.any (.pair (.pair (.int .i64) (.pair (.int .i64) (.pair (.sl (.int .u8)) .unit))) .unit) [Q_s_DrawPackPage code] (fun y => [P_s_DrawPackPage code y.1]) fun y => ⟨[], [⟨(.pair (.int .i64) (.pair (.int .i64) (.pair (.sl (.int .u8)) .unit))), (.pr .sh (.pr .sh (.pr (.ow .sh) .sh))), y.1⟩], []⟩) := by
  refine ctx_claim (O := O_s_DrawPackPage) (τ := τ_s_DrawPackPage) (EnvOk.of (by kernel_rfl) (by kernel_rfl)) (GOk.of (.cons ok_s_DrawPageFault .nil : AllOk pg [(69, con_s_DrawPageFault)])) mixed (Enters.of (by kernel_rfl)) (fn := Go.Proofs.Try.f29) (by kernel_rfl) rfl (by kernel_rfl) ?_
  intro hp hw
  have hq : Q_s_DrawPackPage code := hp _ (List.mem_singleton.2 rfl)
  clear hp
  change claimX Lg.std Alg.std τ_s_DrawPackPage (Gam.of [(69, con_s_DrawPageFault)]) O_s_DrawPackPage Go.Proofs.Try.f29 [.dat (.sl (.int .u8)) code] (.any (.pair (.pair (.int .i64) (.pair (.int .i64) (.pair (.sl (.int .u8)) .unit))) .unit) [Q_s_DrawPackPage code] (fun y => [P_s_DrawPackPage code y.1]) fun y => ⟨[], [⟨(.pair (.int .i64) (.pair (.int .i64) (.pair (.sl (.int .u8)) .unit))), (.pr .sh (.pr .sh (.pr (.ow .sh) .sh))), y.1⟩], []⟩)
  delta con_s_DrawPageFault
  generalize hg_Q_s_DrawPageFault : Q_s_DrawPageFault = g_Q_s_DrawPageFault
  generalize hg_P_s_DrawPageFault : P_s_DrawPageFault = g_P_s_DrawPageFault
  generalize hP : P_s_DrawPackPage code = P0
  generalize Q_s_DrawPackPage code = Q0
  generalize hL : Lg.std = L
  generalize hA : Alg.std = A
  cbv
  subst hL hA
  try dsimp only [Ty.den]
  simp only [Q_s_DrawPackPage] at hq
  repeat' (first | intro _ | apply And.intro | (refine (AllY.mk ?_ : AllY (.pair (.pair (.int .i64) (.pair (.int .i64) (.pair (.sl (.int .u8)) .unit))) .unit) _); rintro ⟨⟨_, _, _, ⟨⟩⟩, ⟨⟩⟩; generalize hL : Lg.std = L; generalize hA : Alg.std = A; cbv; subst hL hA; try dsimp only [Ty.den]))
  all_goals subst hP hg_Q_s_DrawPageFault hg_P_s_DrawPageFault
  all_goals (try dsimp only [Ty.den] at *)
  all_goals (try simp only [Lg.std, Alg.std, List.drop_zero, List.take_length, List.take_succ_cons, List.take_zero, List.take_nil, Q_s_DrawPageFault, P_s_DrawPageFault, P_s_DrawPackPage] at *)
  all_goals (try dsimp only [Ty.den] at *)
  all_goals (try simp only [List.drop_zero, List.length_append, List.length_take, List.length_set, List.length_drop] at *)
  all_goals (have hN := nextV_range)
  all_goals (have hP1 := pick_1)
  all_goals (have hP2 := pick_2)
  all_goals (have hP3 := pick_3)
  all_goals (have hP4 := pick_4)
  all_goals (have hP5 := pick_5)
  all_goals (have hP6 := pick_6)
  all_goals (have hP7 := pick_7)
  all_goals (have hP8 := pick_8)
  all_goals (have hL := someV_len)
  all_goals (have hY := someV_ok)
  all_goals (have hZ := someV_byte)
  all_goals (have hB := okBy_mem)
  all_goals grind [okSrc]
def con_s_DrawPackPage : Con := ⟨true, g1 (pD (.sl (.int .u8))) fun code => .any (.pair (.pair (.int .i64) (.pair (.int .i64) (.pair (.sl (.int .u8)) .unit))) .unit) [Q_s_DrawPackPage code] (fun y => [P_s_DrawPackPage code y.1]) fun y => ⟨[], [⟨(.pair (.int .i64) (.pair (.int .i64) (.pair (.sl (.int .u8)) .unit))), (.pr .sh (.pr .sh (.pr (.ow .sh) .sh))), y.1⟩], []⟩, [], false, 0⟩
theorem ok_s_DrawPackPage : ConOk pg 29 con_s_DrawPackPage := ConOk.g1 (Enters.of (by kernel_rfl)) ct_s_DrawPackPage

def Q_s_DrawReadPage (code : List (Int)) : Prop := code.length ≤ 1048640
def P_s_DrawReadPage (code : List (Int)) (data : List (Int)) (id : Int) : Prop := data.length ≤ 1000 ∧ okBy data
def O_s_DrawReadPage : Opt := ⟨fun i => (match decide (i = 16) with | true => true | false => (match decide (i = 15) with | true => true | false => false)), fun i => [], fun i => (match decide (i = 11) with | true => (.take 0 (.take 1 (.take 3 (.take 4 (.alt 2 (.alt 5 (.alt 6 (.alt 7 (.take 8 .done) .no) .no) .no) .no))))) | false => (match decide (i = 8) with | true => (.take 0 (.take 1 (.take 5 (.alt 2 (.take 3 (.alt 4 (.alt 6 (.take 7 (.take 8 (.take 9 (.take 10 (.alt 11 .done .no))))) .no) (.alt 6 (.take 4 (.take 7 (.take 8 (.take 9 (.take 10 (.alt 11 .done .no)))))) .no))) .no)))) | false => (match decide (i = 4) with | true => (.take 0 (.take 1 (.take 5 (.alt 2 (.alt 3 (.alt 4 (.take 6 (.take 7 (.take 8 .done))) (.alt 6 (.alt 4 (.take 7 (.take 8 .done)) .no) .no)) (.alt 6 (.alt 3 (.alt 4 (.take 7 (.take 8 .done)) .no) .no) .no)) (.alt 6 (.alt 2 (.alt 3 (.alt 4 (.take 7 (.take 8 .done)) .no) .no) .no) .no))))) | false => .done))), fun i => (match decide (i = 8) with | true => some [false, false, false, false, true, false, true, false, false, false, false, false, false, false, false, false, false, false, false, false, false, false, false, false, false, false, false, false, false, false, false, false, false, false, false, false, false, false, false, false, false, false, false, false, false, false, false, false, false, false, false, false, false, false, false, false, false, false, false, false, false, false, false, false, false, false, false, false, false, false] | false => (match decide (i = 4) with | true => some [false, false, true, true, false, false, false, false, false, false, false, false, false, false, false, false, false, false, false, false, false, false, false, false, false, false, false, false, false, false, false, false, false, false, false, false, false, false, false, false, false, false, false, false, false, false, false, false, false, false, false, false, false, false, false, false, false, false, false, false, false, false, false, false, false, false, false, false, false, false] | false => none)), fun i => false, fun i => [], fun i => false, fun i => none, fun i => none⟩
def τ_s_DrawReadPage : Env := Env.of [(2, (.int .i64)), (3, (.int .i64)), (4, .bool), (5, (.int .u8)), (34, (.sl (.int .u8))), (54, (.pair (.int .i64) (.pair (.int .i64) (.pair (.sl (.int .u8)) .unit)))), (75, (.sl (.int .i64)))] [(103, (.pair (.sl (.int .u8)) (.pair (.int .i64) .unit))), (108, (.pair (.int .i64) (.pair (.int .i64) (.pair (.sl (.int .u8)) .unit))))] []

theorem ct_s_DrawReadPage (code : List (Int)) : CtX pg 31 [.dat (.sl (.int .u8)) code] (.any (.pair (.sl (.int .u8)) (.pair (.int .i64) .unit)) [Q_s_DrawReadPage code] (fun y => [P_s_DrawReadPage code y.1 y.2.1]) fun y => ⟨[], [⟨(.sl (.int .u8)), .sh, y.1⟩, ⟨(.int .i64), .sh, y.2.1⟩], []⟩) := by
  refine ctx_claim (O := O_s_DrawReadPage) (τ := τ_s_DrawReadPage) (EnvOk.of (by kernel_rfl) (by kernel_rfl)) (GOk.of (.cons ok_s_PageFault (.cons ok_s_l1Sum (.cons ok_s_l1Pair (.cons ok_s_l15Pack (.cons ok_s_l1Copy (.cons ok_s_l1Later (.cons ok_s_l1Next (.cons ok_s_l1Pick (.cons ok_s_l1Some (.cons ok_s_DrawPageFault .nil))))))))) : AllOk pg [(72, con_s_PageFault), (79, con_s_l1Sum), (78, con_s_l1Pair), (75, con_s_l15Pack), (77, con_s_l1Copy), (71, con_s_l1Later), (76, con_s_l1Next), (74, con_s_l1Pick), (73, con_s_l1Some), (69, con_s_DrawPageFault)])) mixed (Enters.of (by kernel_rfl)) (fn := Go.Proofs.Try.f31) (by kernel_rfl) rfl (by kernel_rfl) ?_
  intro hp hw
  have hq : Q_s_DrawReadPage code := hp _ (List.mem_singleton.2 rfl)
  clear hp
  change claimX Lg.std Alg.std τ_s_DrawReadPage (Gam.of [(72, con_s_PageFault), (79, con_s_l1Sum), (78, con_s_l1Pair), (75, con_s_l15Pack), (77, con_s_l1Copy), (71, con_s_l1Later), (76, con_s_l1Next), (74, con_s_l1Pick), (73, con_s_l1Some), (69, con_s_DrawPageFault)]) O_s_DrawReadPage Go.Proofs.Try.f31 [.dat (.sl (.int .u8)) code] (.any (.pair (.sl (.int .u8)) (.pair (.int .i64) .unit)) [Q_s_DrawReadPage code] (fun y => [P_s_DrawReadPage code y.1 y.2.1]) fun y => ⟨[], [⟨(.sl (.int .u8)), .sh, y.1⟩, ⟨(.int .i64), .sh, y.2.1⟩], []⟩)
  delta con_s_PageFault con_s_l1Sum con_s_l1Pair con_s_l15Pack con_s_l1Copy con_s_l1Later con_s_l1Next con_s_l1Pick con_s_l1Some con_s_DrawPageFault
  generalize hg_F_s_PageFault : F_s_PageFault = g_F_s_PageFault
  generalize hg_Q_s_PageFault : Q_s_PageFault = g_Q_s_PageFault
  generalize hg_F_s_l1Sum : F_s_l1Sum = g_F_s_l1Sum
  generalize hg_Q_s_l1Sum : Q_s_l1Sum = g_Q_s_l1Sum
  generalize hg_F_s_l1Pair : F_s_l1Pair = g_F_s_l1Pair
  generalize hg_Q_s_l1Pair : Q_s_l1Pair = g_Q_s_l1Pair
  generalize hg_F_s_l15Pack : F_s_l15Pack = g_F_s_l15Pack
  generalize hg_Q_s_l15Pack : Q_s_l15Pack = g_Q_s_l15Pack
  generalize hg_F_s_l1Copy : F_s_l1Copy = g_F_s_l1Copy
  generalize hg_Q_s_l1Copy : Q_s_l1Copy = g_Q_s_l1Copy
  generalize hg_F_s_l1Later : F_s_l1Later = g_F_s_l1Later
  generalize hg_Q_s_l1Later : Q_s_l1Later = g_Q_s_l1Later
  generalize hg_F_s_l1Next : F_s_l1Next = g_F_s_l1Next
  generalize hg_B_s_l1Next_s : B_s_l1Next_s = g_B_s_l1Next_s
  generalize hg_Q_s_l1Next : Q_s_l1Next = g_Q_s_l1Next
  generalize hg_F_s_l1Pick : F_s_l1Pick = g_F_s_l1Pick
  generalize hg_B_s_l1Pick_s : B_s_l1Pick_s = g_B_s_l1Pick_s
  generalize hg_Q_s_l1Pick : Q_s_l1Pick = g_Q_s_l1Pick
  generalize hg_F_s_l1Some : F_s_l1Some = g_F_s_l1Some
  generalize hg_B_s_l1Some_s : B_s_l1Some_s = g_B_s_l1Some_s
  generalize hg_Q_s_l1Some : Q_s_l1Some = g_Q_s_l1Some
  generalize hg_Q_s_DrawPageFault : Q_s_DrawPageFault = g_Q_s_DrawPageFault
  generalize hg_P_s_DrawPageFault : P_s_DrawPageFault = g_P_s_DrawPageFault
  generalize hP : P_s_DrawReadPage code = P0
  generalize Q_s_DrawReadPage code = Q0
  generalize hL : Lg.std = L
  generalize hA : Alg.std = A
  cbv
  subst hL hA
  try dsimp only [Ty.den]
  simp only [Q_s_DrawReadPage] at hq
  repeat' (first | intro _ | apply And.intro | (refine (AllY.mk ?_ : AllY (.pair (.pair (.int .i64) (.pair (.int .i64) (.pair (.sl (.int .u8)) .unit))) .unit) _); rintro ⟨⟨_, _, _, ⟨⟩⟩, ⟨⟩⟩; generalize hL : Lg.std = L; generalize hA : Alg.std = A; cbv; subst hL hA; try dsimp only [Ty.den]))
  all_goals subst hP hg_F_s_PageFault hg_Q_s_PageFault hg_F_s_l1Sum hg_Q_s_l1Sum hg_F_s_l1Pair hg_Q_s_l1Pair hg_F_s_l15Pack hg_Q_s_l15Pack hg_F_s_l1Copy hg_Q_s_l1Copy hg_F_s_l1Later hg_Q_s_l1Later hg_F_s_l1Next hg_B_s_l1Next_s hg_Q_s_l1Next hg_F_s_l1Pick hg_B_s_l1Pick_s hg_Q_s_l1Pick hg_F_s_l1Some hg_B_s_l1Some_s hg_Q_s_l1Some hg_Q_s_DrawPageFault hg_P_s_DrawPageFault
  all_goals (try dsimp only [Ty.den] at *)
  all_goals (try simp only [Lg.std, Alg.std, List.drop_zero, List.take_length, List.take_succ_cons, List.take_zero, List.take_nil, F_s_PageFault, F_s_l1Sum, F_s_l1Pair, F_s_l15Pack, F_s_l1Copy, F_s_l1Later, F_s_l1Next, F_s_l1Pick, F_s_l1Some, B_s_l1Next_s, B_s_l1Pick_s, B_s_l1Some_s, Q_s_PageFault, Q_s_l1Sum, Q_s_l1Pair, Q_s_l15Pack, Q_s_l1Copy, Q_s_l1Later, Q_s_l1Next, Q_s_l1Pick, Q_s_l1Some, Q_s_DrawPageFault, P_s_DrawPageFault, P_s_DrawReadPage] at *)
  all_goals (try dsimp only [Ty.den] at *)
  all_goals (try simp only [List.drop_zero, List.length_append, List.length_take, List.length_set, List.length_drop] at *)
  all_goals (have hN := nextV_range)
  all_goals (have hP1 := pick_1)
  all_goals (have hP2 := pick_2)
  all_goals (have hP3 := pick_3)
  all_goals (have hP4 := pick_4)
  all_goals (have hP5 := pick_5)
  all_goals (have hP6 := pick_6)
  all_goals (have hP7 := pick_7)
  all_goals (have hP8 := pick_8)
  all_goals (have hL := someV_len)
  all_goals (have hY := someV_ok)
  all_goals (have hZ := someV_byte)
  all_goals (have hB := okBy_mem)
  all_goals (have hokByxset := okBy_set)
  all_goals (have hokByxapp := okBy_app)
  all_goals (have hokByxtake := okBy_take)
  all_goals (have hokByxdrop := okBy_drop)
  all_goals (have hokByxpair := okBy_pair)
  all_goals (have hokByxpage := okBy_page)
  all_goals (have hbitxbyte := bit_byte)
  all_goals (have hwrapxbyte := wrap_byte)
  all_goals (have hokByxgetD := okBy_getD)
  all_goals (have hpackxlen := pack_len)
  all_goals (have hsum := fun l => sumOf_nonneg 29 l (by omega))
  all_goals (have hpr := pairOf_len)
  all_goals grind [okSrc]
def con_s_DrawReadPage : Con := ⟨true, g1 (pD (.sl (.int .u8))) fun code => .any (.pair (.sl (.int .u8)) (.pair (.int .i64) .unit)) [Q_s_DrawReadPage code] (fun y => [P_s_DrawReadPage code y.1 y.2.1]) fun y => ⟨[], [⟨(.sl (.int .u8)), .sh, y.1⟩, ⟨(.int .i64), .sh, y.2.1⟩], []⟩, [], false, 0⟩
theorem ok_s_DrawReadPage : ConOk pg 31 con_s_DrawReadPage := ConOk.g1 (Enters.of (by kernel_rfl)) ct_s_DrawReadPage
end Go.Vee
