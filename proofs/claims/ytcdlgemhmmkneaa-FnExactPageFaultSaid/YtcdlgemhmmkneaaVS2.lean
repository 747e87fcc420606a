import Derived.Test.YtcdlgemhmmkneaaVS1
set_option linter.unusedSimpArgs false
set_option linter.unusedVariables false
set_option maxRecDepth 100000
namespace Go.Vee
open Go
def O0 : Nat → Bool := fun _ => true
def O1 (k : Nat) : Nat → Bool := fun i => decide (i ≠ k)

theorem eq_of_getD {a b : List Int} (hl : a.length = b.length) (h : ∀ j : Nat, j < a.length → a.getD j 0 = b.getD j 0) : a = b := by
  apply List.ext_getElem hl
  intro j h1 h2
  have := h j h1
  simpa [List.getD_eq_getElem?_getD, h1, h2] using this
theorem copy_step {α : Type} (a : List α) (d : α) (k : Nat) (h : k < a.length) : (a.take k ++ List.replicate (a.length - k) d).set k (a.getD k d) = a.take (k + 1) ++ List.replicate (a.length - (k + 1)) d := by
  have e : a.length - k = (a.length - (k + 1)) + 1 := by omega
  have hl : (a.take k).length = k := by simp; omega
  rw [e, List.replicate_succ, List.set_append_right _ _ (by omega), hl, Nat.sub_self, List.set_cons_zero, List.take_succ_eq_append_getElem h, List.append_assoc, List.singleton_append]
  have : a.getD k d = a[k] := by simp [List.getD_eq_getElem?_getD, h]
  rw [this]

def f71 (a : List (Int)) (b : Int) : Int := (if b - (List.length a : Int) < 0 then -1 else b - (List.length a : Int) : Int)
def q71 (a : List (Int)) (b : Int) : Prop := 0 ≤ b ∧ b ≤ 1048576
def r71 (a : List (Int)) (b : Int) : Ret := ret1 tI .sh (f71 a b) [q71 a b]
theorem ct71 (a : List (Int)) (b : Int) : Ct pg 71 [.dat tBs a, .dat tI b] (r71 a b) := by
  refine ct_claim (O := O0) envOk (GOk.of (.nil : AllOk pg [])) mixed (Enters.of (by kernel_rfl)) (fn := Go.Proofs.Try.f71) (by kernel_rfl) rfl ?_
  intro hp hw
  have hq : q71 a b := hp _ (List.mem_singleton.2 rfl)
  clear hp
  change claim Lg.std Alg.std τ0 (Gam.of []) O0 Go.Proofs.Try.f71 [.dat tBs a, .dat tI b] (ret1 tI .sh (f71 a b) [q71 a b])
  generalize hR : f71 a b = R
  generalize q71 a b = Q0
  generalize hL : Lg.std = L
  generalize hA : Alg.std = A
  cbv
  subst hL hA
  try dsimp only [Ty.den]
  have hl : a.length ≤ 9223372036854775807 := hw.1.1
  simp only [q71] at hq
  subst hR
  simp only [Lg.std, Alg.std, f71]
  grind
def con71 : Con := ⟨true, g2 tBs tI r71⟩
theorem ok71 : ConOk pg 71 con71 := ConOk.g2 (Enters.of (by kernel_rfl)) ct71

def f15 (a : (Int) × (Int) × (List (Int)) × Unit) (b : Int) : Int := f71 a.2.2.1 b
def q15 (a : (Int) × (Int) × (List (Int)) × Unit) (b : Int) : Prop := 0 ≤ b ∧ b ≤ 1048576
def r15 (a : (Int) × (Int) × (List (Int)) × Unit) (b : Int) : Ret := ret1 tI .sh (f15 a b) [q15 a b]
theorem ct15 (a : (Int) × (Int) × (List (Int)) × Unit) (b : Int) : Ct pg 15 [.dat tPage a, .dat tI b] (r15 a b) := by
  refine ct_claim (O := O0) envOk (GOk.of (.cons ok71 .nil : AllOk pg [(71, con71)])) mixed (Enters.of (by kernel_rfl)) (fn := Go.Proofs.Try.f15) (by kernel_rfl) rfl ?_
  intro hp hw
  have hq : q15 a b := hp _ (List.mem_singleton.2 rfl)
  clear hp
  change claim Lg.std Alg.std τ0 (Gam.of [(71, ⟨true, g2 tBs tI fun x0 x1 => ret1 tI .sh (f71 x0 x1) [q71 x0 x1]⟩)]) O0 Go.Proofs.Try.f15 [.dat tPage a, .dat tI b] (ret1 tI .sh (f15 a b) [q15 a b])
  generalize hf71 : f71 = F71
  generalize hq71 : q71 = Q71
  generalize hR : f15 a b = R
  generalize q15 a b = Q0
  generalize hL : Lg.std = L
  generalize hA : Alg.std = A
  cbv
  subst hL hA
  try dsimp only [Ty.den]
  obtain ⟨k, i, bs, u⟩ := a
  simp only [q15] at hq
  subst hR hf71 hq71
  simp only [Lg.std, Alg.std, f15, f71, q71]
  grind
def con15 : Con := ⟨true, g2 tPage tI r15⟩
theorem ok15 : ConOk pg 15 con15 := ConOk.g2 (Enters.of (by kernel_rfl)) ct15

def f72 (a : Int) (b : Int) (c : Int) : Bool := decide (b ≤ a ∧ a ≤ c)
def q72 (a : Int) (b : Int) (c : Int) : Prop := True
def r72 (a : Int) (b : Int) (c : Int) : Ret := ret1 tB .sh (f72 a b c) [q72 a b c]
theorem ct72 (a : Int) (b : Int) (c : Int) : Ct pg 72 [.dat tI a, .dat tI b, .dat tI c] (r72 a b c) := by
  refine ct_claim (O := O0) envOk (GOk.of (.nil : AllOk pg [])) mixed (Enters.of (by kernel_rfl)) (fn := Go.Proofs.Try.f72) (by kernel_rfl) rfl ?_
  intro hp hw
  have hq : q72 a b c := hp _ (List.mem_singleton.2 rfl)
  clear hp
  change claim Lg.std Alg.std τ0 (Gam.of []) O0 Go.Proofs.Try.f72 [.dat tI a, .dat tI b, .dat tI c] (ret1 tB .sh (f72 a b c) [q72 a b c])
  generalize hR : f72 a b c = R
  generalize q72 a b c = Q0
  generalize hL : Lg.std = L
  generalize hA : Alg.std = A
  cbv
  subst hL hA
  try dsimp only [Ty.den]
  subst hR
  simp only [Lg.std, Alg.std, f72]
  grind
def con72 : Con := ⟨true, g3 tI tI tI r72⟩
theorem ok72 : ConOk pg 72 con72 := ConOk.g3 (Enters.of (by kernel_rfl)) ct72

def f73 (a : Int) : Bool := decide (2 ≤ a ∧ a ≤ 63)
def q73 (a : Int) : Prop := True
def r73 (a : Int) : Ret := ret1 tB .sh (f73 a) [q73 a]
theorem ct73 (a : Int) : Ct pg 73 [.dat tI a] (r73 a) := by
  refine ct_claim (O := O0) envOk (GOk.of (.cons ok72 .nil : AllOk pg [(72, con72)])) mixed (Enters.of (by kernel_rfl)) (fn := Go.Proofs.Try.f73) (by kernel_rfl) rfl ?_
  intro hp hw
  have hq : q73 a := hp _ (List.mem_singleton.2 rfl)
  clear hp
  change claim Lg.std Alg.std τ0 (Gam.of [(72, ⟨true, g3 tI tI tI fun x0 x1 x2 => ret1 tB .sh (f72 x0 x1 x2) [q72 x0 x1 x2]⟩)]) O0 Go.Proofs.Try.f73 [.dat tI a] (ret1 tB .sh (f73 a) [q73 a])
  generalize hf72 : f72 = F72
  generalize hq72 : q72 = Q72
  generalize hR : f73 a = R
  generalize q73 a = Q0
  generalize hL : Lg.std = L
  generalize hA : Alg.std = A
  cbv
  subst hL hA
  try dsimp only [Ty.den]
  subst hR hf72 hq72
  simp only [Lg.std, Alg.std, f73, f72, q72]
  grind
def con73 : Con := ⟨true, g1 tI r73⟩
theorem ok73 : ConOk pg 73 con73 := ConOk.g1 (Enters.of (by kernel_rfl)) ct73

def f16 (a : (Int) × (Int) × (List (Int)) × Unit) : Int := (if ¬ (1 ≤ a.1 ∧ a.1 ≤ 3 ∧ 2 ≤ a.2.1 ∧ a.2.1 ≤ 63) then 3 else if (List.length a.2.2.1 : Int) > 91 then 2 else 0 : Int)
def q16 (a : (Int) × (Int) × (List (Int)) × Unit) : Prop := True
def r16 (a : (Int) × (Int) × (List (Int)) × Unit) : Ret := ret1 tI .sh (f16 a) [q16 a]
theorem ct16 (a : (Int) × (Int) × (List (Int)) × Unit) : Ct pg 16 [.dat tPage a] (r16 a) := by
  refine ct_claim (O := O0) envOk (GOk.of (.cons ok72 (.cons ok73 .nil) : AllOk pg [(72, con72), (73, con73)])) mixed (Enters.of (by kernel_rfl)) (fn := Go.Proofs.Try.f16) (by kernel_rfl) rfl ?_
  intro hp hw
  have hq : q16 a := hp _ (List.mem_singleton.2 rfl)
  clear hp
  change claim Lg.std Alg.std τ0 (Gam.of [(72, ⟨true, g3 tI tI tI fun x0 x1 x2 => ret1 tB .sh (f72 x0 x1 x2) [q72 x0 x1 x2]⟩), (73, ⟨true, g1 tI fun x0 => ret1 tB .sh (f73 x0) [q73 x0]⟩)]) O0 Go.Proofs.Try.f16 [.dat tPage a] (ret1 tI .sh (f16 a) [q16 a])
  generalize hf72 : f72 = F72
  generalize hq72 : q72 = Q72
  generalize hf73 : f73 = F73
  generalize hq73 : q73 = Q73
  generalize hR : f16 a = R
  generalize q16 a = Q0
  generalize hL : Lg.std = L
  generalize hA : Alg.std = A
  cbv
  subst hL hA
  try dsimp only [Ty.den]
  obtain ⟨k, i, bs, u⟩ := a
  subst hR hf72 hq72 hf73 hq73
  simp only [Lg.std, Alg.std, f16, f73, f72, q72, q73]
  grind
def con16 : Con := ⟨true, g1 tPage r16⟩
theorem ok16 : ConOk pg 16 con16 := ConOk.g1 (Enters.of (by kernel_rfl)) ct16

def f74 (a : Int) (b : Int) (c : Int) : Bool := decide (b ≤ a ∧ a ≤ c)
def q74 (a : Int) (b : Int) (c : Int) : Prop := True
def r74 (a : Int) (b : Int) (c : Int) : Ret := ret1 tB .sh (f74 a b c) [q74 a b c]
theorem ct74 (a : Int) (b : Int) (c : Int) : Ct pg 74 [.dat tI a, .dat tI b, .dat tI c] (r74 a b c) := by
  refine ct_claim (O := O0) envOk (GOk.of (.nil : AllOk pg [])) mixed (Enters.of (by kernel_rfl)) (fn := Go.Proofs.Try.f74) (by kernel_rfl) rfl ?_
  intro hp hw
  have hq : q74 a b c := hp _ (List.mem_singleton.2 rfl)
  clear hp
  change claim Lg.std Alg.std τ0 (Gam.of []) O0 Go.Proofs.Try.f74 [.dat tI a, .dat tI b, .dat tI c] (ret1 tB .sh (f74 a b c) [q74 a b c])
  generalize hR : f74 a b c = R
  generalize q74 a b c = Q0
  generalize hL : Lg.std = L
  generalize hA : Alg.std = A
  cbv
  subst hL hA
  try dsimp only [Ty.den]
  subst hR
  simp only [Lg.std, Alg.std, f74]
  grind
def con74 : Con := ⟨true, g3 tI tI tI r74⟩
theorem ok74 : ConOk pg 74 con74 := ConOk.g3 (Enters.of (by kernel_rfl)) ct74

def f75 (a : Int) : Bool := decide (2 ≤ a ∧ a ≤ 63)
def q75 (a : Int) : Prop := True
def r75 (a : Int) : Ret := ret1 tB .sh (f75 a) [q75 a]
theorem ct75 (a : Int) : Ct pg 75 [.dat tI a] (r75 a) := by
  refine ct_claim (O := O0) envOk (GOk.of (.cons ok74 .nil : AllOk pg [(74, con74)])) mixed (Enters.of (by kernel_rfl)) (fn := Go.Proofs.Try.f75) (by kernel_rfl) rfl ?_
  intro hp hw
  have hq : q75 a := hp _ (List.mem_singleton.2 rfl)
  clear hp
  change claim Lg.std Alg.std τ0 (Gam.of [(74, ⟨true, g3 tI tI tI fun x0 x1 x2 => ret1 tB .sh (f74 x0 x1 x2) [q74 x0 x1 x2]⟩)]) O0 Go.Proofs.Try.f75 [.dat tI a] (ret1 tB .sh (f75 a) [q75 a])
  generalize hf74 : f74 = F74
  generalize hq74 : q74 = Q74
  generalize hR : f75 a = R
  generalize q75 a = Q0
  generalize hL : Lg.std = L
  generalize hA : Alg.std = A
  cbv
  subst hL hA
  try dsimp only [Ty.den]
  subst hR hf74 hq74
  simp only [Lg.std, Alg.std, f75, f74, q74]
  grind
def con75 : Con := ⟨true, g1 tI r75⟩
theorem ok75 : ConOk pg 75 con75 := ConOk.g1 (Enters.of (by kernel_rfl)) ct75

def f18 (a : (Int) × (Int) × (List (Int)) × Unit) : Int := (if ¬ (1 ≤ a.1 ∧ a.1 ≤ 3 ∧ 2 ≤ a.2.1 ∧ a.2.1 ≤ 63) then 3 else if (List.length a.2.2.1 : Int) > 91 then 2 else 0 : Int)
def q18 (a : (Int) × (Int) × (List (Int)) × Unit) : Prop := True
def r18 (a : (Int) × (Int) × (List (Int)) × Unit) : Ret := ret1 tI .sh (f18 a) [q18 a]
theorem ct18 (a : (Int) × (Int) × (List (Int)) × Unit) : Ct pg 18 [.dat tPage a] (r18 a) := by
  refine ct_claim (O := O0) envOk (GOk.of (.cons ok74 (.cons ok75 .nil) : AllOk pg [(74, con74), (75, con75)])) mixed (Enters.of (by kernel_rfl)) (fn := Go.Proofs.Try.f18) (by kernel_rfl) rfl ?_
  intro hp hw
  have hq : q18 a := hp _ (List.mem_singleton.2 rfl)
  clear hp
  change claim Lg.std Alg.std τ0 (Gam.of [(74, ⟨true, g3 tI tI tI fun x0 x1 x2 => ret1 tB .sh (f74 x0 x1 x2) [q74 x0 x1 x2]⟩), (75, ⟨true, g1 tI fun x0 => ret1 tB .sh (f75 x0) [q75 x0]⟩)]) O0 Go.Proofs.Try.f18 [.dat tPage a] (ret1 tI .sh (f18 a) [q18 a])
  generalize hf74 : f74 = F74
  generalize hq74 : q74 = Q74
  generalize hf75 : f75 = F75
  generalize hq75 : q75 = Q75
  generalize hR : f18 a = R
  generalize q18 a = Q0
  generalize hL : Lg.std = L
  generalize hA : Alg.std = A
  cbv
  subst hL hA
  try dsimp only [Ty.den]
  obtain ⟨k, i, bs, u⟩ := a
  subst hR hf74 hq74 hf75 hq75
  simp only [Lg.std, Alg.std, f18, f75, f74, q74, q75]
  grind
def con18 : Con := ⟨true, g1 tPage r18⟩
theorem ok18 : ConOk pg 18 con18 := ConOk.g1 (Enters.of (by kernel_rfl)) ct18

def I42 (a : List Int) : Nat → St → Prop := fun n s => ∃ (i : Int) (N : Nat) (xs : List Int) (t1 t2 t5 t6 t7 t8 t9 t10 t11 t12 t13 t14 t15 t16 t17 t18 t19 t20 t21 : AV), s = ⟨[.dat tBs a, t1, t2, .ref tU 0 0 [] 0 N, .dat tI i, t5, t6, t7, t8, t9, t10, t11, t12, t13, t14, t15, t16, t17, t18, t19, t20, t21], [some (.row 0 tU .sh xs)]⟩ ∧ 0 ≤ i ∧ i + n = a.length ∧ N = a.length ∧ xs = a.take i.toNat ++ List.replicate (a.length - i.toNat) 0
def f42 (a : List (Int)) : List (Int) := a
def q42 (a : List (Int)) : Prop := a.length ≤ 1048576
def r42 (a : List (Int)) : Ret := ret1 tBs (.ow .sh) (f42 a) [q42 a]
theorem ct42 (a : List (Int)) : Ct pg 42 [.dat tBs a] (r42 a) := by
  refine ct_claim (O := O0) envOk (GOk.of (.nil : AllOk pg [])) mixed (Enters.of (by kernel_rfl)) (fn := Go.Proofs.Try.f42) (by kernel_rfl) rfl ?_
  intro hp hw
  have hq : q42 a := hp _ (List.mem_singleton.2 rfl)
  clear hp
  change claim Lg.std Alg.std τ0 (Gam.of []) O0 Go.Proofs.Try.f42 [.dat tBs a] (ret1 tBs (.ow .sh) (f42 a) [q42 a])
  generalize hR : f42 a = R
  generalize q42 a = Q0
  generalize hL : Lg.std = L
  generalize hA : Alg.std = A
  cbv
  subst hL hA
  try dsimp only [Ty.den]
  have hl : a.length ≤ 1048576 := by simpa [q42] using hq
  refine ⟨trivial, by simp only [Alg.std]; omega, ?_⟩
  refine lp_intro (I42 a) a.length ⟨0, _, _, _, _, _, _, _, _, _, _, _, _, _, _, _, _, _, _, _, _, _, rfl, by simp, by simp, by simp [Alg.std], by simp [Alg.std]⟩ ?_
  rintro n s ⟨i, N, xs, t1, t2, t5, t6, t7, t8, t9, t10, t11, t12, t13, t14, t15, t16, t17, t18, t19, t20, t21, rfl, h0, h1, h2, h3⟩
  generalize hI : I42 a = I0
  generalize hL : Lg.std = L
  generalize hA : Alg.std = A
  cbv
  subst hL hA hI
  try dsimp only [Ty.den]
  simp only [Lg.std, Alg.std, decide_eq_true_eq, decide_eq_false_iff_not]
  have h1 : i + (n : Int) = (a.length : Int) := h1
  refine ⟨fun hlt => ⟨by omega, by omega, by omega, n - 1, by omega, i + 1, N, _, _, _, _, _, _, _, _, _, _, _, _, _, _, _, _, _, _, _, _, rfl, by omega, by omega, h2, ?_⟩, fun hge => ⟨?_, ?_⟩⟩
  · have e : (i + 1).toNat = i.toNat + 1 := by omega
    rw [e, h3]
    exact copy_step a 0 i.toNat (by omega)
  · rw [h3]; simp; omega
  · have e : i.toNat = a.length := by omega
    rw [h3, ← hR, e]
    simp [f42]
def con42 : Con := ⟨true, g1 tBs r42⟩
theorem ok42 : ConOk pg 42 con42 := ConOk.g1 (Enters.of (by kernel_rfl)) ct42

def f17 (a : (Int) × (Int) × (List (Int)) × Unit) : (Int) × (Int) × (List (Int)) × Unit := a
def q17 (a : (Int) × (Int) × (List (Int)) × Unit) : Prop := (List.length a.2.2.1) ≤ 1048576
def r17 (a : (Int) × (Int) × (List (Int)) × Unit) : Ret := ret1 tPage (.pr .sh (.pr .sh (.pr (.ow .sh) .sh))) (f17 a) [q17 a]
theorem ct17 (a : (Int) × (Int) × (List (Int)) × Unit) : Ct pg 17 [.dat tPage a] (r17 a) := by
  refine ct_claim (O := O0) envOk (GOk.of (.cons ok42 .nil : AllOk pg [(42, con42)])) mixed (Enters.of (by kernel_rfl)) (fn := Go.Proofs.Try.f17) (by kernel_rfl) rfl ?_
  intro hp hw
  have hq : q17 a := hp _ (List.mem_singleton.2 rfl)
  clear hp
  change claim Lg.std Alg.std τ0 (Gam.of [(42, ⟨true, g1 tBs fun x0 => ret1 tBs (.ow .sh) (f42 x0) [q42 x0]⟩)]) O0 Go.Proofs.Try.f17 [.dat tPage a] (ret1 tPage (.pr .sh (.pr .sh (.pr (.ow .sh) .sh))) (f17 a) [q17 a])
  generalize hf42 : f42 = F42
  generalize hq42 : q42 = Q42
  generalize hR : f17 a = R
  generalize q17 a = Q0
  generalize hL : Lg.std = L
  generalize hA : Alg.std = A
  cbv
  subst hL hA
  try dsimp only [Ty.den]
  obtain ⟨k, i, bs, u⟩ := a
  simp only [q17] at hq
  subst hR hf42 hq42
  simp only [Lg.std, Alg.std, f17, q42, f42]
  grind
def con17 : Con := ⟨true, g1 tPage r17⟩
theorem ok17 : ConOk pg 17 con17 := ConOk.g1 (Enters.of (by kernel_rfl)) ct17

def I45 (a b : List Int) : Nat → St → Prop := fun n s => ∃ (i : Int) (t2 t3 t4 t6 t7 t8 t9 t10 t11 t12 t13 t14 t15 t16 t17 t18 t19 t20 t21 t22 t23 t24 t25 : AV), s = ⟨[.dat tBs a, .dat tBs b, t2, t3, t4, .dat tI i, t6, t7, t8, t9, t10, t11, t12, t13, t14, t15, t16, t17, t18, t19, t20, t21, t22, t23, t24, t25], []⟩ ∧ 0 ≤ i ∧ i + n = a.length ∧ ∀ j : Nat, (j : Int) < i → a.getD j 0 = b.getD j 0
def f45 (a : List (Int)) (b : List (Int)) : Bool := decide (a = b)
def q45 (a : List (Int)) (b : List (Int)) : Prop := True
def r45 (a : List (Int)) (b : List (Int)) : Ret := ret1 tB .sh (f45 a b) [q45 a b]
theorem ct45 (a : List (Int)) (b : List (Int)) : Ct pg 45 [.dat tBs a, .dat tBs b] (r45 a b) := by
  refine ct_claim (O := O0) envOk (GOk.of (.nil : AllOk pg [])) mixed (Enters.of (by kernel_rfl)) (fn := Go.Proofs.Try.f45) (by kernel_rfl) rfl ?_
  intro hp hw
  have hq : q45 a b := hp _ (List.mem_singleton.2 rfl)
  clear hp
  change claim Lg.std Alg.std τ0 (Gam.of []) O0 Go.Proofs.Try.f45 [.dat tBs a, .dat tBs b] (ret1 tB .sh (f45 a b) [q45 a b])
  generalize hR : f45 a b = R
  generalize q45 a b = Q0
  generalize hL : Lg.std = L
  generalize hA : Alg.std = A
  cbv
  subst hL hA
  try dsimp only [Ty.den]
  have hw1 : a.length ≤ 9223372036854775807 := hw.1.1
  refine ⟨fun hne => ?_, fun heq => ?_⟩
  · simp only [Alg.std] at hne
    rw [← hR]
    simp only [f45]
    grind
  · have hlen : a.length = b.length := by simp [Alg.std] at heq; omega
    refine lp_intro (I45 a b) a.length ⟨0, _, _, _, _, _, _, _, _, _, _, _, _, _, _, _, _, _, _, _, _, _, _, _, rfl, by simp, by simp, by omega⟩ ?_
    rintro n s ⟨i, t2, t3, t4, t6, t7, t8, t9, t10, t11, t12, t13, t14, t15, t16, t17, t18, t19, t20, t21, t22, t23, t24, t25, rfl, h0, h1, h2⟩
    generalize hI : I45 a b = I0
    generalize hL : Lg.std = L
    generalize hA : Alg.std = A
    cbv
    subst hL hA hI
    try dsimp only [Ty.den]
    simp only [Lg.std, Alg.std, decide_eq_true_eq, decide_eq_false_iff_not]
    have h1 : i + (n : Int) = (a.length : Int) := h1
    have h2 : ∀ j : Nat, (j : Int) < i → a.getD j 0 = b.getD j 0 := h2
    refine ⟨fun hlt => ⟨by omega, by omega, fun hn => ?_, fun hy => ⟨by omega, n - 1, by omega, i + 1, _, _, _, _, _, _, _, _, _, _, _, _, _, _, _, _, _, _, _, _, _, _, _, rfl, by omega, by omega, fun j hj => ?_⟩⟩, fun hge => ?_⟩
    · rw [← hR]
      simp only [f45]
      symm
      rw [decide_eq_false_iff_not]
      rintro rfl
      simp at hn
    · by_cases hji : (j : Int) < i
      · exact h2 j hji
      · have e : j = i.toNat := by omega
        rw [e]
        simpa using hy
    · rw [← hR]
      simp only [f45]
      symm
      rw [decide_eq_true_eq]
      refine eq_of_getD hlen fun j hj => h2 j (by omega)
def con45 : Con := ⟨true, g2 tBs tBs r45⟩
theorem ok45 : ConOk pg 45 con45 := ConOk.g2 (Enters.of (by kernel_rfl)) ct45

def f19 (a : (Int) × (Int) × (List (Int)) × Unit) (b : (Int) × (Int) × (List (Int)) × Unit) : Bool := decide (a = b)
def q19 (a : (Int) × (Int) × (List (Int)) × Unit) (b : (Int) × (Int) × (List (Int)) × Unit) : Prop := True
def r19 (a : (Int) × (Int) × (List (Int)) × Unit) (b : (Int) × (Int) × (List (Int)) × Unit) : Ret := ret1 tB .sh (f19 a b) [q19 a b]
theorem ct19 (a : (Int) × (Int) × (List (Int)) × Unit) (b : (Int) × (Int) × (List (Int)) × Unit) : Ct pg 19 [.dat tPage a, .dat tPage b] (r19 a b) := by
  refine ct_claim (O := O0) envOk (GOk.of (.cons ok45 .nil : AllOk pg [(45, con45)])) mixed (Enters.of (by kernel_rfl)) (fn := Go.Proofs.Try.f19) (by kernel_rfl) rfl ?_
  intro hp hw
  have hq : q19 a b := hp _ (List.mem_singleton.2 rfl)
  clear hp
  change claim Lg.std Alg.std τ0 (Gam.of [(45, ⟨true, g2 tBs tBs fun x0 x1 => ret1 tB .sh (f45 x0 x1) [q45 x0 x1]⟩)]) O0 Go.Proofs.Try.f19 [.dat tPage a, .dat tPage b] (ret1 tB .sh (f19 a b) [q19 a b])
  generalize hf45 : f45 = F45
  generalize hq45 : q45 = Q45
  generalize hR : f19 a b = R
  generalize q19 a b = Q0
  generalize hL : Lg.std = L
  generalize hA : Alg.std = A
  cbv
  subst hL hA
  try dsimp only [Ty.den]
  obtain ⟨k, i, bs, u⟩ := a
  obtain ⟨k', i', bs', u'⟩ := b
  subst hR hf45 hq45
  simp only [Lg.std, Alg.std, f19, q45, f45]
  grind
def con19 : Con := ⟨true, g2 tPage tPage r19⟩
theorem ok19 : ConOk pg 19 con19 := ConOk.g2 (Enters.of (by kernel_rfl)) ct19

def f3 (a : (Int) × (Int) × (List (Int)) × Unit) : Bool := true
def q3 (a : (Int) × (Int) × (List (Int)) × Unit) : Prop := True
def r3 (a : (Int) × (Int) × (List (Int)) × Unit) : Ret := ret1 tB .sh (f3 a) [q3 a]
theorem ct3 (a : (Int) × (Int) × (List (Int)) × Unit) : Ct pg 3 [.dat tPage a] (r3 a) := by
  refine ct_claim (O := (O1 10)) envOk (GOk.of (.cons ok15 (.cons ok16 (.cons ok17 (.cons ok18 (.cons ok19 .nil)))) : AllOk pg [(15, con15), (16, con16), (17, con17), (18, con18), (19, con19)])) mixed (Enters.of (by kernel_rfl)) (fn := Go.Proofs.Try.f3) (by kernel_rfl) rfl ?_
  intro hp hw
  have hq : q3 a := hp _ (List.mem_singleton.2 rfl)
  clear hp
  change claim Lg.std Alg.std τ0 (Gam.of [(15, ⟨true, g2 tPage tI fun x0 x1 => ret1 tI .sh (f15 x0 x1) [q15 x0 x1]⟩), (16, ⟨true, g1 tPage fun x0 => ret1 tI .sh (f16 x0) [q16 x0]⟩), (17, ⟨true, g1 tPage fun x0 => ret1 tPage (.pr .sh (.pr .sh (.pr (.ow .sh) .sh))) (f17 x0) [q17 x0]⟩), (18, ⟨true, g1 tPage fun x0 => ret1 tI .sh (f18 x0) [q18 x0]⟩), (19, ⟨true, g2 tPage tPage fun x0 x1 => ret1 tB .sh (f19 x0 x1) [q19 x0 x1]⟩)]) (O1 10) Go.Proofs.Try.f3 [.dat tPage a] (ret1 tB .sh (f3 a) [q3 a])
  generalize hf15 : f15 = F15
  generalize hq15 : q15 = Q15
  generalize hf16 : f16 = F16
  generalize hq16 : q16 = Q16
  generalize hf17 : f17 = F17
  generalize hq17 : q17 = Q17
  generalize hf18 : f18 = F18
  generalize hq18 : q18 = Q18
  generalize hf19 : f19 = F19
  generalize hq19 : q19 = Q19
  generalize hR : f3 a = R
  generalize q3 a = Q0
  generalize hL : Lg.std = L
  generalize hA : Alg.std = A
  cbv
  subst hL hA
  try dsimp only [Ty.den]
  obtain ⟨k, i, bs, u⟩ := a
  subst hR hf15 hq15 hf16 hq16 hf17 hq17 hf18 hq18 hf19 hq19
  simp only [Lg.std, Alg.std, f3, q15,f15,q71,f71,q16,f16,f18,q18,f19,q19,f17,q17]
  trace_state
  grind
def con3 : Con := ⟨true, g1 tPage r3⟩
theorem ok3 : ConOk pg 3 con3 := ConOk.g1 (Enters.of (by kernel_rfl)) ct3

end Go.Vee
