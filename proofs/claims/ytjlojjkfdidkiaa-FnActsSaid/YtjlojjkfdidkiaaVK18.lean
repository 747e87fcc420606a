/-
  Contracts of functions of the program: what each returns for all arguments that its precondition lets in.
-/
import Derived.Test.YtjlojjkfdidkiaaVK17
set_option linter.unusedSimpArgs false
set_option linter.unusedVariables false
set_option maxRecDepth 100000
set_option maxHeartbeats 4000000
set_option synthInstance.maxHeartbeats 4000000
set_option synthInstance.maxSize 20000000
namespace Go.Vee
open Go
def smD (d : DiskT) : Prop := d.1.length ≤ 70 ∧ (∀ b ∈ d.1, b.length ≤ 100) ∧ d.2.1.length ≤ 100 ∧ (∀ p ∈ d.2.1, p.2.1.length ≤ 100)
theorem okD_sm (d : DiskT) (h : okD d) : smD d := by
  have hl := okD_len d h
  have h1 := h.1
  refine ⟨by omega, fun b hb => by rw [h.2.1 b hb]; omega, by omega, fun p hp => by rw [(h.2.2.1 p hp).2]; omega⟩
theorem okD_new (n : Nat) (h : 8 ≤ n ∧ n ≤ 64) : okD (List.replicate n (List.replicate 96 0), [], ()) := by
  refine ⟨by simpa using h, fun b hb => ?_, fun p hp => by simp at hp, by simp⟩
  obtain ⟨_, rfl⟩ := List.mem_replicate.1 hb
  simp
theorem rep_snoc {α : Type} (n : Nat) (x : α) : List.replicate (n + 1) x = List.replicate n x ++ [x] := List.replicate_succ'
theorem okD_pend (d : DiskT) (h : okD d) : d.2.1.length ≤ 64 ∧ 8 ≤ d.1.length ∧ d.1.length ≤ 64 := by
  have hl := okD_len d h
  have h1 := h.1
  omega
theorem okD_flush (d : DiskT) (h : okD d) : okD (crashD d (whole96 d)) := crashD_ok d _ h (fun i hi => by rw [whole96_at d i hi]; omega)
theorem okD_256 (d : DiskT) (h : okD d) : GoodW d 256 := (okD_each d h).mono (by omega)
theorem smD_tot (d : DiskT) (h : smD d) : tot tDisk d ≤ 20000 := by
  obtain ⟨h1, h2, h3, h4⟩ := h
  rw [tot_disk]
  have e1 := totL_each (tot (.sl (.int .u8))) 100 [] d.1 (fun i hi => by rw [tot_int]; exact h2 _ (getD_mem d.1 [] i hi))
  have e2 := totL_each (tot tPut) 100 putD d.2.1 (fun i hi => by rw [tot_putv]; exact h4 _ (getD_mem d.2.1 putD i hi))
  omega
theorem smD_take (a : List (List Int)) (b : List PutT) (n : Nat) (h : smD (a, b, ())) : smD (a.take n, b, ()) := ⟨by have := h.1; simp only [List.length_take]; dsimp only at this; omega, fun x hx => h.2.1 x (List.mem_of_mem_take hx), h.2.2.1, h.2.2.2⟩
theorem smD_tk (a : List (List Int)) (b : List PutT) (n : Nat) (h : smD (a, b, ())) : smD (a, b.take n, ()) := ⟨h.1, h.2.1, by have := h.2.2.1; simp only [List.length_take]; dsimp only at this; omega, fun x hx => h.2.2.2 x (List.mem_of_mem_take hx)⟩
theorem smD_sec (a : List (List Int)) (b : List PutT) (i : Nat) (v : List Int) (hv : v.length ≤ 100) (h : smD (a, b, ())) : smD (a.set i v, b, ()) := ⟨by have := h.1; simpa using this, fun x hx => by
    rcases List.mem_or_eq_of_mem_set hx with hx | rfl
    · exact h.2.1 x hx
    · exact hv, h.2.2.1, h.2.2.2⟩
theorem smD_put (a : List (List Int)) (b : List PutT) (i : Nat) (v : PutT) (hv : v.2.1.length ≤ 100) (h : smD (a, b, ())) : smD (a, b.set i v, ()) := ⟨h.1, h.2.1, by have := h.2.2.1; simpa using this, fun x hx => by
    rcases List.mem_or_eq_of_mem_set hx with hx | rfl
    · exact h.2.2.2 x hx
    · exact hv⟩
theorem smD_app (a : List (List Int)) (b : List PutT) (v : PutT) (hv : v.2.1.length ≤ 100) (hb : b.length ≤ 64) (h : smD (a, b, ())) : smD (a, b ++ [v], ()) := ⟨h.1, h.2.1, by simp; omega, fun x hx => by
    rcases List.mem_append.1 hx with hx | hx
    · exact h.2.2.2 x hx
    · rw [List.mem_singleton.1 hx]; exact hv⟩
theorem smD_sapp (a : List (List Int)) (b : List PutT) (v : List Int) (hv : v.length ≤ 100) (ha : a.length < 65) (h : smD (a, b, ())) : smD (a ++ [v], b, ()) := ⟨by simp; omega, fun x hx => by
    rcases List.mem_append.1 hx with hx | hx
    · exact h.2.1 x hx
    · rw [List.mem_singleton.1 hx]; exact hv, h.2.2.1, h.2.2.2⟩
theorem smD_at (a : List (List Int)) (b : List PutT) (i : Nat) (h : smD (a, b, ())) : (b.getD i (0, [], ())).2.1.length ≤ 100 := by
  by_cases hi : i < b.length
  · exact h.2.2.2 _ (getD_mem b _ i hi)
  · rw [List.getD_eq_getElem?_getD, List.getElem?_eq_none (by omega)]; simp
theorem drop_all {α : Type} (l : List α) (k : Nat) : (l.drop k).take (l.length - k) = l.drop k := List.take_of_length_le (by simp)


def Q_s_l14Bytes (s : (List (Int)) × (Int) × Unit) : Prop := okSrc 1000000000 s
def P_s_l14Bytes (s : (List (Int)) × (Int) × Unit) (b : List (Int)) (s2 : (List (Int)) × (Int) × Unit) : Prop := b.length = 96 ∧ s2.1 = s.1 ∧ s.2.1 ≤ s2.2.1 ∧ s2.2.1 ≤ s.2.1 + 97
def O_s_l14Bytes : Opt := ⟨fun i => false, fun i => (match decide (i = 4) with | true => [true, false, false, true, true, true, false, false, false, false, false, false, false, false, false, false, false, false, false, false, false, false, false, false, false, false] | false => []), fun i => .done, fun i => none, fun i => (match decide (i = 4) with | true => true | false => false), fun i => [], fun i => false, fun i => none, fun i => none⟩
def τ_s_l14Bytes : Env := Env.of [(2, (.int .i64)), (3, (.int .i64)), (4, .bool), (5, (.int .u8)), (34, (.sl (.int .u8))), (75, (.sl (.int .i64)))] [(103, (.pair (.sl (.int .u8)) (.pair (.int .i64) .unit)))] []

theorem ct_s_l14Bytes (s : (List (Int)) × (Int) × Unit) : CtX pg 90 [.mp (.pair (.sl (.int .u8)) (.pair (.int .i64) .unit)) (.pr .sh (.pr .sh .sh)) s] (.any (.pair (.sl (.int .u8)) (.pair (.pair (.sl (.int .u8)) (.pair (.int .i64) .unit)) .unit)) [Q_s_l14Bytes s] (fun y => [P_s_l14Bytes s y.1 y.2.1]) fun y => ⟨[], [⟨(.sl (.int .u8)), (.ow .sh), y.1⟩], [.mp (.pair (.sl (.int .u8)) (.pair (.int .i64) .unit)) (.pr .sh (.pr .sh .sh)) y.2.1]⟩) := by
  refine ctx_claim (O := O_s_l14Bytes) (τ := τ_s_l14Bytes) (EnvOk.of (by kernel_rfl) (by kernel_rfl)) (GOk.of (.cons ok_s_l1Next (.cons ok_s_l1Pick .nil) : AllOk pg [(76, con_s_l1Next), (74, con_s_l1Pick)])) mixed (Enters.of (by kernel_rfl)) (fn := Go.Proofs.Try.f90) (by kernel_rfl) rfl (by kernel_rfl) ?_
  intro hp hw
  have hq : Q_s_l14Bytes s := hp _ (List.mem_singleton.2 rfl)
  clear hp
  change claimX Lg.std Alg.std τ_s_l14Bytes (Gam.of [(76, con_s_l1Next), (74, con_s_l1Pick)]) O_s_l14Bytes Go.Proofs.Try.f90 [.mp (.pair (.sl (.int .u8)) (.pair (.int .i64) .unit)) (.pr .sh (.pr .sh .sh)) s] (.any (.pair (.sl (.int .u8)) (.pair (.pair (.sl (.int .u8)) (.pair (.int .i64) .unit)) .unit)) [Q_s_l14Bytes s] (fun y => [P_s_l14Bytes s y.1 y.2.1]) fun y => ⟨[], [⟨(.sl (.int .u8)), (.ow .sh), y.1⟩], [.mp (.pair (.sl (.int .u8)) (.pair (.int .i64) .unit)) (.pr .sh (.pr .sh .sh)) y.2.1]⟩)
  delta con_s_l1Next con_s_l1Pick
  generalize hg_F_s_l1Next : F_s_l1Next = g_F_s_l1Next
  generalize hg_B_s_l1Next_s : B_s_l1Next_s = g_B_s_l1Next_s
  generalize hg_Q_s_l1Next : Q_s_l1Next = g_Q_s_l1Next
  generalize hg_F_s_l1Pick : F_s_l1Pick = g_F_s_l1Pick
  generalize hg_B_s_l1Pick_s : B_s_l1Pick_s = g_B_s_l1Pick_s
  generalize hg_Q_s_l1Pick : Q_s_l1Pick = g_Q_s_l1Pick
  generalize hP : P_s_l14Bytes s = P0
  generalize Q_s_l14Bytes s = Q0
  generalize hL : Lg.std = L
  generalize hA : Alg.std = A
  cbv
  subst hL hA
  try dsimp only [Ty.den]
  obtain ⟨s_0, s_1, ⟨⟩⟩ := s
  simp only [Q_s_l14Bytes] at hq
  repeat' (first | intro _ | apply And.intro)
  all_goals first | (with_reducible exact True.intro) | ((fail_if_success (refine lp_v (V := Unit) (fun _ => ⟨[], []⟩) (fun _ => True) (fun _ => 0) () ?_ ?_ ?_)); subst hP hg_F_s_l1Next hg_B_s_l1Next_s hg_Q_s_l1Next hg_F_s_l1Pick hg_B_s_l1Pick_s hg_Q_s_l1Pick; (try dsimp only [Ty.den] at *); (try simp only [Lg.std, Alg.std, List.drop_zero, List.take_length, List.take_succ_cons, List.take_zero, List.take_nil, F_s_l1Next, F_s_l1Pick, B_s_l1Next_s, B_s_l1Pick_s, Q_s_l1Next, Q_s_l1Pick, P_s_l14Bytes] at *); (try dsimp only [Ty.den] at *); (all_goals first | done | ((all_goals (grind [okSrc]))))) | skip
  all_goals (
    refine lp_v (V := (Int) × (Int) × (Nat) × (List Int) × (List Int) × (Int)) (fun ((i, x, N, xs, C, a) : (Int) × (Int) × (Nat) × (List Int) × (List Int) × (Int)) => ⟨[.bptr 0 0, Jk, Jk, .dat (.int .i64) x, .ref (.int .u8) 1 0 [] 0 N, .dat (.int .i64) i, Jk, Jk, Jk, Jk, Jk, Jk, Jk, Jk, Jk, Jk, Jk, Jk, Jk, Jk, Jk, Jk, Jk, Jk, Jk, Jk], [some (.box [.dat (.sl (.int .u8)) C, .dat (.int .i64) a]), some (.row 0 (.int .u8) .sh xs), some (.gh [.bptr 0 0])]⟩) (fun ((i, x, N, xs, C, a) : (Int) × (Int) × (Nat) × (List Int) × (List Int) × (Int)) => N = xs.length ∧ C = s_0 ∧ a = s_1 + 1 + i ∧ 0 ≤ i ∧ i ≤ 96 ∧ (xs.length : Int) = i ∧ 0 ≤ x ∧ x ≤ 255) (fun ((i, x, N, xs, C, a) : (Int) × (Int) × (Nat) × (List Int) × (List Int) × (Int)) => 96 - i.toNat) (0, _, _, _, _, _) rfl ?_ ?_
    · subst hP hg_F_s_l1Next hg_B_s_l1Next_s hg_Q_s_l1Next hg_F_s_l1Pick hg_B_s_l1Pick_s hg_Q_s_l1Pick
      (try simp only [Alg.std, F_s_l1Next, F_s_l1Pick, B_s_l1Next_s, B_s_l1Pick_s, Q_s_l1Next, Q_s_l1Pick, P_s_l14Bytes] at *)
      have hN := nextV_range s_0 s_1 256
      grind [okSrc]
    rintro ⟨i, x, N, xs, C, a⟩ hf I hI
    replace hf : N = xs.length ∧ C = s_0 ∧ a = s_1 + 1 + i ∧ 0 ≤ i ∧ i ≤ 96 ∧ (xs.length : Int) = i ∧ 0 ≤ x ∧ x ≤ 255 := hf
    generalize hL : Lg.std = L
    generalize hA : Alg.std = A
    cbv
    subst hL hA
    try dsimp only [Ty.den]
    subst hI
    obtain ⟨h1, h2, h3, h4, h5, h6, h7, h8⟩ := hf
    have hN := nextV_range
    have hPk := fun c a => pick_3 c a 0 1 3
    repeat' (first | intro _ | apply And.intro)
    all_goals first | (with_reducible exact True.intro) | ((fail_if_success (refine lp_v (V := Unit) (fun _ => ⟨[], []⟩) (fun _ => True) (fun _ => 0) () ?_ ?_ ?_)); (try simp only [Lg.std, Alg.std, List.drop_zero, List.take_length, List.take_succ_cons, List.take_zero, List.take_nil] at *); (first | refine ⟨(_, _, _, _, _, _), rfl, ?_, ?_⟩ | skip); (all_goals (subst hP hg_F_s_l1Next hg_B_s_l1Next_s hg_Q_s_l1Next hg_F_s_l1Pick hg_B_s_l1Pick_s hg_Q_s_l1Pick; (try dsimp only [Ty.den] at *); (try simp only [Lg.std, Alg.std, List.drop_zero, List.take_length, F_s_l1Next, F_s_l1Pick, B_s_l1Next_s, B_s_l1Pick_s, Q_s_l1Next, Q_s_l1Pick, P_s_l14Bytes] at *); (try dsimp only [Ty.den] at *); first | done | ((try simp only [okSrc, wrap8] at *); (all_goals (grind [okSrc])))))) | skip)
def con_s_l14Bytes : Con := ⟨true, g1 (pW (.pair (.sl (.int .u8)) (.pair (.int .i64) .unit)) (.pr .sh (.pr .sh .sh))) fun s => .any (.pair (.sl (.int .u8)) (.pair (.pair (.sl (.int .u8)) (.pair (.int .i64) .unit)) .unit)) [Q_s_l14Bytes s] (fun y => [P_s_l14Bytes s y.1 y.2.1]) fun y => ⟨[], [⟨(.sl (.int .u8)), (.ow .sh), y.1⟩], [.mp (.pair (.sl (.int .u8)) (.pair (.int .i64) .unit)) (.pr .sh (.pr .sh .sh)) y.2.1]⟩, [(.pr .sh (.pr .sh .sh))], false, 0⟩
theorem ok_s_l14Bytes : ConOk pg 90 con_s_l14Bytes := ConOk.g1 (Enters.of (by kernel_rfl)) ct_s_l14Bytes

def F_s_l14New (n : Int) : (List (List (Int))) × (List ((Int) × (List (Int)) × Unit)) × Unit := (List.replicate n.toNat (List.replicate 96 0), [], PUnit.unit)
def Q_s_l14New (n : Int) : Prop := n ≤ 64
def O_s_l14New : Opt := ⟨fun i => false, fun i => (match decide (i = 3) with | true => [true, false, true, true, true, false, false, false, false, false, false, false, false, false, false, false, false, false] | false => []), fun i => (match decide (i = 5) with | true => (.take 0 (.alt 1 (.alt 2 (.alt 3 (.alt 4 (.take 5 (.alt 6 .done .no)) .no) .no) .no) (.alt 2 (.alt 1 (.alt 3 (.alt 4 (.take 5 (.alt 6 .done .no)) .no) .no) (.alt 3 (.take 1 (.alt 4 (.take 5 (.alt 6 .done .no)) .no)) .no)) .no))) | false => .done), fun i => (match decide (i = 5) with | true => some [true, false, true, true, true, false, false, false, false, false, false, false, false, false, false, false, false, false] | false => none), fun i => (match decide (i = 3) with | true => true | false => false), fun i => (match decide (i = 3) with | true => [(3, some 0, (.sl (.int .u8)), (.ow .sh))] | false => []), fun i => false, fun i => none, fun i => none⟩
def τ_s_l14New : Env := Env.of [(2, (.int .i64)), (4, .bool), (22, (.sl (.sl (.int .u8)))), (30, (.pair (.sl (.sl (.int .u8))) (.pair (.sl (.pair (.int .i64) (.pair (.sl (.int .u8)) .unit))) .unit))), (34, (.sl (.int .u8)))] [] []

theorem ct_s_l14New (n : Int) : Ct pg 131 [.dat (.int .i64) n] ⟨[Q_s_l14New n], [⟨(.pair (.sl (.sl (.int .u8))) (.pair (.sl (.pair (.int .i64) (.pair (.sl (.int .u8)) .unit))) .unit)), (.pr (.ow (.ow .sh)) (.pr (.ow (.pr .sh (.pr (.ow .sh) .sh))) .sh)), F_s_l14New n⟩], []⟩ := by
  refine ct_claim (O := O_s_l14New) (τ := τ_s_l14New) (EnvOk.of (by kernel_rfl) (by kernel_rfl)) (GOk.of (.nil : AllOk pg [])) mixed (Enters.of (by kernel_rfl)) (fn := Go.Proofs.Try.f131) (by kernel_rfl) rfl (by kernel_rfl) ?_
  intro hp hw
  have hq : Q_s_l14New n := hp _ (List.mem_singleton.2 rfl)
  clear hp
  change claim Lg.std Alg.std τ_s_l14New (Gam.of []) O_s_l14New Go.Proofs.Try.f131 [.dat (.int .i64) n] ⟨[Q_s_l14New n], [⟨(.pair (.sl (.sl (.int .u8))) (.pair (.sl (.pair (.int .i64) (.pair (.sl (.int .u8)) .unit))) .unit)), (.pr (.ow (.ow .sh)) (.pr (.ow (.pr .sh (.pr (.ow .sh) .sh))) .sh)), F_s_l14New n⟩], []⟩
  generalize hR0 : F_s_l14New n = R0
  generalize Q_s_l14New n = Q0
  generalize hL : Lg.std = L
  generalize hA : Alg.std = A
  cbv
  subst hL hA
  try dsimp only [Ty.den]
  repeat' (first | intro _ | apply And.intro)
  all_goals first | trivial | ((fail_if_success (refine lp_v (V := Unit) (fun _ => ⟨[], []⟩) (fun _ => True) (fun _ => 0) () ?_ ?_ ?_)); subst hR0; (try simp only [Alg.std, F_s_l14New] at *); all_goals grind) | skip
  refine lp_v (V := (Int) × (Nat) × (List (List Int))) (fun ((i, N, xs) : (Int) × (Nat) × (List (List Int))) => ⟨[.dat (.int .i64) n, Jk, .bptr 0 0, .bptr 1 0, .dat (.int .i64) i, Jk, Jk, Jk, Jk, Jk, Jk, Jk, Jk, Jk, Jk, Jk, Jk, Jk], [some (.box [.nilS, .nilS]), some (.box [.ref (.sl (.int .u8)) 2 0 [] 0 N, .nilS]), some (.row 0 (.sl (.int .u8)) (.ow .sh) xs)]⟩) (fun ((i, N, xs) : (Int) × (Nat) × (List (List Int))) => N = xs.length ∧ 0 ≤ i ∧ (i ≤ n ∨ i = 0) ∧ xs = List.replicate i.toNat (List.replicate 96 0)) (fun ((i, N, xs) : (Int) × (Nat) × (List (List Int))) => n.toNat - i.toNat) (0, _, _) rfl ?_ ?_
  · subst hR0
    (try simp only [Alg.std, F_s_l14New] at *)
    all_goals grind
  rintro ⟨i, N, xs⟩ hf I hI
  replace hf : N = xs.length ∧ 0 ≤ i ∧ (i ≤ n ∨ i = 0) ∧ xs = List.replicate i.toNat (List.replicate 96 0) := hf
  generalize hL : Lg.std = L
  generalize hA : Alg.std = A
  cbv
  subst hL hA
  try dsimp only [Ty.den]
  subst hI
  obtain ⟨h1, h2, h3, h4⟩ := hf
  have hrs := rep_snoc i.toNat (List.replicate 96 (0 : Int))
  have hsu : (i + 1).toNat = i.toNat + 1 := by omega
  have hln := List.length_replicate (n := i.toNat) (a := List.replicate 96 (0 : Int))
  simp only [Q_s_l14New] at hq
  repeat' (first | intro _ | apply And.intro)
  all_goals first | (with_reducible exact True.intro) | ((fail_if_success (refine lp_v (V := Unit) (fun _ => ⟨[], []⟩) (fun _ => True) (fun _ => 0) () ?_ ?_ ?_)); (try simp only [Lg.std, Alg.std, List.drop_zero, List.take_length] at *); (try refine ⟨(_, _, _), rfl, ?_, ?_⟩); (all_goals (subst hR0; (try simp only [Lg.std, Alg.std, List.drop_zero, List.take_length, F_s_l14New] at *); first | done | (grind)))) | skip
def con_s_l14New : Con := ⟨true, g1 (pD (.int .i64)) fun n => .one ⟨[Q_s_l14New n], [⟨(.pair (.sl (.sl (.int .u8))) (.pair (.sl (.pair (.int .i64) (.pair (.sl (.int .u8)) .unit))) .unit)), (.pr (.ow (.ow .sh)) (.pr (.ow (.pr .sh (.pr (.ow .sh) .sh))) .sh)), F_s_l14New n⟩], []⟩, [], false, 0⟩
theorem ok_s_l14New : ConOk pg 131 con_s_l14New := ConOk.g1 (Enters.of (by kernel_rfl)) ct_s_l14New

def Q_s_l14Draw (s : (List (Int)) × (Int) × Unit) : Prop := okSrc 100000000 s
def P_s_l14Draw (s : (List (Int)) × (Int) × Unit) (d : (List (List (Int))) × (List ((Int) × (List (Int)) × Unit)) × Unit) (s2 : (List (Int)) × (Int) × Unit) : Prop := okD d ∧ s2.1 = s.1 ∧ s.2.1 ≤ s2.2.1 ∧ s2.2.1 ≤ s.2.1 + 1000
def O_s_l14Draw : Opt := ⟨fun i => false, fun i => (match decide (i = 3) with | true => [true, false, true, true, true, false, false, false, false, false, false, false, false, false, false, false, false, false, false, false, false, false, false, false] | false => []), fun i => .done, fun i => none, fun i => (match decide (i = 3) with | true => true | false => false), fun i => [], fun i => false, fun i => none, fun i => none⟩
def τ_s_l14Draw : Env := Env.of [(2, (.int .i64)), (4, .bool), (5, (.int .u8)), (30, (.pair (.sl (.sl (.int .u8))) (.pair (.sl (.pair (.int .i64) (.pair (.sl (.int .u8)) .unit))) .unit))), (34, (.sl (.int .u8))), (75, (.sl (.int .i64)))] [(80, (.pair (.sl (.sl (.int .u8))) (.pair (.sl (.pair (.int .i64) (.pair (.sl (.int .u8)) .unit))) .unit))), (103, (.pair (.sl (.int .u8)) (.pair (.int .i64) .unit)))] []

theorem ct_s_l14Draw (s : (List (Int)) × (Int) × Unit) : CtX pg 118 [.mp (.pair (.sl (.int .u8)) (.pair (.int .i64) .unit)) (.pr .sh (.pr .sh .sh)) s] (.any (.pair (.pair (.sl (.sl (.int .u8))) (.pair (.sl (.pair (.int .i64) (.pair (.sl (.int .u8)) .unit))) .unit)) (.pair (.pair (.sl (.int .u8)) (.pair (.int .i64) .unit)) .unit)) [Q_s_l14Draw s] (fun y => [P_s_l14Draw s y.1 y.2.1]) fun y => ⟨[], [⟨(.pair (.sl (.sl (.int .u8))) (.pair (.sl (.pair (.int .i64) (.pair (.sl (.int .u8)) .unit))) .unit)), (.pr (.ow (.ow .sh)) (.pr (.ow (.pr .sh (.pr (.ow .sh) .sh))) .sh)), y.1⟩], [.mp (.pair (.sl (.int .u8)) (.pair (.int .i64) .unit)) (.pr .sh (.pr .sh .sh)) y.2.1]⟩) := by
  refine ctx_claim (O := O_s_l14Draw) (τ := τ_s_l14Draw) (EnvOk.of (by kernel_rfl) (by kernel_rfl)) (GOk.of (.cons ok_s_l14Write (.cons ok_s_l14Flush (.cons ok_s_l1Next (.cons ok_s_l1Chance (.cons ok_s_l1Pick (.cons ok_s_l14Bytes (.cons ok_s_l14New .nil)))))) : AllOk pg [(121, con_s_l14Write), (122, con_s_l14Flush), (76, con_s_l1Next), (89, con_s_l1Chance), (74, con_s_l1Pick), (90, con_s_l14Bytes), (131, con_s_l14New)])) mixed (Enters.of (by kernel_rfl)) (fn := Go.Proofs.Try.f118) (by kernel_rfl) rfl (by kernel_rfl) ?_
  intro hp hw
  have hq : Q_s_l14Draw s := hp _ (List.mem_singleton.2 rfl)
  clear hp
  change claimX Lg.std Alg.std τ_s_l14Draw (Gam.of [(121, con_s_l14Write), (122, con_s_l14Flush), (76, con_s_l1Next), (89, con_s_l1Chance), (74, con_s_l1Pick), (90, con_s_l14Bytes), (131, con_s_l14New)]) O_s_l14Draw Go.Proofs.Try.f118 [.mp (.pair (.sl (.int .u8)) (.pair (.int .i64) .unit)) (.pr .sh (.pr .sh .sh)) s] (.any (.pair (.pair (.sl (.sl (.int .u8))) (.pair (.sl (.pair (.int .i64) (.pair (.sl (.int .u8)) .unit))) .unit)) (.pair (.pair (.sl (.int .u8)) (.pair (.int .i64) .unit)) .unit)) [Q_s_l14Draw s] (fun y => [P_s_l14Draw s y.1 y.2.1]) fun y => ⟨[], [⟨(.pair (.sl (.sl (.int .u8))) (.pair (.sl (.pair (.int .i64) (.pair (.sl (.int .u8)) .unit))) .unit)), (.pr (.ow (.ow .sh)) (.pr (.ow (.pr .sh (.pr (.ow .sh) .sh))) .sh)), y.1⟩], [.mp (.pair (.sl (.int .u8)) (.pair (.int .i64) .unit)) (.pr .sh (.pr .sh .sh)) y.2.1]⟩)
  delta con_s_l14Write con_s_l14Flush con_s_l1Next con_s_l1Chance con_s_l1Pick con_s_l14Bytes con_s_l14New
  generalize hg_B_s_l14Write_d : B_s_l14Write_d = g_B_s_l14Write_d
  generalize hg_Q_s_l14Write : Q_s_l14Write = g_Q_s_l14Write
  generalize hg_B_s_l14Flush_d : B_s_l14Flush_d = g_B_s_l14Flush_d
  generalize hg_Q_s_l14Flush : Q_s_l14Flush = g_Q_s_l14Flush
  generalize hg_F_s_l1Next : F_s_l1Next = g_F_s_l1Next
  generalize hg_B_s_l1Next_s : B_s_l1Next_s = g_B_s_l1Next_s
  generalize hg_Q_s_l1Next : Q_s_l1Next = g_Q_s_l1Next
  generalize hg_F_s_l1Chance : F_s_l1Chance = g_F_s_l1Chance
  generalize hg_B_s_l1Chance_s : B_s_l1Chance_s = g_B_s_l1Chance_s
  generalize hg_Q_s_l1Chance : Q_s_l1Chance = g_Q_s_l1Chance
  generalize hg_F_s_l1Pick : F_s_l1Pick = g_F_s_l1Pick
  generalize hg_B_s_l1Pick_s : B_s_l1Pick_s = g_B_s_l1Pick_s
  generalize hg_Q_s_l1Pick : Q_s_l1Pick = g_Q_s_l1Pick
  generalize hg_Q_s_l14Bytes : Q_s_l14Bytes = g_Q_s_l14Bytes
  generalize hg_P_s_l14Bytes : P_s_l14Bytes = g_P_s_l14Bytes
  generalize hg_F_s_l14New : F_s_l14New = g_F_s_l14New
  generalize hg_Q_s_l14New : Q_s_l14New = g_Q_s_l14New
  generalize hP : P_s_l14Draw s = P0
  generalize Q_s_l14Draw s = Q0
  generalize hL : Lg.std = L
  generalize hA : Alg.std = A
  cbv
  subst hL hA
  try dsimp only [Ty.den]
  obtain ⟨s_0, s_1, ⟨⟩⟩ := s
  simp only [Q_s_l14Draw] at hq
  repeat' (first | intro _ | apply And.intro)
  all_goals first | (with_reducible exact True.intro) | ((fail_if_success (refine lp_v (V := Unit) (fun _ => ⟨[], []⟩) (fun _ => True) (fun _ => 0) () ?_ ?_ ?_)); subst hP hg_B_s_l14Write_d hg_Q_s_l14Write hg_B_s_l14Flush_d hg_Q_s_l14Flush hg_F_s_l1Next hg_B_s_l1Next_s hg_Q_s_l1Next hg_F_s_l1Chance hg_B_s_l1Chance_s hg_Q_s_l1Chance hg_F_s_l1Pick hg_B_s_l1Pick_s hg_Q_s_l1Pick hg_Q_s_l14Bytes hg_P_s_l14Bytes hg_F_s_l14New hg_Q_s_l14New; (try dsimp only [Ty.den] at *); (try simp only [Lg.std, Alg.std, List.drop_zero, List.take_length, List.take_succ_cons, List.take_zero, List.take_nil, F_s_l1Next, F_s_l1Chance, F_s_l1Pick, F_s_l14New, B_s_l14Write_d, B_s_l14Flush_d, B_s_l1Next_s, B_s_l1Chance_s, B_s_l1Pick_s, Q_s_l14Write, Q_s_l14Flush, Q_s_l1Next, Q_s_l1Chance, Q_s_l1Pick, Q_s_l14Bytes, Q_s_l14New, P_s_l14Bytes, P_s_l14Draw] at *); (try dsimp only [Ty.den] at *); (all_goals first | done | (have hN := nextV_range; have hPk := pick_5 s_0 s_1 8 8 9 12 64; have hnw := okD_new; (all_goals (grind [okSrc]))))) | skip
  all_goals (
    refine lp_v (V := (Int) × (Nat) × (Nat) × (List (List Int)) × (List PutT) × (List Int) × (Int)) (fun ((n, N, K, xs, ps, C, a) : (Int) × (Nat) × (Nat) × (List (List Int)) × (List PutT) × (List Int) × (Int)) => ⟨[.bptr 0 0, Jk, .bptr 1 0, .bptr 2 0, .dat (.int .i64) n, Jk, Jk, Jk, Jk, Jk, Jk, Jk, Jk, Jk, Jk, Jk, Jk, Jk, Jk, Jk, Jk, Jk, Jk, Jk], [some (.box [.dat (.sl (.int .u8)) C, .dat (.int .i64) a]), some (.box [.nilS, .nilS]), some (.box [.ref (.sl (.int .u8)) 3 0 [] 0 N, .ref (.pair (.int .i64) (.pair (.sl (.int .u8)) .unit)) 4 0 [] 0 K]), some (.row 0 (.sl (.int .u8)) (.ow .sh) xs), some (.row 0 (.pair (.int .i64) (.pair (.sl (.int .u8)) .unit)) (.pr .sh (.pr (.ow .sh) .sh)) ps), some (.gh [.bptr 0 0])]⟩) (fun ((n, N, K, xs, ps, C, a) : (Int) × (Nat) × (Nat) × (List (List Int)) × (List PutT) × (List Int) × (Int)) => N = xs.length ∧ K = ps.length ∧ C = s_0 ∧ s_1 ≤ a ∧ a ≤ s_1 + 900 - 100 * n ∧ 0 ≤ n ∧ n ≤ 5 ∧ okD (xs, ps, PUnit.unit)) (fun ((n, N, K, xs, ps, C, a) : (Int) × (Nat) × (Nat) × (List (List Int)) × (List PutT) × (List Int) × (Int)) => n.toNat) (_, _, _, _, _, _, _) rfl ?_ ?_
    · subst hP hg_B_s_l14Write_d hg_Q_s_l14Write hg_B_s_l14Flush_d hg_Q_s_l14Flush hg_F_s_l1Next hg_B_s_l1Next_s hg_Q_s_l1Next hg_F_s_l1Chance hg_B_s_l1Chance_s hg_Q_s_l1Chance hg_F_s_l1Pick hg_B_s_l1Pick_s hg_Q_s_l1Pick hg_Q_s_l14Bytes hg_P_s_l14Bytes hg_F_s_l14New hg_Q_s_l14New
      (try simp only [Alg.std, List.drop_zero, List.take_length, F_s_l1Next, F_s_l1Chance, F_s_l1Pick, F_s_l14New, B_s_l14Write_d, B_s_l14Flush_d, B_s_l1Next_s, B_s_l1Chance_s, B_s_l1Pick_s, Q_s_l14Write, Q_s_l14Flush, Q_s_l1Next, Q_s_l1Chance, Q_s_l1Pick, Q_s_l14Bytes, Q_s_l14New, P_s_l14Bytes, P_s_l14Draw] at *)
      have hN := nextV_range
      have hPk := pick_5 s_0 s_1 8 8 9 12 64
      have hnw := okD_new
      grind [okSrc]
    rintro ⟨n, N, K, xs, ps, C, a⟩ hf I hI
    replace hf : N = xs.length ∧ K = ps.length ∧ C = s_0 ∧ s_1 ≤ a ∧ a ≤ s_1 + 900 - 100 * n ∧ 0 ≤ n ∧ n ≤ 5 ∧ okD (xs, ps, PUnit.unit) := hf
    generalize hL : Lg.std = L
    generalize hA : Alg.std = A
    cbv
    subst hL hA
    try dsimp only [Ty.den]
    subst hI
    obtain ⟨h1, h2, h3, h4, h5, h6, h7, h8⟩ := hf
    have hN := nextV_range
    have hpn := okD_pend _ h8
    have h256 := okD_256
    have hfl := okD_flush
    have hwr := fun m v => writeD_ok _ m v h8
    repeat' (first | intro _ | apply And.intro | (refine (AllY.mk ?_ : AllY (.pair (.sl (.int .u8)) (.pair (.pair (.sl (.int .u8)) (.pair (.int .i64) .unit)) .unit)) _); rintro ⟨b, ⟨s2_0, s2_1, ⟨⟩⟩, ⟨⟩⟩; generalize hL : Lg.std = L; generalize hA : Alg.std = A; cbv; subst hL hA; try dsimp only [Ty.den]))
    all_goals first | (with_reducible exact True.intro) | ((fail_if_success (refine lp_v (V := Unit) (fun _ => ⟨[], []⟩) (fun _ => True) (fun _ => 0) () ?_ ?_ ?_)); (try simp only [Lg.std, Alg.std, List.drop_zero, List.take_length, List.take_succ_cons, List.take_zero, List.take_nil] at *); (first | refine ⟨(_, _, _, _, _, _, _), rfl, ?_, ?_⟩ | skip); (all_goals (subst hP hg_B_s_l14Write_d hg_Q_s_l14Write hg_B_s_l14Flush_d hg_Q_s_l14Flush hg_F_s_l1Next hg_B_s_l1Next_s hg_Q_s_l1Next hg_F_s_l1Chance hg_B_s_l1Chance_s hg_Q_s_l1Chance hg_F_s_l1Pick hg_B_s_l1Pick_s hg_Q_s_l1Pick hg_Q_s_l14Bytes hg_P_s_l14Bytes hg_F_s_l14New hg_Q_s_l14New; (try dsimp only [Ty.den] at *); (try simp only [Lg.std, Alg.std, List.drop_zero, List.take_length, F_s_l1Next, F_s_l1Chance, F_s_l1Pick, F_s_l14New, B_s_l14Write_d, B_s_l14Flush_d, B_s_l1Next_s, B_s_l1Chance_s, B_s_l1Pick_s, Q_s_l14Write, Q_s_l14Flush, Q_s_l1Next, Q_s_l1Chance, Q_s_l1Pick, Q_s_l14Bytes, Q_s_l14New, P_s_l14Bytes, P_s_l14Draw] at *); (try dsimp only [Ty.den] at *); first | done | ((try simp only [okSrc] at *); (try generalize hwD : writeD (xs, ps, PUnit.unit) (nextV C a 8) b = w at *); (try obtain ⟨w0, w1, ⟨⟩⟩ := w); (try dsimp only at *); (try generalize hcD : crashD (w0, w1, PUnit.unit) (whole96 (w0, w1, PUnit.unit)) = z at *); (try obtain ⟨z0, z1, ⟨⟩⟩ := z); (try dsimp only at *); (all_goals (grind [okSrc])))))) | skip)
def con_s_l14Draw : Con := ⟨true, g1 (pW (.pair (.sl (.int .u8)) (.pair (.int .i64) .unit)) (.pr .sh (.pr .sh .sh))) fun s => .any (.pair (.pair (.sl (.sl (.int .u8))) (.pair (.sl (.pair (.int .i64) (.pair (.sl (.int .u8)) .unit))) .unit)) (.pair (.pair (.sl (.int .u8)) (.pair (.int .i64) .unit)) .unit)) [Q_s_l14Draw s] (fun y => [P_s_l14Draw s y.1 y.2.1]) fun y => ⟨[], [⟨(.pair (.sl (.sl (.int .u8))) (.pair (.sl (.pair (.int .i64) (.pair (.sl (.int .u8)) .unit))) .unit)), (.pr (.ow (.ow .sh)) (.pr (.ow (.pr .sh (.pr (.ow .sh) .sh))) .sh)), y.1⟩], [.mp (.pair (.sl (.int .u8)) (.pair (.int .i64) .unit)) (.pr .sh (.pr .sh .sh)) y.2.1]⟩, [(.pr .sh (.pr .sh .sh))], false, 0⟩
theorem ok_s_l14Draw : ConOk pg 118 con_s_l14Draw := ConOk.g1 (Enters.of (by kernel_rfl)) ct_s_l14Draw

def Q_s_l14Bent (s : (List (Int)) × (Int) × Unit) : Prop := okSrc 10000000 s
def P_s_l14Bent (s : (List (Int)) × (Int) × Unit) (d : (List (List (Int))) × (List ((Int) × (List (Int)) × Unit)) × Unit) (s2 : (List (Int)) × (Int) × Unit) : Prop := smD d ∧ s2.1 = s.1 ∧ s.2.1 ≤ s2.2.1 ∧ s2.2.1 ≤ s.2.1 + 3000
def O_s_l14Bent : Opt := ⟨fun i => false, fun i => (match decide (i = 6) with | true => [false, false, true, true, false, false, false, false, false, false, false, false, false, false, false, false, false, false, false, false, false, false, false, false, false, false, false, false, false, false, false, false, false, false, false, false, false, false, false, false, false, false, false, false, false, false, false, false, false, false, false, false, false, false, false, false, false, false, false, false, false, false, false, false, false, false, false, false, false, false, false, false, false, false, false, false, false, false, false, false, false, false, false, false, false, false, false, false, false] | false => []), fun i => (match decide (i = 7) with | true => (.take 0 (.alt 1 (.alt 2 (.alt 3 (.alt 4 (.take 5 (.alt 6 .done .no)) .no) .no) .no) (.alt 2 (.alt 1 (.alt 3 (.alt 4 (.take 5 (.alt 6 .done .no)) .no) .no) (.alt 3 (.take 1 (.alt 4 (.take 5 (.alt 6 .done .no)) .no)) .no)) .no))) | false => (match decide (i = 20) with | true => (.take 0 (.take 2 (.take 7 (.alt 1 (.alt 3 (.take 4 (.take 5 (.alt 6 (.alt 8 (.take 9 (.alt 10 (.alt 11 (.take 12 (.alt 13 .done .no)) .no) .no)) .no) (.alt 8 (.alt 6 (.take 9 (.alt 10 (.alt 11 (.take 12 (.alt 13 .done .no)) .no) .no)) .no) .no)))) (.alt 8 (.alt 3 (.take 4 (.take 5 (.alt 6 (.take 9 (.alt 10 (.alt 11 (.take 12 (.alt 13 .done .no)) .no) .no)) .no))) .no) .no)) (.alt 3 (.take 4 (.take 5 (.alt 1 (.alt 6 (.alt 8 (.take 9 (.alt 10 (.alt 11 (.take 12 (.alt 13 .done .no)) .no) .no)) .no) (.alt 8 (.alt 6 (.take 9 (.alt 10 (.alt 11 (.take 12 (.alt 13 .done .no)) .no) .no)) .no) .no)) (.alt 6 (.alt 1 (.alt 8 (.take 9 (.alt 10 (.alt 11 (.take 12 (.alt 13 .done .no)) .no) .no)) .no) (.alt 8 (.take 9 (.alt 1 (.alt 10 (.alt 11 (.take 12 (.alt 13 .done .no)) .no) .no) (.alt 10 (.take 1 (.alt 11 (.take 12 (.alt 13 .done .no)) .no)) .no))) .no)) (.alt 8 (.alt 1 (.alt 6 (.take 9 (.alt 10 (.alt 11 (.take 12 (.alt 13 .done .no)) .no) .no)) .no) (.alt 6 (.take 9 (.alt 1 (.alt 10 (.alt 11 (.take 12 (.alt 13 .done .no)) .no) .no) (.alt 10 (.take 1 (.alt 11 (.take 12 (.alt 13 .done .no)) .no)) .no))) .no)) .no))))) (.alt 8 (.alt 1 (.alt 3 (.take 4 (.take 5 (.alt 6 (.take 9 (.alt 10 (.alt 11 (.take 12 (.alt 13 .done .no)) .no) .no)) .no))) .no) (.alt 3 (.take 4 (.take 5 (.alt 1 (.alt 6 (.take 9 (.alt 10 (.alt 11 (.take 12 (.alt 13 .done .no)) .no) .no)) .no) (.alt 6 (.take 9 (.alt 1 (.alt 10 (.alt 11 (.take 12 (.alt 13 .done .no)) .no) .no) (.alt 10 (.take 1 (.alt 11 (.take 12 (.alt 13 .done .no)) .no)) .no))) .no)))) .no)) .no)))))) | false => (match decide (i = 17) with | true => (.take 0 (.take 2 (.take 3 (.take 5 (.alt 1 (.alt 4 (.alt 6 (.take 7 (.take 8 (.alt 9 .done .no))) .no) .no) (.alt 4 (.alt 1 (.alt 6 (.take 7 (.take 8 (.alt 9 .done .no))) .no) (.alt 6 (.take 1 (.take 7 (.take 8 (.alt 9 .done .no)))) .no)) .no)))))) | false => (match decide (i = 14) with | true => (.take 0 (.take 2 (.take 3 (.take 5 (.alt 1 (.alt 4 (.alt 6 (.alt 7 (.take 8 (.take 9 (.alt 10 .done .no))) .no) .no) (.alt 6 (.alt 4 (.alt 7 (.take 8 (.take 9 (.alt 10 .done .no))) .no) .no) .no)) (.alt 4 (.alt 1 (.alt 6 (.alt 7 (.take 8 (.take 9 (.alt 10 .done .no))) .no) .no) (.alt 6 (.alt 1 (.alt 7 (.take 8 (.take 9 (.alt 10 .done .no))) .no) (.alt 7 (.take 1 (.take 8 (.take 9 (.alt 10 .done .no)))) .no)) .no)) (.alt 6 (.alt 1 (.alt 4 (.alt 7 (.take 8 (.take 9 (.alt 10 .done .no))) .no) .no) (.alt 4 (.alt 1 (.alt 7 (.take 8 (.take 9 (.alt 10 .done .no))) .no) (.alt 7 (.take 1 (.take 8 (.take 9 (.alt 10 .done .no)))) .no)) .no)) .no))))))) | false => (match decide (i = 11) with | true => (.take 0 (.take 2 (.take 4 (.take 5 (.alt 1 (.alt 3 (.alt 6 (.alt 7 (.alt 8 (.take 9 (.alt 10 .done .no)) .no) .no) .no) (.alt 6 (.alt 3 (.alt 7 (.alt 8 (.take 9 (.alt 10 .done .no)) .no) .no) .no) .no)) (.alt 3 (.alt 1 (.alt 6 (.alt 7 (.alt 8 (.take 9 (.alt 10 .done .no)) .no) .no) .no) (.alt 6 (.alt 1 (.alt 7 (.alt 8 (.take 9 (.alt 10 .done .no)) .no) .no) (.alt 7 (.alt 1 (.alt 8 (.take 9 (.alt 10 .done .no)) .no) (.alt 8 (.take 1 (.take 9 (.alt 10 .done .no))) .no)) .no)) .no)) (.alt 6 (.alt 1 (.alt 3 (.alt 7 (.alt 8 (.take 9 (.alt 10 .done .no)) .no) .no) .no) (.alt 3 (.alt 1 (.alt 7 (.alt 8 (.take 9 (.alt 10 .done .no)) .no) .no) (.alt 7 (.alt 1 (.alt 8 (.take 9 (.alt 10 .done .no)) .no) (.alt 8 (.take 1 (.take 9 (.alt 10 .done .no))) .no)) .no)) .no)) .no))))))) | false => .done))))), fun i => none, fun i => (match decide (i = 6) with | true => true | false => false), fun i => [], fun i => false, fun i => none, fun i => none⟩
def τ_s_l14Bent : Env := Env.of [(2, (.int .i64)), (3, (.int .i64)), (4, .bool), (22, (.sl (.sl (.int .u8)))), (28, (.sl (.pair (.int .i64) (.pair (.sl (.int .u8)) .unit)))), (30, (.pair (.sl (.sl (.int .u8))) (.pair (.sl (.pair (.int .i64) (.pair (.sl (.int .u8)) .unit))) .unit))), (34, (.sl (.int .u8))), (75, (.sl (.int .i64))), (120, (.pair (.int .i64) (.pair (.sl (.int .u8)) .unit)))] [(103, (.pair (.sl (.int .u8)) (.pair (.int .i64) .unit)))] []

theorem ct_s_l14Bent (s : (List (Int)) × (Int) × Unit) : CtX pg 88 [.mp (.pair (.sl (.int .u8)) (.pair (.int .i64) .unit)) (.pr .sh (.pr .sh .sh)) s] (.any (.pair (.pair (.sl (.sl (.int .u8))) (.pair (.sl (.pair (.int .i64) (.pair (.sl (.int .u8)) .unit))) .unit)) (.pair (.pair (.sl (.int .u8)) (.pair (.int .i64) .unit)) .unit)) [Q_s_l14Bent s] (fun y => [P_s_l14Bent s y.1 y.2.1]) fun y => ⟨[], [⟨(.pair (.sl (.sl (.int .u8))) (.pair (.sl (.pair (.int .i64) (.pair (.sl (.int .u8)) .unit))) .unit)), (.pr .sh (.pr .sh .sh)), y.1⟩], [.mp (.pair (.sl (.int .u8)) (.pair (.int .i64) .unit)) (.pr .sh (.pr .sh .sh)) y.2.1]⟩) := by
  refine ctx_claim (O := O_s_l14Bent) (τ := τ_s_l14Bent) (EnvOk.of (by kernel_rfl) (by kernel_rfl)) (GOk.of (.cons ok_s_l1Next (.cons ok_s_l1Chance (.cons ok_s_l1Pick (.cons ok_s_l1Some (.cons ok_s_l14Bytes (.cons ok_s_l14Draw .nil))))) : AllOk pg [(76, con_s_l1Next), (89, con_s_l1Chance), (74, con_s_l1Pick), (73, con_s_l1Some), (90, con_s_l14Bytes), (118, con_s_l14Draw)])) mixed (Enters.of (by kernel_rfl)) (fn := Go.Proofs.Try.f88) (by kernel_rfl) rfl (by kernel_rfl) ?_
  intro hp hw
  have hq : Q_s_l14Bent s := hp _ (List.mem_singleton.2 rfl)
  clear hp
  change claimX Lg.std Alg.std τ_s_l14Bent (Gam.of [(76, con_s_l1Next), (89, con_s_l1Chance), (74, con_s_l1Pick), (73, con_s_l1Some), (90, con_s_l14Bytes), (118, con_s_l14Draw)]) O_s_l14Bent Go.Proofs.Try.f88 [.mp (.pair (.sl (.int .u8)) (.pair (.int .i64) .unit)) (.pr .sh (.pr .sh .sh)) s] (.any (.pair (.pair (.sl (.sl (.int .u8))) (.pair (.sl (.pair (.int .i64) (.pair (.sl (.int .u8)) .unit))) .unit)) (.pair (.pair (.sl (.int .u8)) (.pair (.int .i64) .unit)) .unit)) [Q_s_l14Bent s] (fun y => [P_s_l14Bent s y.1 y.2.1]) fun y => ⟨[], [⟨(.pair (.sl (.sl (.int .u8))) (.pair (.sl (.pair (.int .i64) (.pair (.sl (.int .u8)) .unit))) .unit)), (.pr .sh (.pr .sh .sh)), y.1⟩], [.mp (.pair (.sl (.int .u8)) (.pair (.int .i64) .unit)) (.pr .sh (.pr .sh .sh)) y.2.1]⟩)
  delta con_s_l1Next con_s_l1Chance con_s_l1Pick con_s_l1Some con_s_l14Bytes con_s_l14Draw
  generalize hg_F_s_l1Next : F_s_l1Next = g_F_s_l1Next
  generalize hg_B_s_l1Next_s : B_s_l1Next_s = g_B_s_l1Next_s
  generalize hg_Q_s_l1Next : Q_s_l1Next = g_Q_s_l1Next
  generalize hg_F_s_l1Chance : F_s_l1Chance = g_F_s_l1Chance
  generalize hg_B_s_l1Chance_s : B_s_l1Chance_s = g_B_s_l1Chance_s
  generalize hg_Q_s_l1Chance : Q_s_l1Chance = g_Q_s_l1Chance
  generalize hg_F_s_l1Pick : F_s_l1Pick = g_F_s_l1Pick
  generalize hg_B_s_l1Pick_s : B_s_l1Pick_s = g_B_s_l1Pick_s
  generalize hg_Q_s_l1Pick : Q_s_l1Pick = g_Q_s_l1Pick
  generalize hg_F_s_l1Some : F_s_l1Some = g_F_s_l1Some
  generalize hg_B_s_l1Some_s : B_s_l1Some_s = g_B_s_l1Some_s
  generalize hg_Q_s_l1Some : Q_s_l1Some = g_Q_s_l1Some
  generalize hg_Q_s_l14Bytes : Q_s_l14Bytes = g_Q_s_l14Bytes
  generalize hg_P_s_l14Bytes : P_s_l14Bytes = g_P_s_l14Bytes
  generalize hg_Q_s_l14Draw : Q_s_l14Draw = g_Q_s_l14Draw
  generalize hg_P_s_l14Draw : P_s_l14Draw = g_P_s_l14Draw
  generalize hP : P_s_l14Bent s = P0
  generalize Q_s_l14Bent s = Q0
  generalize hL : Lg.std = L
  generalize hA : Alg.std = A
  cbv
  subst hL hA
  try dsimp only [Ty.den]
  obtain ⟨s_0, s_1, ⟨⟩⟩ := s
  simp only [Q_s_l14Bent] at hq
  repeat' (first | intro _ | apply And.intro | (refine (AllY.mk ?_ : AllY (.pair (.pair (.sl (.sl (.int .u8))) (.pair (.sl (.pair (.int .i64) (.pair (.sl (.int .u8)) .unit))) .unit)) (.pair (.pair (.sl (.int .u8)) (.pair (.int .i64) .unit)) .unit)) _); rintro ⟨⟨d0, d1, ⟨⟩⟩, ⟨s2_0, s2_1, ⟨⟩⟩, ⟨⟩⟩; generalize hL : Lg.std = L; generalize hA : Alg.std = A; cbv; subst hL hA; try dsimp only [Ty.den]) | (refine (AllY.mk ?_ : AllY (.pair (.sl (.int .u8)) (.pair (.pair (.sl (.int .u8)) (.pair (.int .i64) .unit)) .unit)) _); rintro ⟨b, ⟨s3_0, s3_1, ⟨⟩⟩, ⟨⟩⟩; generalize hL : Lg.std = L; generalize hA : Alg.std = A; cbv; subst hL hA; try dsimp only [Ty.den]))
  all_goals first | (with_reducible exact True.intro) | ((fail_if_success (refine lp_v (V := Unit) (fun _ => ⟨[], []⟩) (fun _ => True) (fun _ => 0) () ?_ ?_ ?_)); subst hP hg_F_s_l1Next hg_B_s_l1Next_s hg_Q_s_l1Next hg_F_s_l1Chance hg_B_s_l1Chance_s hg_Q_s_l1Chance hg_F_s_l1Pick hg_B_s_l1Pick_s hg_Q_s_l1Pick hg_F_s_l1Some hg_B_s_l1Some_s hg_Q_s_l1Some hg_Q_s_l14Bytes hg_P_s_l14Bytes hg_Q_s_l14Draw hg_P_s_l14Draw; (try dsimp only [Ty.den] at *); (try simp only [Lg.std, Alg.std, List.drop_zero, List.take_length, List.take_succ_cons, List.take_zero, List.take_nil, F_s_l1Next, F_s_l1Chance, F_s_l1Pick, F_s_l1Some, B_s_l1Next_s, B_s_l1Chance_s, B_s_l1Pick_s, B_s_l1Some_s, Q_s_l1Next, Q_s_l1Chance, Q_s_l1Pick, Q_s_l1Some, Q_s_l14Bytes, Q_s_l14Draw, P_s_l14Bytes, P_s_l14Draw, P_s_l14Bent] at *); (try dsimp only [Ty.den] at *); (all_goals first | done | (have hokDxsm := okD_sm; have hsmDxtk := smD_tk; have hsmDxtake := smD_take; have hsmDxsec := smD_sec; have hsmDxput := smD_put; have hsmDxapp := smD_app; have hsmDxsapp := smD_sapp; have hsmDxat := smD_at; have hokDxpend := okD_pend; have hN := nextV_range; have hL := someV_len; have hP2 := pick_2; have hP3 := pick_3; (try simp only [List.drop_zero, List.length_append, List.length_take, List.length_set, List.length_drop] at *); (try have hat := hsmDxat d0 d1 (nextV s2_0 (s2_1 + 2) (List.length d1)).toNat); (try generalize d1.getD (nextV s2_0 (s2_1 + 2) (List.length d1)).toNat (0, [], PUnit.unit) = xa at *); (try obtain ⟨xa0, xa1, ⟨⟩⟩ := xa); (try dsimp only at *); (all_goals (grind [okSrc]))))) | skip
  all_goals (
    rename_i hPd _ _ _ _ _ _
    refine lp_v (V := (Nat) × (Nat) × (List (List Int)) × (List PutT) × (List Int) × (Int)) (fun ((N, K, xs, ps, C, a) : (Nat) × (Nat) × (List (List Int)) × (List PutT) × (List Int) × (Int)) => ⟨[Jk, Jk, .bptr 0 0, .bptr 1 0, Jk, Jk, Jk, Jk, Jk, Jk, Jk, Jk, Jk, Jk, Jk, Jk, Jk, Jk, Jk, Jk, Jk, Jk, Jk, Jk, Jk, Jk, Jk, Jk, Jk, Jk, Jk, Jk, Jk, Jk, Jk, Jk, Jk, Jk, Jk, Jk, Jk, Jk, Jk, Jk, Jk, Jk, Jk, Jk, Jk, Jk, Jk, Jk, Jk, Jk, Jk, Jk, Jk, Jk, Jk, Jk, Jk, Jk, Jk, Jk, Jk, Jk, Jk, Jk, Jk, Jk, Jk, Jk, Jk, Jk, Jk, Jk, Jk, Jk, Jk, Jk, Jk, Jk, Jk, Jk, Jk, Jk, Jk, Jk, Jk], [some (.box [.nilS, .nilS]), some (.box [.ref (.sl (.int .u8)) 2 0 [] 0 N, .ref (.pair (.int .i64) (.pair (.sl (.int .u8)) .unit)) 3 0 [] 0 K]), some (.row 0 (.sl (.int .u8)) (.ow .sh) xs), some (.row 0 (.pair (.int .i64) (.pair (.sl (.int .u8)) .unit)) (.pr .sh (.pr (.ow .sh) .sh)) ps), some (.box [.dat (.sl (.int .u8)) C, .dat (.int .i64) a]), some (.gh [.bptr 4 0])]⟩) (fun ((N, K, xs, ps, C, a) : (Nat) × (Nat) × (List (List Int)) × (List PutT) × (List Int) × (Int)) => N = xs.length ∧ K = ps.length ∧ C = s_0 ∧ s_1 ≤ a ∧ a ≤ s_1 + 1100 ∧ smD (xs, ps, PUnit.unit) ∧ xs.length ≤ 65) (fun ((N, K, xs, ps, C, a) : (Nat) × (Nat) × (List (List Int)) × (List PutT) × (List Int) × (Int)) => 65 - xs.length) (_, _, _, _, _, _) rfl ?_ ?_
    · subst hP hg_F_s_l1Next hg_B_s_l1Next_s hg_Q_s_l1Next hg_F_s_l1Chance hg_B_s_l1Chance_s hg_Q_s_l1Chance hg_F_s_l1Pick hg_B_s_l1Pick_s hg_Q_s_l1Pick hg_F_s_l1Some hg_B_s_l1Some_s hg_Q_s_l1Some hg_Q_s_l14Bytes hg_P_s_l14Bytes hg_Q_s_l14Draw hg_P_s_l14Draw
      (try dsimp only [Ty.den] at *)
      (try simp only [Alg.std, List.drop_zero, List.take_length, F_s_l1Next, F_s_l1Chance, F_s_l1Pick, F_s_l1Some, B_s_l1Next_s, B_s_l1Chance_s, B_s_l1Pick_s, B_s_l1Some_s, Q_s_l1Next, Q_s_l1Chance, Q_s_l1Pick, Q_s_l1Some, Q_s_l14Bytes, Q_s_l14Draw, P_s_l14Bytes, P_s_l14Draw, P_s_l14Bent] at *)
      have hokDxsm := okD_sm; have hsmDxtk := smD_tk; have hsmDxtake := smD_take; have hsmDxsec := smD_sec; have hsmDxput := smD_put; have hsmDxapp := smD_app; have hsmDxsapp := smD_sapp; have hsmDxat := smD_at; have hokDxpend := okD_pend; have hN := nextV_range; have hL := someV_len; have hP2 := pick_2; have hP3 := pick_3; 
      grind [okSrc]
    rintro ⟨N, K, xs, ps, C, a⟩ hf I hI
    replace hf : N = xs.length ∧ K = ps.length ∧ C = s_0 ∧ s_1 ≤ a ∧ a ≤ s_1 + 1100 ∧ smD (xs, ps, PUnit.unit) ∧ xs.length ≤ 65 := hf
    generalize hL : Lg.std = L
    generalize hA : Alg.std = A
    cbv
    subst hL hA
    try dsimp only [Ty.den]
    subst hI
    obtain ⟨h1, h2, h3, h4, h5, h6, h7⟩ := hf
    have hsa := fun v hv h => smD_sapp xs ps v hv h h6
    repeat' (first | intro _ | apply And.intro)
    all_goals first | (with_reducible exact True.intro) | ((fail_if_success (refine lp_v (V := Unit) (fun _ => ⟨[], []⟩) (fun _ => True) (fun _ => 0) () ?_ ?_ ?_)); (try simp only [Lg.std, Alg.std, List.drop_zero, List.take_length, List.take_succ_cons, List.take_zero, List.take_nil] at *); (first | refine ⟨(_, _, _, _, _, _), rfl, ?_, ?_⟩ | skip); (all_goals (subst hP hg_F_s_l1Next hg_B_s_l1Next_s hg_Q_s_l1Next hg_F_s_l1Chance hg_B_s_l1Chance_s hg_Q_s_l1Chance hg_F_s_l1Pick hg_B_s_l1Pick_s hg_Q_s_l1Pick hg_F_s_l1Some hg_B_s_l1Some_s hg_Q_s_l1Some hg_Q_s_l14Bytes hg_P_s_l14Bytes hg_Q_s_l14Draw hg_P_s_l14Draw; (try dsimp only [Ty.den] at *); (try simp only [Lg.std, Alg.std, List.drop_zero, List.take_length, F_s_l1Next, F_s_l1Chance, F_s_l1Pick, F_s_l1Some, B_s_l1Next_s, B_s_l1Chance_s, B_s_l1Pick_s, B_s_l1Some_s, Q_s_l1Next, Q_s_l1Chance, Q_s_l1Pick, Q_s_l1Some, Q_s_l14Bytes, Q_s_l14Draw, P_s_l14Bytes, P_s_l14Draw, P_s_l14Bent] at *); (try dsimp only [Ty.den] at *); first | done | ((try simp only [okSrc, List.length_append, List.length_replicate, List.length_cons, List.length_nil] at *); (all_goals (grind [okSrc, List.length_append, List.length_replicate])))))) | skip)
def con_s_l14Bent : Con := ⟨true, g1 (pW (.pair (.sl (.int .u8)) (.pair (.int .i64) .unit)) (.pr .sh (.pr .sh .sh))) fun s => .any (.pair (.pair (.sl (.sl (.int .u8))) (.pair (.sl (.pair (.int .i64) (.pair (.sl (.int .u8)) .unit))) .unit)) (.pair (.pair (.sl (.int .u8)) (.pair (.int .i64) .unit)) .unit)) [Q_s_l14Bent s] (fun y => [P_s_l14Bent s y.1 y.2.1]) fun y => ⟨[], [⟨(.pair (.sl (.sl (.int .u8))) (.pair (.sl (.pair (.int .i64) (.pair (.sl (.int .u8)) .unit))) .unit)), (.pr .sh (.pr .sh .sh)), y.1⟩], [.mp (.pair (.sl (.int .u8)) (.pair (.int .i64) .unit)) (.pr .sh (.pr .sh .sh)) y.2.1]⟩, [(.pr .sh (.pr .sh .sh))], false, 0⟩
theorem ok_s_l14Bent : ConOk pg 88 con_s_l14Bent := ConOk.g1 (Enters.of (by kernel_rfl)) ct_s_l14Bent

def Q_s_DrawDoActs (code : List (Int)) : Prop := code.length ≤ 1048640
def P_s_DrawDoActs (code : List (Int)) (d : (List (List (Int))) × (List ((Int) × (List (Int)) × Unit)) × Unit) (l : List ((Int) × ((Int) × (List (Int)) × Unit) × Unit)) : Prop := smD d ∧ l.length ≤ 100
def O_s_DrawDoActs : Opt := ⟨fun i => false, fun i => (match decide (i = 7) with | true => [false, false, true, false, true, true, true, true, false, false, false, false, false, false, false, false, false, false, false, false, false, false, false, false, false, false, false, false, false, false, false, false, false, false, false, false, false, false, false, false, false, false, false, false, false, false, false, false, false, false, false, false, false] | false => []), fun i => .done, fun i => none, fun i => (match decide (i = 7) with | true => true | false => false), fun i => [], fun i => false, fun i => none, fun i => none⟩
def τ_s_DrawDoActs : Env := Env.of [(2, (.int .i64)), (3, (.int .i64)), (4, .bool), (30, (.pair (.sl (.sl (.int .u8))) (.pair (.sl (.pair (.int .i64) (.pair (.sl (.int .u8)) .unit))) .unit))), (34, (.sl (.int .u8))), (66, (.sl (.pair (.int .i64) (.pair (.pair (.int .i64) (.pair (.sl (.int .u8)) .unit)) .unit)))), (75, (.sl (.int .i64))), (120, (.pair (.int .i64) (.pair (.sl (.int .u8)) .unit))), (122, (.pair (.int .i64) (.pair (.pair (.int .i64) (.pair (.sl (.int .u8)) .unit)) .unit)))] [(103, (.pair (.sl (.int .u8)) (.pair (.int .i64) .unit)))] []

theorem ct_s_DrawDoActs (code : List (Int)) : CtX pg 38 [.dat (.sl (.int .u8)) code] (.any (.pair (.pair (.sl (.sl (.int .u8))) (.pair (.sl (.pair (.int .i64) (.pair (.sl (.int .u8)) .unit))) .unit)) (.pair (.sl (.pair (.int .i64) (.pair (.pair (.int .i64) (.pair (.sl (.int .u8)) .unit)) .unit))) .unit)) [Q_s_DrawDoActs code] (fun y => [P_s_DrawDoActs code y.1 y.2.1]) fun y => ⟨[], [⟨(.pair (.sl (.sl (.int .u8))) (.pair (.sl (.pair (.int .i64) (.pair (.sl (.int .u8)) .unit))) .unit)), (.pr .sh (.pr .sh .sh)), y.1⟩, ⟨(.sl (.pair (.int .i64) (.pair (.pair (.int .i64) (.pair (.sl (.int .u8)) .unit)) .unit))), .sh, y.2.1⟩], []⟩) := by
  refine ctx_claim (O := O_s_DrawDoActs) (τ := τ_s_DrawDoActs) (EnvOk.of (by kernel_rfl) (by kernel_rfl)) (GOk.of (.cons ok_s_l1Source (.cons ok_s_l1Next (.cons ok_s_l1Chance (.cons ok_s_l1Pick (.cons ok_s_l14Bytes (.cons ok_s_l14Bent .nil))))) : AllOk pg [(87, con_s_l1Source), (76, con_s_l1Next), (89, con_s_l1Chance), (74, con_s_l1Pick), (90, con_s_l14Bytes), (88, con_s_l14Bent)])) mixed (Enters.of (by kernel_rfl)) (fn := Go.Proofs.Try.f38) (by kernel_rfl) rfl (by kernel_rfl) ?_
  intro hp hw
  have hq : Q_s_DrawDoActs code := hp _ (List.mem_singleton.2 rfl)
  clear hp
  change claimX Lg.std Alg.std τ_s_DrawDoActs (Gam.of [(87, con_s_l1Source), (76, con_s_l1Next), (89, con_s_l1Chance), (74, con_s_l1Pick), (90, con_s_l14Bytes), (88, con_s_l14Bent)]) O_s_DrawDoActs Go.Proofs.Try.f38 [.dat (.sl (.int .u8)) code] (.any (.pair (.pair (.sl (.sl (.int .u8))) (.pair (.sl (.pair (.int .i64) (.pair (.sl (.int .u8)) .unit))) .unit)) (.pair (.sl (.pair (.int .i64) (.pair (.pair (.int .i64) (.pair (.sl (.int .u8)) .unit)) .unit))) .unit)) [Q_s_DrawDoActs code] (fun y => [P_s_DrawDoActs code y.1 y.2.1]) fun y => ⟨[], [⟨(.pair (.sl (.sl (.int .u8))) (.pair (.sl (.pair (.int .i64) (.pair (.sl (.int .u8)) .unit))) .unit)), (.pr .sh (.pr .sh .sh)), y.1⟩, ⟨(.sl (.pair (.int .i64) (.pair (.pair (.int .i64) (.pair (.sl (.int .u8)) .unit)) .unit))), .sh, y.2.1⟩], []⟩)
  delta con_s_l1Source con_s_l1Next con_s_l1Chance con_s_l1Pick con_s_l14Bytes con_s_l14Bent
  generalize hg_F_s_l1Source : F_s_l1Source = g_F_s_l1Source
  generalize hg_Q_s_l1Source : Q_s_l1Source = g_Q_s_l1Source
  generalize hg_F_s_l1Next : F_s_l1Next = g_F_s_l1Next
  generalize hg_B_s_l1Next_s : B_s_l1Next_s = g_B_s_l1Next_s
  generalize hg_Q_s_l1Next : Q_s_l1Next = g_Q_s_l1Next
  generalize hg_F_s_l1Chance : F_s_l1Chance = g_F_s_l1Chance
  generalize hg_B_s_l1Chance_s : B_s_l1Chance_s = g_B_s_l1Chance_s
  generalize hg_Q_s_l1Chance : Q_s_l1Chance = g_Q_s_l1Chance
  generalize hg_F_s_l1Pick : F_s_l1Pick = g_F_s_l1Pick
  generalize hg_B_s_l1Pick_s : B_s_l1Pick_s = g_B_s_l1Pick_s
  generalize hg_Q_s_l1Pick : Q_s_l1Pick = g_Q_s_l1Pick
  generalize hg_Q_s_l14Bytes : Q_s_l14Bytes = g_Q_s_l14Bytes
  generalize hg_P_s_l14Bytes : P_s_l14Bytes = g_P_s_l14Bytes
  generalize hg_Q_s_l14Bent : Q_s_l14Bent = g_Q_s_l14Bent
  generalize hg_P_s_l14Bent : P_s_l14Bent = g_P_s_l14Bent
  generalize hP : P_s_DrawDoActs code = P0
  generalize Q_s_DrawDoActs code = Q0
  generalize hL : Lg.std = L
  generalize hA : Alg.std = A
  cbv
  subst hL hA
  try dsimp only [Ty.den]
  simp only [Q_s_DrawDoActs] at hq
  repeat' (first | intro _ | apply And.intro | (refine (AllY.mk ?_ : AllY (.pair (.pair (.sl (.sl (.int .u8))) (.pair (.sl (.pair (.int .i64) (.pair (.sl (.int .u8)) .unit))) .unit)) (.pair (.pair (.sl (.int .u8)) (.pair (.int .i64) .unit)) .unit)) _); rintro ⟨⟨d0, d1, ⟨⟩⟩, ⟨s2_0, s2_1, ⟨⟩⟩, ⟨⟩⟩; generalize hL : Lg.std = L; generalize hA : Alg.std = A; cbv; subst hL hA; try dsimp only [Ty.den]))
  all_goals first | (with_reducible exact True.intro) | ((fail_if_success (refine lp_v (V := Unit) (fun _ => ⟨[], []⟩) (fun _ => True) (fun _ => 0) () ?_ ?_ ?_)); subst hP hg_F_s_l1Source hg_Q_s_l1Source hg_F_s_l1Next hg_B_s_l1Next_s hg_Q_s_l1Next hg_F_s_l1Chance hg_B_s_l1Chance_s hg_Q_s_l1Chance hg_F_s_l1Pick hg_B_s_l1Pick_s hg_Q_s_l1Pick hg_Q_s_l14Bytes hg_P_s_l14Bytes hg_Q_s_l14Bent hg_P_s_l14Bent; (try dsimp only [Ty.den] at *); (try simp only [Lg.std, Alg.std, List.drop_zero, List.take_length, List.take_succ_cons, List.take_zero, List.take_nil, F_s_l1Source, F_s_l1Next, F_s_l1Chance, F_s_l1Pick, B_s_l1Next_s, B_s_l1Chance_s, B_s_l1Pick_s, Q_s_l1Source, Q_s_l1Next, Q_s_l1Chance, Q_s_l1Pick, Q_s_l14Bytes, Q_s_l14Bent, P_s_l14Bytes, P_s_l14Bent, P_s_DrawDoActs] at *); (try dsimp only [Ty.den] at *); (all_goals first | done | (have hN := nextV_range; (all_goals (grind [okSrc]))))) | skip
  all_goals (
    refine lp_v (V := (Int) × (Nat) × (List ActT) × (List Int) × (Int) × (List (List Int)) × (List PutT)) (fun ((n, N, xs, C, a, D0, D1) : (Int) × (Nat) × (List ActT) × (List Int) × (Int) × (List (List Int)) × (List PutT)) => ⟨[Jk, Jk, .bptr 0 0, Jk, .bptr 1 0, .bptr 2 0, .ref (.pair (.int .i64) (.pair (.pair (.int .i64) (.pair (.sl (.int .u8)) .unit)) .unit)) 3 0 [] 0 N, .dat (.int .i64) n, Jk, Jk, Jk, Jk, Jk, Jk, Jk, Jk, Jk, Jk, Jk, Jk, Jk, Jk, Jk, Jk, Jk, Jk, Jk, Jk, Jk, Jk, Jk, Jk, Jk, Jk, Jk, Jk, Jk, Jk, Jk, Jk, Jk, Jk, Jk, Jk, Jk, Jk, Jk, Jk, Jk, Jk, Jk, Jk, Jk], [some (.box [.nilS, .nilS]), some (.box [.dat (.sl (.int .u8)) C, .dat (.int .i64) a]), some (.box [.dat (.sl (.sl (.int .u8))) D0, .dat (.sl (.pair (.int .i64) (.pair (.sl (.int .u8)) .unit))) D1]), some (.row 0 (.pair (.int .i64) (.pair (.pair (.int .i64) (.pair (.sl (.int .u8)) .unit)) .unit)) (.pr .sh (.pr (.pr .sh (.pr (.ow .sh) .sh)) .sh)) xs)]⟩) (fun ((n, N, xs, C, a, D0, D1) : (Int) × (Nat) × (List ActT) × (List Int) × (Int) × (List (List Int)) × (List PutT)) => N = xs.length ∧ C.length ≤ 1048640 ∧ 0 ≤ a ∧ a ≤ 20000 - 110 * n ∧ smD (D0, D1, PUnit.unit) ∧ 0 ≤ n ∧ n ≤ 81 ∧ (xs.length : Int) ≤ 81 - n) (fun ((n, N, xs, C, a, D0, D1) : (Int) × (Nat) × (List ActT) × (List Int) × (Int) × (List (List Int)) × (List PutT)) => n.toNat) (_, _, _, _, _, _, _) rfl ?_ ?_
    · subst hP hg_F_s_l1Source hg_Q_s_l1Source hg_F_s_l1Next hg_B_s_l1Next_s hg_Q_s_l1Next hg_F_s_l1Chance hg_B_s_l1Chance_s hg_Q_s_l1Chance hg_F_s_l1Pick hg_B_s_l1Pick_s hg_Q_s_l1Pick hg_Q_s_l14Bytes hg_P_s_l14Bytes hg_Q_s_l14Bent hg_P_s_l14Bent
      (try dsimp only [Ty.den] at *)
      (try simp only [Alg.std, List.drop_zero, List.take_length, List.take_succ_cons, List.take_zero, List.take_nil, F_s_l1Source, F_s_l1Next, F_s_l1Chance, F_s_l1Pick, B_s_l1Next_s, B_s_l1Chance_s, B_s_l1Pick_s, Q_s_l1Source, Q_s_l1Next, Q_s_l1Chance, Q_s_l1Pick, Q_s_l14Bytes, Q_s_l14Bent, P_s_l14Bytes, P_s_l14Bent, P_s_DrawDoActs] at *)
      have hN := nextV_range
      have hP2 := pick_2
      grind [okSrc]
    rintro ⟨n, N, xs, C, a, D0, D1⟩ hf I hI
    replace hf : N = xs.length ∧ C.length ≤ 1048640 ∧ 0 ≤ a ∧ a ≤ 20000 - 110 * n ∧ smD (D0, D1, PUnit.unit) ∧ 0 ≤ n ∧ n ≤ 81 ∧ (xs.length : Int) ≤ 81 - n := hf
    generalize hL : Lg.std = L
    generalize hA : Alg.std = A
    cbv
    subst hL hA
    try dsimp only [Ty.den]
    subst hI
    obtain ⟨h1, h2, h3, h4, h5, h6, h7, h8⟩ := hf
    have hN := nextV_range
    repeat' (first | intro _ | apply And.intro | (refine (AllY.mk ?_ : AllY (.pair (.sl (.int .u8)) (.pair (.pair (.sl (.int .u8)) (.pair (.int .i64) .unit)) .unit)) _); rintro ⟨b, ⟨s3_0, s3_1, ⟨⟩⟩, ⟨⟩⟩; generalize hL : Lg.std = L; generalize hA : Alg.std = A; cbv; subst hL hA; try dsimp only [Ty.den]))
    all_goals first | (with_reducible exact True.intro) | ((fail_if_success (refine lp_v (V := Unit) (fun _ => ⟨[], []⟩) (fun _ => True) (fun _ => 0) () ?_ ?_ ?_)); (try simp only [Lg.std, Alg.std, List.drop_zero, List.take_length, List.take_succ_cons, List.take_zero, List.take_nil] at *); (first | refine ⟨(_, _, _, _, _, _, _), rfl, ?_, ?_⟩ | skip); (all_goals (subst hP hg_F_s_l1Source hg_Q_s_l1Source hg_F_s_l1Next hg_B_s_l1Next_s hg_Q_s_l1Next hg_F_s_l1Chance hg_B_s_l1Chance_s hg_Q_s_l1Chance hg_F_s_l1Pick hg_B_s_l1Pick_s hg_Q_s_l1Pick hg_Q_s_l14Bytes hg_P_s_l14Bytes hg_Q_s_l14Bent hg_P_s_l14Bent; (try dsimp only [Ty.den] at *); (try simp only [Lg.std, Alg.std, List.drop_zero, List.take_length, F_s_l1Source, F_s_l1Next, F_s_l1Chance, F_s_l1Pick, B_s_l1Next_s, B_s_l1Chance_s, B_s_l1Pick_s, Q_s_l1Source, Q_s_l1Next, Q_s_l1Chance, Q_s_l1Pick, Q_s_l14Bytes, Q_s_l14Bent, P_s_l14Bytes, P_s_l14Bent, P_s_DrawDoActs] at *); (try dsimp only [Ty.den] at *); first | done | ((try simp only [okSrc, List.length_append, List.length_cons, List.length_nil] at *); (all_goals (grind [okSrc, List.length_append])))))) | skip)
def con_s_DrawDoActs : Con := ⟨true, g1 (pD (.sl (.int .u8))) fun code => .any (.pair (.pair (.sl (.sl (.int .u8))) (.pair (.sl (.pair (.int .i64) (.pair (.sl (.int .u8)) .unit))) .unit)) (.pair (.sl (.pair (.int .i64) (.pair (.pair (.int .i64) (.pair (.sl (.int .u8)) .unit)) .unit))) .unit)) [Q_s_DrawDoActs code] (fun y => [P_s_DrawDoActs code y.1 y.2.1]) fun y => ⟨[], [⟨(.pair (.sl (.sl (.int .u8))) (.pair (.sl (.pair (.int .i64) (.pair (.sl (.int .u8)) .unit))) .unit)), (.pr .sh (.pr .sh .sh)), y.1⟩, ⟨(.sl (.pair (.int .i64) (.pair (.pair (.int .i64) (.pair (.sl (.int .u8)) .unit)) .unit))), .sh, y.2.1⟩], []⟩, [], false, 0⟩
theorem ok_s_DrawDoActs : ConOk pg 38 con_s_DrawDoActs := ConOk.g1 (Enters.of (by kernel_rfl)) ct_s_DrawDoActs

def F_w_FnActs (code : List (Int)) : Bool := true
def Q_w_FnActs (code : List (Int)) : Prop := True
def K_w_FnActs_12_0 : Sch := .done
def K_w_FnActs_12_1 : Sch := (.take 30 K_w_FnActs_12_0)
def K_w_FnActs_12_2 : Sch := (.take 29 K_w_FnActs_12_1)
def K_w_FnActs_12_3 : Sch := (.alt 28 K_w_FnActs_12_2 .no)
def K_w_FnActs_12_4 : Sch := (.alt 27 K_w_FnActs_12_3 .no)
def K_w_FnActs_12_5 : Sch := (.alt 26 K_w_FnActs_12_4 .no)
def K_w_FnActs_12_6 : Sch := (.alt 25 K_w_FnActs_12_5 .no)
def K_w_FnActs_12_7 : Sch := (.take 24 K_w_FnActs_12_6)
def K_w_FnActs_12_8 : Sch := (.take 23 K_w_FnActs_12_7)
def K_w_FnActs_12_9 : Sch := (.alt 22 K_w_FnActs_12_8 .no)
def K_w_FnActs_12_10 : Sch := (.alt 21 K_w_FnActs_12_9 .no)
def K_w_FnActs_12_11 : Sch := (.alt 20 K_w_FnActs_12_10 .no)
def K_w_FnActs_12_12 : Sch := (.alt 19 K_w_FnActs_12_11 .no)
def K_w_FnActs_12_13 : Sch := (.alt 18 K_w_FnActs_12_11 .no)
def K_w_FnActs_12_14 : Sch := (.alt 18 K_w_FnActs_12_12 (.alt 19 K_w_FnActs_12_13 .no))
def K_w_FnActs_12_15 : Sch := (.alt 17 K_w_FnActs_12_9 .no)
def K_w_FnActs_12_16 : Sch := (.alt 17 K_w_FnActs_12_10 (.alt 21 K_w_FnActs_12_15 .no))
def K_w_FnActs_12_17 : Sch := (.alt 17 K_w_FnActs_12_11 (.alt 20 K_w_FnActs_12_16 .no))
def K_w_FnActs_12_18 : Sch := (.alt 17 K_w_FnActs_12_12 (.alt 19 K_w_FnActs_12_17 .no))
def K_w_FnActs_12_19 : Sch := (.alt 17 K_w_FnActs_12_13 (.alt 18 K_w_FnActs_12_17 .no))
def K_w_FnActs_12_20 : Sch := (.alt 17 K_w_FnActs_12_14 (.alt 18 K_w_FnActs_12_18 (.alt 19 K_w_FnActs_12_19 .no)))
def K_w_FnActs_12_21 : Sch := (.alt 16 K_w_FnActs_12_15 .no)
def K_w_FnActs_12_22 : Sch := (.alt 16 K_w_FnActs_12_16 (.alt 21 K_w_FnActs_12_21 .no))
def K_w_FnActs_12_23 : Sch := (.alt 16 K_w_FnActs_12_17 (.alt 20 K_w_FnActs_12_22 .no))
def K_w_FnActs_12_24 : Sch := (.alt 16 K_w_FnActs_12_18 (.alt 19 K_w_FnActs_12_23 .no))
def K_w_FnActs_12_25 : Sch := (.alt 16 K_w_FnActs_12_19 (.alt 18 K_w_FnActs_12_23 .no))
def K_w_FnActs_12_26 : Sch := (.alt 16 K_w_FnActs_12_20 (.alt 18 K_w_FnActs_12_24 (.alt 19 K_w_FnActs_12_25 .no)))
def K_w_FnActs_12_27 : Sch := (.take 15 K_w_FnActs_12_26)
def K_w_FnActs_12_28 : Sch := (.take 14 K_w_FnActs_12_27)
def K_w_FnActs_12_29 : Sch := (.alt 13 K_w_FnActs_12_28 .no)
def K_w_FnActs_12_30 : Sch := (.alt 12 K_w_FnActs_12_29 .no)
def K_w_FnActs_12_31 : Sch := (.alt 11 K_w_FnActs_12_30 .no)
def K_w_FnActs_12_32 : Sch := (.alt 10 K_w_FnActs_12_29 .no)
def K_w_FnActs_12_33 : Sch := (.alt 10 K_w_FnActs_12_30 (.alt 12 K_w_FnActs_12_32 .no))
def K_w_FnActs_12_34 : Sch := (.alt 10 K_w_FnActs_12_31 (.alt 11 K_w_FnActs_12_33 .no))
def K_w_FnActs_12_35 : Sch := (.alt 9 K_w_FnActs_12_32 .no)
def K_w_FnActs_12_36 : Sch := (.alt 9 K_w_FnActs_12_33 (.alt 12 K_w_FnActs_12_35 .no))
def K_w_FnActs_12_37 : Sch := (.alt 9 K_w_FnActs_12_34 (.alt 11 K_w_FnActs_12_36 .no))
def K_w_FnActs_12_38 : Sch := (.take 8 K_w_FnActs_12_37)
def K_w_FnActs_12_39 : Sch := (.take 7 K_w_FnActs_12_38)
def K_w_FnActs_12_40 : Sch := (.alt 6 K_w_FnActs_12_39 .no)
def K_w_FnActs_12_41 : Sch := (.alt 5 K_w_FnActs_12_40 .no)
def K_w_FnActs_12_42 : Sch := (.alt 4 K_w_FnActs_12_41 .no)
def K_w_FnActs_12_43 : Sch := (.take 3 K_w_FnActs_12_42)
def K_w_FnActs_12_44 : Sch := (.take 2 K_w_FnActs_12_43)
def K_w_FnActs_12_45 : Sch := (.alt 1 K_w_FnActs_12_44 .no)
def K_w_FnActs_12_46 : Sch := (.take 0 K_w_FnActs_12_45)
def O_w_FnActs : Opt := ⟨fun i => false, fun i => (match decide (i = 4) with | true => [true, false, false, true, true, false, false, false, false, false, false, false, false, false, false, false, false, false, false, false, false, false, false, false, false, false, false, false, false, false, false, false, false, false, false, false, false, false, false, false, false, false, false, false, false, false, false, false, false, false, false, false, false, false, false, false, false, false, false, false, false, false, false, false, false, false, false, false, false, false, false, false, false, false, false] | false => (match decide (i = 9) with | true => [true, false, false, true, true, true, false, false, false, false, false, false, false, false, false, false, false, false, false, false, false, false, false, false, false, false, false, false, false, false, false, false, false, false, false, false, false, false, false, false, false, false, false, false, false, false, false, false, false, false, false, false, false, false, false, false, false, false, false, false, false, false, false, false, false, false, false, false, false, false, false, false, false, false, false] | false => (match decide (i = 10) with | true => [false, false, false, true, true, true, true, false, false, false, false, false, false, false, false, false, false, false, false, false, false, false, false, false, false, false, false, false, false, false, false, false, false, false, false, false, false, false, false, false, false, false, false, false, false, false, false, false, false, false, false, false, false, false, false, false, false, false, false, false, false, false, false, false, false, false, false, false, false, false, false, false, false, false, false] | false => (match decide (i = 11) with | true => [false, false, false, true, true, true, true, true, false, false, false, false, false, false, false, false, false, false, false, false, false, false, false, false, false, false, false, false, false, false, false, false, false, false, false, false, false, false, false, false, false, false, false, false, false, false, false, false, false, false, false, false, false, false, false, false, false, false, false, false, false, false, false, false, false, false, false, false, false, false, false, false, false, false, false] | false => (match decide (i = 12) with | true => [false, false, false, true, true, true, false, true, true, false, false, false, false, false, false, false, false, false, false, false, false, false, false, false, false, false, false, false, false, false, false, false, false, false, false, false, false, false, false, false, false, false, false, false, false, false, false, false, false, false, false, false, false, false, false, false, false, false, false, false, false, false, false, false, false, false, false, false, false, false, false, false, false, false, false] | false => []))))), fun i => (match decide (i = 12) with | true => K_w_FnActs_12_46 | false => (match decide (i = 11) with | true => (.take 0 (.take 1 (.take 2 (.take 3 (.take 4 (.alt 5 (.alt 6 (.alt 7 .done .no) .no) (.alt 6 (.alt 5 (.alt 7 .done .no) .no) .no))))))) | false => (match decide (i = 10) with | true => (.take 0 (.take 1 (.take 2 (.take 3 (.alt 4 (.alt 5 (.alt 6 .done .no) .no) (.alt 5 (.alt 4 (.alt 6 .done .no) .no) .no)))))) | false => (match decide (i = 5) with | true => (.take 0 (.take 2 (.take 3 (.alt 1 (.alt 4 (.take 5 (.take 6 .done)) .no) (.alt 4 (.take 1 (.take 5 (.take 6 .done))) .no))))) | false => .done)))), fun i => (match decide (i = 11) with | true => some [false, false, false, true, true, true, false, true, true, false, false, false, false, false, false, false, false, false, false, false, false, false, false, false, false, false, false, false, false, false, false, false, false, false, false, false, false, false, false, false, false, false, false, false, false, false, false, false, false, false, false, false, false, false, false, false, false, false, false, false, false, false, false, false, false, false, false, false, false, false, false, false, false, false, false] | false => (match decide (i = 10) with | true => some [false, false, false, true, true, true, true, true, false, false, false, false, false, false, false, false, false, false, false, false, false, false, false, false, false, false, false, false, false, false, false, false, false, false, false, false, false, false, false, false, false, false, false, false, false, false, false, false, false, false, false, false, false, false, false, false, false, false, false, false, false, false, false, false, false, false, false, false, false, false, false, false, false, false, false] | false => (match decide (i = 5) with | true => some [true, false, false, true, true, true, false, false, false, false, false, false, false, false, false, false, false, false, false, false, false, false, false, false, false, true, false, false, false, false, false, false, false, false, false, false, false, false, false, false, false, false, false, false, false, false, false, false, false, false, false, false, false, false, false, false, false, false, false, false, false, false, false, false, false, false, false, false, false, false, false, false, false, false, false] | false => none))), fun i => (match decide (i = 12) with | true => true | false => (match decide (i = 11) with | true => true | false => (match decide (i = 10) with | true => true | false => (match decide (i = 9) with | true => true | false => (match decide (i = 4) with | true => true | false => false))))), fun i => [], fun i => (match decide (i = 12) with | true => true | false => (match decide (i = 11) with | true => true | false => (match decide (i = 10) with | true => true | false => (match decide (i = 9) with | true => true | false => (match decide (i = 4) with | true => true | false => false))))), fun i => none, fun i => none⟩
def τ_w_FnActs : Env := Env.of [(2, (.int .i64)), (3, (.int .i64)), (4, .bool), (30, (.pair (.sl (.sl (.int .u8))) (.pair (.sl (.pair (.int .i64) (.pair (.sl (.int .u8)) .unit))) .unit))), (34, (.sl (.int .u8))), (66, (.sl (.pair (.int .i64) (.pair (.pair (.int .i64) (.pair (.sl (.int .u8)) .unit)) .unit)))), (70, (.pair (.int .i64) (.pair (.pair (.sl (.sl (.int .u8))) (.pair (.sl (.pair (.int .i64) (.pair (.sl (.int .u8)) .unit))) .unit)) .unit)))] [] []
noncomputable def R_w_FnActs_12 : Array Oper := (regOf 12 (bodyOf Go.Proofs.Try.f8)).getD #[]
theorem sK_w_FnActs_12_0 : chkSch τ_w_FnActs R_w_FnActs_12 .done 0 [true, true, true, true, true, true, true, true, true, true, true, true, true, true, true, true, true, true, true, true, true, true, true, true, true, true, true, true, true, true, true] true = true := by kernel_rfl
theorem sK_w_FnActs_12_1 : chkSch τ_w_FnActs R_w_FnActs_12 (.take 30 K_w_FnActs_12_0) 1 [true, true, true, true, true, true, true, true, true, true, true, true, true, true, true, true, true, true, true, true, true, true, true, true, true, true, true, true, true, true, false] true = true := sk_take (by kernel_rfl) sK_w_FnActs_12_0
theorem sK_w_FnActs_12_2 : chkSch τ_w_FnActs R_w_FnActs_12 (.take 29 K_w_FnActs_12_1) 2 [true, true, true, true, true, true, true, true, true, true, true, true, true, true, true, true, true, true, true, true, true, true, true, true, true, true, true, true, true, false, false] true = true := sk_take (by kernel_rfl) sK_w_FnActs_12_1
theorem sK_w_FnActs_12_3 : chkSch τ_w_FnActs R_w_FnActs_12 (.alt 28 K_w_FnActs_12_2 .no) 3 [true, true, true, true, true, true, true, true, true, true, true, true, true, true, true, true, true, true, true, true, true, true, true, true, true, true, true, true, false, false, false] true = true := sk_alt (by kernel_rfl) sK_w_FnActs_12_2 (rfl)
theorem sK_w_FnActs_12_4 : chkSch τ_w_FnActs R_w_FnActs_12 (.alt 27 K_w_FnActs_12_3 .no) 4 [true, true, true, true, true, true, true, true, true, true, true, true, true, true, true, true, true, true, true, true, true, true, true, true, true, true, true, false, false, false, false] true = true := sk_alt (by kernel_rfl) sK_w_FnActs_12_3 (rfl)
theorem sK_w_FnActs_12_5 : chkSch τ_w_FnActs R_w_FnActs_12 (.alt 26 K_w_FnActs_12_4 .no) 5 [true, true, true, true, true, true, true, true, true, true, true, true, true, true, true, true, true, true, true, true, true, true, true, true, true, true, false, false, false, false, false] true = true := sk_alt (by kernel_rfl) sK_w_FnActs_12_4 (rfl)
theorem sK_w_FnActs_12_6 : chkSch τ_w_FnActs R_w_FnActs_12 (.alt 25 K_w_FnActs_12_5 .no) 6 [true, true, true, true, true, true, true, true, true, true, true, true, true, true, true, true, true, true, true, true, true, true, true, true, true, false, false, false, false, false, false] true = true := sk_alt (by kernel_rfl) sK_w_FnActs_12_5 (rfl)
theorem sK_w_FnActs_12_7 : chkSch τ_w_FnActs R_w_FnActs_12 (.take 24 K_w_FnActs_12_6) 7 [true, true, true, true, true, true, true, true, true, true, true, true, true, true, true, true, true, true, true, true, true, true, true, true, false, false, false, false, false, false, false] true = true := sk_take (by kernel_rfl) sK_w_FnActs_12_6
theorem sK_w_FnActs_12_8 : chkSch τ_w_FnActs R_w_FnActs_12 (.take 23 K_w_FnActs_12_7) 8 [true, true, true, true, true, true, true, true, true, true, true, true, true, true, true, true, true, true, true, true, true, true, true, false, false, false, false, false, false, false, false] true = true := sk_take (by kernel_rfl) sK_w_FnActs_12_7
theorem sK_w_FnActs_12_9 : chkSch τ_w_FnActs R_w_FnActs_12 (.alt 22 K_w_FnActs_12_8 .no) 9 [true, true, true, true, true, true, true, true, true, true, true, true, true, true, true, true, true, true, true, true, true, true, false, false, false, false, false, false, false, false, false] true = true := sk_alt (by kernel_rfl) sK_w_FnActs_12_8 (rfl)
theorem sK_w_FnActs_12_10 : chkSch τ_w_FnActs R_w_FnActs_12 (.alt 21 K_w_FnActs_12_9 .no) 10 [true, true, true, true, true, true, true, true, true, true, true, true, true, true, true, true, true, true, true, true, true, false, false, false, false, false, false, false, false, false, false] true = true := sk_alt (by kernel_rfl) sK_w_FnActs_12_9 (rfl)
theorem sK_w_FnActs_12_11 : chkSch τ_w_FnActs R_w_FnActs_12 (.alt 20 K_w_FnActs_12_10 .no) 11 [true, true, true, true, true, true, true, true, true, true, true, true, true, true, true, true, true, true, true, true, false, false, false, false, false, false, false, false, false, false, false] true = true := sk_alt (by kernel_rfl) sK_w_FnActs_12_10 (rfl)
theorem sK_w_FnActs_12_12 : chkSch τ_w_FnActs R_w_FnActs_12 (.alt 19 K_w_FnActs_12_11 .no) 12 [true, true, true, true, true, true, true, true, true, true, true, true, true, true, true, true, true, true, true, false, false, false, false, false, false, false, false, false, false, false, false] true = true := sk_alt (by kernel_rfl) sK_w_FnActs_12_11 (rfl)
theorem sK_w_FnActs_12_13 : chkSch τ_w_FnActs R_w_FnActs_12 (.alt 18 K_w_FnActs_12_11 .no) 12 [true, true, true, true, true, true, true, true, true, true, true, true, true, true, true, true, true, true, false, true, false, false, false, false, false, false, false, false, false, false, false] true = true := sk_alt (by kernel_rfl) sK_w_FnActs_12_11 (rfl)
theorem sK_w_FnActs_12_14 : chkSch τ_w_FnActs R_w_FnActs_12 (.alt 18 K_w_FnActs_12_12 (.alt 19 K_w_FnActs_12_13 .no)) 13 [true, true, true, true, true, true, true, true, true, true, true, true, true, true, true, true, true, true, false, false, false, false, false, false, false, false, false, false, false, false, false] true = true := sk_alt (by kernel_rfl) sK_w_FnActs_12_12 (sk_alt (by kernel_rfl) sK_w_FnActs_12_13 (rfl))
theorem sK_w_FnActs_12_15 : chkSch τ_w_FnActs R_w_FnActs_12 (.alt 17 K_w_FnActs_12_9 .no) 10 [true, true, true, true, true, true, true, true, true, true, true, true, true, true, true, true, true, false, true, true, true, true, false, false, false, false, false, false, false, false, false] true = true := sk_alt (by kernel_rfl) sK_w_FnActs_12_9 (rfl)
theorem sK_w_FnActs_12_16 : chkSch τ_w_FnActs R_w_FnActs_12 (.alt 17 K_w_FnActs_12_10 (.alt 21 K_w_FnActs_12_15 .no)) 11 [true, true, true, true, true, true, true, true, true, true, true, true, true, true, true, true, true, false, true, true, true, false, false, false, false, false, false, false, false, false, false] true = true := sk_alt (by kernel_rfl) sK_w_FnActs_12_10 (sk_alt (by kernel_rfl) sK_w_FnActs_12_15 (rfl))
theorem sK_w_FnActs_12_17 : chkSch τ_w_FnActs R_w_FnActs_12 (.alt 17 K_w_FnActs_12_11 (.alt 20 K_w_FnActs_12_16 .no)) 12 [true, true, true, true, true, true, true, true, true, true, true, true, true, true, true, true, true, false, true, true, false, false, false, false, false, false, false, false, false, false, false] true = true := sk_alt (by kernel_rfl) sK_w_FnActs_12_11 (sk_alt (by kernel_rfl) sK_w_FnActs_12_16 (rfl))
theorem sK_w_FnActs_12_18 : chkSch τ_w_FnActs R_w_FnActs_12 (.alt 17 K_w_FnActs_12_12 (.alt 19 K_w_FnActs_12_17 .no)) 13 [true, true, true, true, true, true, true, true, true, true, true, true, true, true, true, true, true, false, true, false, false, false, false, false, false, false, false, false, false, false, false] true = true := sk_alt (by kernel_rfl) sK_w_FnActs_12_12 (sk_alt (by kernel_rfl) sK_w_FnActs_12_17 (rfl))
theorem sK_w_FnActs_12_19 : chkSch τ_w_FnActs R_w_FnActs_12 (.alt 17 K_w_FnActs_12_13 (.alt 18 K_w_FnActs_12_17 .no)) 13 [true, true, true, true, true, true, true, true, true, true, true, true, true, true, true, true, true, false, false, true, false, false, false, false, false, false, false, false, false, false, false] true = true := sk_alt (by kernel_rfl) sK_w_FnActs_12_13 (sk_alt (by kernel_rfl) sK_w_FnActs_12_17 (rfl))
theorem sK_w_FnActs_12_20 : chkSch τ_w_FnActs R_w_FnActs_12 (.alt 17 K_w_FnActs_12_14 (.alt 18 K_w_FnActs_12_18 (.alt 19 K_w_FnActs_12_19 .no))) 14 [true, true, true, true, true, true, true, true, true, true, true, true, true, true, true, true, true, false, false, false, false, false, false, false, false, false, false, false, false, false, false] true = true := sk_alt (by kernel_rfl) sK_w_FnActs_12_14 (sk_alt (by kernel_rfl) sK_w_FnActs_12_18 (sk_alt (by kernel_rfl) sK_w_FnActs_12_19 (rfl)))
theorem sK_w_FnActs_12_21 : chkSch τ_w_FnActs R_w_FnActs_12 (.alt 16 K_w_FnActs_12_15 .no) 11 [true, true, true, true, true, true, true, true, true, true, true, true, true, true, true, true, false, false, true, true, true, true, false, false, false, false, false, false, false, false, false] true = true := sk_alt (by kernel_rfl) sK_w_FnActs_12_15 (rfl)
theorem sK_w_FnActs_12_22 : chkSch τ_w_FnActs R_w_FnActs_12 (.alt 16 K_w_FnActs_12_16 (.alt 21 K_w_FnActs_12_21 .no)) 12 [true, true, true, true, true, true, true, true, true, true, true, true, true, true, true, true, false, false, true, true, true, false, false, false, false, false, false, false, false, false, false] true = true := sk_alt (by kernel_rfl) sK_w_FnActs_12_16 (sk_alt (by kernel_rfl) sK_w_FnActs_12_21 (rfl))
theorem sK_w_FnActs_12_23 : chkSch τ_w_FnActs R_w_FnActs_12 (.alt 16 K_w_FnActs_12_17 (.alt 20 K_w_FnActs_12_22 .no)) 13 [true, true, true, true, true, true, true, true, true, true, true, true, true, true, true, true, false, false, true, true, false, false, false, false, false, false, false, false, false, false, false] true = true := sk_alt (by kernel_rfl) sK_w_FnActs_12_17 (sk_alt (by kernel_rfl) sK_w_FnActs_12_22 (rfl))
theorem sK_w_FnActs_12_24 : chkSch τ_w_FnActs R_w_FnActs_12 (.alt 16 K_w_FnActs_12_18 (.alt 19 K_w_FnActs_12_23 .no)) 14 [true, true, true, true, true, true, true, true, true, true, true, true, true, true, true, true, false, false, true, false, false, false, false, false, false, false, false, false, false, false, false] true = true := sk_alt (by kernel_rfl) sK_w_FnActs_12_18 (sk_alt (by kernel_rfl) sK_w_FnActs_12_23 (rfl))
theorem sK_w_FnActs_12_25 : chkSch τ_w_FnActs R_w_FnActs_12 (.alt 16 K_w_FnActs_12_19 (.alt 18 K_w_FnActs_12_23 .no)) 14 [true, true, true, true, true, true, true, true, true, true, true, true, true, true, true, true, false, false, false, true, false, false, false, false, false, false, false, false, false, false, false] true = true := sk_alt (by kernel_rfl) sK_w_FnActs_12_19 (sk_alt (by kernel_rfl) sK_w_FnActs_12_23 (rfl))
theorem sK_w_FnActs_12_26 : chkSch τ_w_FnActs R_w_FnActs_12 (.alt 16 K_w_FnActs_12_20 (.alt 18 K_w_FnActs_12_24 (.alt 19 K_w_FnActs_12_25 .no))) 15 [true, true, true, true, true, true, true, true, true, true, true, true, true, true, true, true, false, false, false, false, false, false, false, false, false, false, false, false, false, false, false] true = true := sk_alt (by kernel_rfl) sK_w_FnActs_12_20 (sk_alt (by kernel_rfl) sK_w_FnActs_12_24 (sk_alt (by kernel_rfl) sK_w_FnActs_12_25 (rfl)))
theorem sK_w_FnActs_12_27 : chkSch τ_w_FnActs R_w_FnActs_12 (.take 15 K_w_FnActs_12_26) 16 [true, true, true, true, true, true, true, true, true, true, true, true, true, true, true, false, false, false, false, false, false, false, false, false, false, false, false, false, false, false, false] true = true := sk_take (by kernel_rfl) sK_w_FnActs_12_26
theorem sK_w_FnActs_12_28 : chkSch τ_w_FnActs R_w_FnActs_12 (.take 14 K_w_FnActs_12_27) 17 [true, true, true, true, true, true, true, true, true, true, true, true, true, true, false, false, false, false, false, false, false, false, false, false, false, false, false, false, false, false, false] true = true := sk_take (by kernel_rfl) sK_w_FnActs_12_27
theorem sK_w_FnActs_12_29 : chkSch τ_w_FnActs R_w_FnActs_12 (.alt 13 K_w_FnActs_12_28 .no) 18 [true, true, true, true, true, true, true, true, true, true, true, true, true, false, false, false, false, false, false, false, false, false, false, false, false, false, false, false, false, false, false] true = true := sk_alt (by kernel_rfl) sK_w_FnActs_12_28 (rfl)
theorem sK_w_FnActs_12_30 : chkSch τ_w_FnActs R_w_FnActs_12 (.alt 12 K_w_FnActs_12_29 .no) 19 [true, true, true, true, true, true, true, true, true, true, true, true, false, false, false, false, false, false, false, false, false, false, false, false, false, false, false, false, false, false, false] true = true := sk_alt (by kernel_rfl) sK_w_FnActs_12_29 (rfl)
theorem sK_w_FnActs_12_31 : chkSch τ_w_FnActs R_w_FnActs_12 (.alt 11 K_w_FnActs_12_30 .no) 20 [true, true, true, true, true, true, true, true, true, true, true, false, false, false, false, false, false, false, false, false, false, false, false, false, false, false, false, false, false, false, false] true = true := sk_alt (by kernel_rfl) sK_w_FnActs_12_30 (rfl)
theorem sK_w_FnActs_12_32 : chkSch τ_w_FnActs R_w_FnActs_12 (.alt 10 K_w_FnActs_12_29 .no) 19 [true, true, true, true, true, true, true, true, true, true, false, true, true, false, false, false, false, false, false, false, false, false, false, false, false, false, false, false, false, false, false] true = true := sk_alt (by kernel_rfl) sK_w_FnActs_12_29 (rfl)
theorem sK_w_FnActs_12_33 : chkSch τ_w_FnActs R_w_FnActs_12 (.alt 10 K_w_FnActs_12_30 (.alt 12 K_w_FnActs_12_32 .no)) 20 [true, true, true, true, true, true, true, true, true, true, false, true, false, false, false, false, false, false, false, false, false, false, false, false, false, false, false, false, false, false, false] true = true := sk_alt (by kernel_rfl) sK_w_FnActs_12_30 (sk_alt (by kernel_rfl) sK_w_FnActs_12_32 (rfl))
theorem sK_w_FnActs_12_34 : chkSch τ_w_FnActs R_w_FnActs_12 (.alt 10 K_w_FnActs_12_31 (.alt 11 K_w_FnActs_12_33 .no)) 21 [true, true, true, true, true, true, true, true, true, true, false, false, false, false, false, false, false, false, false, false, false, false, false, false, false, false, false, false, false, false, false] true = true := sk_alt (by kernel_rfl) sK_w_FnActs_12_31 (sk_alt (by kernel_rfl) sK_w_FnActs_12_33 (rfl))
theorem sK_w_FnActs_12_35 : chkSch τ_w_FnActs R_w_FnActs_12 (.alt 9 K_w_FnActs_12_32 .no) 20 [true, true, true, true, true, true, true, true, true, false, false, true, true, false, false, false, false, false, false, false, false, false, false, false, false, false, false, false, false, false, false] true = true := sk_alt (by kernel_rfl) sK_w_FnActs_12_32 (rfl)
theorem sK_w_FnActs_12_36 : chkSch τ_w_FnActs R_w_FnActs_12 (.alt 9 K_w_FnActs_12_33 (.alt 12 K_w_FnActs_12_35 .no)) 21 [true, true, true, true, true, true, true, true, true, false, false, true, false, false, false, false, false, false, false, false, false, false, false, false, false, false, false, false, false, false, false] true = true := sk_alt (by kernel_rfl) sK_w_FnActs_12_33 (sk_alt (by kernel_rfl) sK_w_FnActs_12_35 (rfl))
theorem sK_w_FnActs_12_37 : chkSch τ_w_FnActs R_w_FnActs_12 (.alt 9 K_w_FnActs_12_34 (.alt 11 K_w_FnActs_12_36 .no)) 22 [true, true, true, true, true, true, true, true, true, false, false, false, false, false, false, false, false, false, false, false, false, false, false, false, false, false, false, false, false, false, false] true = true := sk_alt (by kernel_rfl) sK_w_FnActs_12_34 (sk_alt (by kernel_rfl) sK_w_FnActs_12_36 (rfl))
theorem sK_w_FnActs_12_38 : chkSch τ_w_FnActs R_w_FnActs_12 (.take 8 K_w_FnActs_12_37) 23 [true, true, true, true, true, true, true, true, false, false, false, false, false, false, false, false, false, false, false, false, false, false, false, false, false, false, false, false, false, false, false] true = true := sk_take (by kernel_rfl) sK_w_FnActs_12_37
theorem sK_w_FnActs_12_39 : chkSch τ_w_FnActs R_w_FnActs_12 (.take 7 K_w_FnActs_12_38) 24 [true, true, true, true, true, true, true, false, false, false, false, false, false, false, false, false, false, false, false, false, false, false, false, false, false, false, false, false, false, false, false] true = true := sk_take (by kernel_rfl) sK_w_FnActs_12_38
theorem sK_w_FnActs_12_40 : chkSch τ_w_FnActs R_w_FnActs_12 (.alt 6 K_w_FnActs_12_39 .no) 25 [true, true, true, true, true, true, false, false, false, false, false, false, false, false, false, false, false, false, false, false, false, false, false, false, false, false, false, false, false, false, false] true = true := sk_alt (by kernel_rfl) sK_w_FnActs_12_39 (rfl)
theorem sK_w_FnActs_12_41 : chkSch τ_w_FnActs R_w_FnActs_12 (.alt 5 K_w_FnActs_12_40 .no) 26 [true, true, true, true, true, false, false, false, false, false, false, false, false, false, false, false, false, false, false, false, false, false, false, false, false, false, false, false, false, false, false] true = true := sk_alt (by kernel_rfl) sK_w_FnActs_12_40 (rfl)
theorem sK_w_FnActs_12_42 : chkSch τ_w_FnActs R_w_FnActs_12 (.alt 4 K_w_FnActs_12_41 .no) 27 [true, true, true, true, false, false, false, false, false, false, false, false, false, false, false, false, false, false, false, false, false, false, false, false, false, false, false, false, false, false, false] true = true := sk_alt (by kernel_rfl) sK_w_FnActs_12_41 (rfl)
theorem sK_w_FnActs_12_43 : chkSch τ_w_FnActs R_w_FnActs_12 (.take 3 K_w_FnActs_12_42) 28 [true, true, true, false, false, false, false, false, false, false, false, false, false, false, false, false, false, false, false, false, false, false, false, false, false, false, false, false, false, false, false] true = true := sk_take (by kernel_rfl) sK_w_FnActs_12_42
theorem sK_w_FnActs_12_44 : chkSch τ_w_FnActs R_w_FnActs_12 (.take 2 K_w_FnActs_12_43) 29 [true, true, false, false, false, false, false, false, false, false, false, false, false, false, false, false, false, false, false, false, false, false, false, false, false, false, false, false, false, false, false] true = true := sk_take (by kernel_rfl) sK_w_FnActs_12_43
theorem sK_w_FnActs_12_45 : chkSch τ_w_FnActs R_w_FnActs_12 (.alt 1 K_w_FnActs_12_44 .no) 30 [true, false, false, false, false, false, false, false, false, false, false, false, false, false, false, false, false, false, false, false, false, false, false, false, false, false, false, false, false, false, false] true = true := sk_alt (by kernel_rfl) sK_w_FnActs_12_44 (rfl)
theorem sK_w_FnActs_12_46 : chkSch τ_w_FnActs R_w_FnActs_12 (.take 0 K_w_FnActs_12_45) 31 [false, false, false, false, false, false, false, false, false, false, false, false, false, false, false, false, false, false, false, false, false, false, false, false, false, false, false, false, false, false, false] true = true := sk_take (by kernel_rfl) sK_w_FnActs_12_45
theorem chk_w_FnActs : chkO τ_w_FnActs O_w_FnActs (bodyOf Go.Proofs.Try.f8) = true := (cO_seq (by kernel_rfl) (cO_seq (by kernel_rfl) (cO_seq (by kernel_rfl) (cO_seq (by kernel_rfl) (cO_seq (by kernel_rfl) (cO_seq (by kernel_rfl) (cO_seq (by kernel_rfl) (cO_seq (by kernel_rfl) (cO_seq (by kernel_rfl) (cO_seq (cO_reg (ops' := R_w_FnActs_12) (by kernel_rfl) (by kernel_rfl) (by kernel_rfl) (by kernel_rfl) rfl sK_w_FnActs_12_46) (by kernel_rfl)))))))))))

theorem ct_w_FnActs (code : List (Int)) : Ct pg 8 [.dat (.sl (.int .u8)) code] ⟨[Q_w_FnActs code], [⟨.bool, .sh, F_w_FnActs code⟩], []⟩ := by
  refine ct_claim (O := O_w_FnActs) (τ := τ_w_FnActs) (EnvOk.of (by kernel_rfl) (by kernel_rfl)) (GOk.of (.cons ok_i_SameDisks (.cons ok_s_SameDisks (.cons ok_i_DiskFault (.cons ok_i_DoActs (.cons ok_s_DoActs (.cons ok_w_lwAt (.cons ok_w_lwBig (.cons ok_s_DrawDoActs .nil))))))) : AllOk pg [(41, con_i_SameDisks), (42, con_s_SameDisks), (43, con_i_DiskFault), (39, con_i_DoActs), (40, con_s_DoActs), (37, con_w_lwAt), (28, con_w_lwBig), (38, con_s_DrawDoActs)])) mixed (Enters.of (by kernel_rfl)) (fn := Go.Proofs.Try.f8) (by kernel_rfl) rfl chk_w_FnActs ?_
  intro hp hw
  have hq : Q_w_FnActs code := hp _ (List.mem_singleton.2 rfl)
  clear hp
  change claim Lg.std Alg.std τ_w_FnActs (Gam.of [(41, con_i_SameDisks), (42, con_s_SameDisks), (43, con_i_DiskFault), (39, con_i_DoActs), (40, con_s_DoActs), (37, con_w_lwAt), (28, con_w_lwBig), (38, con_s_DrawDoActs)]) O_w_FnActs Go.Proofs.Try.f8 [.dat (.sl (.int .u8)) code] ⟨[Q_w_FnActs code], [⟨.bool, .sh, F_w_FnActs code⟩], []⟩
  delta con_i_SameDisks con_s_SameDisks con_i_DiskFault con_i_DoActs con_s_DoActs con_w_lwAt con_w_lwBig con_s_DrawDoActs
  generalize hg_F_i_SameDisks : F_i_SameDisks = g_F_i_SameDisks
  generalize hg_Q_i_SameDisks : Q_i_SameDisks = g_Q_i_SameDisks
  generalize hg_F_s_SameDisks : F_s_SameDisks = g_F_s_SameDisks
  generalize hg_Q_s_SameDisks : Q_s_SameDisks = g_Q_s_SameDisks
  generalize hg_F_i_DiskFault : F_i_DiskFault = g_F_i_DiskFault
  generalize hg_Q_i_DiskFault : Q_i_DiskFault = g_Q_i_DiskFault
  generalize hg_F_i_DoActs : F_i_DoActs = g_F_i_DoActs
  generalize hg_Q_i_DoActs : Q_i_DoActs = g_Q_i_DoActs
  generalize hg_F_s_DoActs : F_s_DoActs = g_F_s_DoActs
  generalize hg_Q_s_DoActs : Q_s_DoActs = g_Q_s_DoActs
  generalize hg_F_w_lwAt : F_w_lwAt = g_F_w_lwAt
  generalize hg_Q_w_lwAt : Q_w_lwAt = g_Q_w_lwAt
  generalize hg_F_w_lwBig : F_w_lwBig = g_F_w_lwBig
  generalize hg_Q_w_lwBig : Q_w_lwBig = g_Q_w_lwBig
  generalize hg_Q_s_DrawDoActs : Q_s_DrawDoActs = g_Q_s_DrawDoActs
  generalize hg_P_s_DrawDoActs : P_s_DrawDoActs = g_P_s_DrawDoActs
  generalize hR0 : F_w_FnActs code = R0
  generalize Q_w_FnActs code = Q0
  generalize hL : Lg.std = L
  generalize hA : Alg.std = A
  cbv
  subst hL hA
  try dsimp only [Ty.den]
  simp only [Q_w_FnActs] at hq
  repeat' (first | intro _ | apply And.intro | (refine (AllY.mk ?_ : AllY (.pair (.pair (.sl (.sl (.int .u8))) (.pair (.sl (.pair (.int .i64) (.pair (.sl (.int .u8)) .unit))) .unit)) (.pair (.sl (.pair (.int .i64) (.pair (.pair (.int .i64) (.pair (.sl (.int .u8)) .unit)) .unit))) .unit)) _); rintro ⟨⟨d0, d1, ⟨⟩⟩, l, ⟨⟩⟩; generalize hL : Lg.std = L; generalize hA : Alg.std = A; cbv; subst hL hA; try dsimp only [Ty.den]))
  all_goals first | (with_reducible exact True.intro) | ((fail_if_success (refine lp_v (V := Unit) (fun _ => ⟨[], []⟩) (fun _ => True) (fun _ => 0) () ?_ ?_ ?_)); subst hR0 hg_F_i_SameDisks hg_Q_i_SameDisks hg_F_s_SameDisks hg_Q_s_SameDisks hg_F_i_DiskFault hg_Q_i_DiskFault hg_F_i_DoActs hg_Q_i_DoActs hg_F_s_DoActs hg_Q_s_DoActs hg_F_w_lwAt hg_Q_w_lwAt hg_F_w_lwBig hg_Q_w_lwBig hg_Q_s_DrawDoActs hg_P_s_DrawDoActs; (try dsimp only [Ty.den] at *); (try simp only [Lg.std, Alg.std, List.drop_zero, List.take_length, List.take_succ_cons, List.take_zero, List.take_nil, F_i_SameDisks, F_s_SameDisks, F_i_DiskFault, F_i_DoActs, F_s_DoActs, F_w_lwAt, F_w_lwBig, Q_i_SameDisks, Q_s_SameDisks, Q_i_DiskFault, Q_i_DoActs, Q_s_DoActs, Q_w_lwAt, Q_w_lwBig, Q_s_DrawDoActs, P_s_DrawDoActs, F_w_FnActs] at *); (try dsimp only [Ty.den] at *); (all_goals first | done | ((all_goals (grind [okSrc]))))) | skip
  all_goals (
    refine lp_v (V := (List (List Int)) × (List PutT) × (List ActT)) (fun ((e0, e1, m) : (List (List Int)) × (List PutT) × (List ActT)) => ⟨[.dat (.sl (.int .u8)) code, Jk, Jk, .bptr 0 0, .dat (.sl (.pair (.int .i64) (.pair (.pair (.int .i64) (.pair (.sl (.int .u8)) .unit)) .unit))) m, Jk, Jk, Jk, Jk, Jk, Jk, Jk, Jk, Jk, Jk, Jk, Jk, Jk, Jk, Jk, Jk, Jk, Jk, Jk, Jk, Jk, Jk, Jk, Jk, Jk, Jk, Jk, Jk, Jk, Jk, Jk, Jk, Jk, Jk, Jk, Jk, Jk, Jk, Jk, Jk, Jk, Jk, Jk, Jk, Jk, Jk, Jk, Jk, Jk, Jk, Jk, Jk, Jk, Jk, Jk, Jk, Jk, Jk, Jk, Jk, Jk, Jk, Jk, Jk, Jk, Jk, Jk, Jk, Jk, Jk], [some (.box [.dat (.sl (.sl (.int .u8))) e0, .dat (.sl (.pair (.int .i64) (.pair (.sl (.int .u8)) .unit))) e1])]⟩) (fun ((e0, e1, m) : (List (List Int)) × (List PutT) × (List ActT)) => (smD (e0, e1, PUnit.unit) ∧ m.length ≤ 100) ∧ code.length ≤ 1048576) (fun ((e0, e1, m) : (List (List Int)) × (List PutT) × (List ActT)) => 0) (_, _, _) rfl ?_ ?_
    · subst hR0 hg_F_i_SameDisks hg_Q_i_SameDisks hg_F_s_SameDisks hg_Q_s_SameDisks hg_F_i_DiskFault hg_Q_i_DiskFault hg_F_i_DoActs hg_Q_i_DoActs hg_F_s_DoActs hg_Q_s_DoActs hg_F_w_lwAt hg_Q_w_lwAt hg_F_w_lwBig hg_Q_w_lwBig hg_Q_s_DrawDoActs hg_P_s_DrawDoActs
      (try dsimp only [Ty.den] at *)
      (try simp only [Alg.std, List.drop_zero, List.take_length, F_i_SameDisks, F_s_SameDisks, F_i_DiskFault, F_i_DoActs, F_s_DoActs, F_w_lwAt, F_w_lwBig, Q_i_SameDisks, Q_s_SameDisks, Q_i_DiskFault, Q_i_DoActs, Q_s_DoActs, Q_w_lwAt, Q_w_lwBig, Q_s_DrawDoActs, P_s_DrawDoActs, F_w_FnActs] at *)
      (try dsimp only [Ty.den] at *)
      grind
    rintro ⟨e0, e1, m⟩ hf I hI
    replace hf : (smD (e0, e1, PUnit.unit) ∧ m.length ≤ 100) ∧ code.length ≤ 1048576 := hf
    generalize hL : Lg.std = L
    generalize hA : Alg.std = A
    cbv
    subst hL hA
    try dsimp only [Ty.den]
    subst hI
    obtain ⟨h1, h2⟩ := hf
    clear hq hw
    have hst := smD_tot _ h1.1
    repeat' (first | intro _ | apply And.intro)
    all_goals first | (with_reducible exact True.intro) | ((fail_if_success (refine lp_v (V := Unit) (fun _ => ⟨[], []⟩) (fun _ => True) (fun _ => 0) () ?_ ?_ ?_)); (try simp only [Lg.std, Alg.std, List.drop_zero, List.take_length, List.take_succ_cons, List.take_zero, List.take_nil] at *); (first | refine ⟨(_, _, _, _, _, _, _, _), rfl, ?_, ?_⟩ | skip); (all_goals (subst hR0 hg_F_i_SameDisks hg_Q_i_SameDisks hg_F_s_SameDisks hg_Q_s_SameDisks hg_F_i_DiskFault hg_Q_i_DiskFault hg_F_i_DoActs hg_Q_i_DoActs hg_F_s_DoActs hg_Q_s_DoActs hg_F_w_lwAt hg_Q_w_lwAt hg_F_w_lwBig hg_Q_w_lwBig hg_Q_s_DrawDoActs hg_P_s_DrawDoActs; (try dsimp only [Ty.den] at *); (try simp only [Lg.std, Alg.std, List.drop_zero, List.take_length, F_i_SameDisks, F_s_SameDisks, F_i_DiskFault, F_i_DoActs, F_s_DoActs, F_w_lwAt, F_w_lwBig, Q_i_SameDisks, Q_s_SameDisks, Q_i_DiskFault, Q_i_DoActs, Q_s_DoActs, Q_w_lwAt, Q_w_lwBig, Q_s_DrawDoActs, P_s_DrawDoActs, F_w_FnActs] at *); (try dsimp only [Ty.den] at *); first | done | ((try generalize hAl : doActs (e0, e1, PUnit.unit) m = AA at *); (try obtain ⟨A0, ⟨A1, A2, ⟨⟩⟩, ⟨⟩⟩ := AA); (try dsimp only at *); (all_goals (grind)))))) | skip
    all_goals (
      refine lp_v (V := (List (List Int)) × (List PutT) × (List ActT) × (List (List Int)) × (List PutT) × (Nat) × (Nat) × (Int)) (fun ((e0, e1, m, a1, a2, N0, N1, a0) : (List (List Int)) × (List PutT) × (List ActT) × (List (List Int)) × (List PutT) × (Nat) × (Nat) × (Int)) => ⟨[.dat (.sl (.int .u8)) code, Jk, Jk, .bptr 0 0, .dat (.sl (.pair (.int .i64) (.pair (.pair (.int .i64) (.pair (.sl (.int .u8)) .unit)) .unit))) m, .bptr 1 0, Jk, Jk, Jk, Jk, Jk, Jk, Jk, Jk, Jk, Jk, Jk, Jk, Jk, Jk, Jk, Jk, Jk, Jk, Jk, Jk, Jk, Jk, Jk, Jk, Jk, Jk, Jk, Jk, Jk, Jk, Jk, Jk, Jk, Jk, Jk, Jk, Jk, Jk, Jk, Jk, Jk, Jk, Jk, Jk, Jk, Jk, Jk, Jk, Jk, Jk, Jk, Jk, Jk, Jk, Jk, Jk, Jk, Jk, Jk, Jk, Jk, Jk, Jk, Jk, Jk, Jk, Jk, Jk, Jk], [some (.box [.dat (.sl (.sl (.int .u8))) e0, .dat (.sl (.pair (.int .i64) (.pair (.sl (.int .u8)) .unit))) e1]), some (.box [.dat (.int .i64) a0, .ref (.sl (.int .u8)) 2 0 [] 0 N0, .ref (.pair (.int .i64) (.pair (.sl (.int .u8)) .unit)) 3 0 [] 0 N1]), some (.row 0 (.sl (.int .u8)) (.ow .sh) a1), some (.row 0 (.pair (.int .i64) (.pair (.sl (.int .u8)) .unit)) (.pr .sh (.pr (.ow .sh) .sh)) a2)]⟩) (fun ((e0, e1, m, a1, a2, N0, N1, a0) : (List (List Int)) × (List PutT) × (List ActT) × (List (List Int)) × (List PutT) × (Nat) × (Nat) × (Int)) => (smD (e0, e1, PUnit.unit) ∧ m.length ≤ 100) ∧ code.length ≤ 1048576 ∧ doActs (e0, e1, PUnit.unit) m = (0, (a1, a2, PUnit.unit), PUnit.unit) ∧ N0 = a1.length ∧ N1 = a2.length ∧ a0 = 0) (fun ((e0, e1, m, a1, a2, N0, N1, a0) : (List (List Int)) × (List PutT) × (List ActT) × (List (List Int)) × (List PutT) × (Nat) × (Nat) × (Int)) => 0) (_, _, _, _, _, _, _, _) rfl ?_ ?_
      · subst hR0 hg_F_i_SameDisks hg_Q_i_SameDisks hg_F_s_SameDisks hg_Q_s_SameDisks hg_F_i_DiskFault hg_Q_i_DiskFault hg_F_i_DoActs hg_Q_i_DoActs hg_F_s_DoActs hg_Q_s_DoActs hg_F_w_lwAt hg_Q_w_lwAt hg_F_w_lwBig hg_Q_w_lwBig hg_Q_s_DrawDoActs hg_P_s_DrawDoActs
        (try dsimp only [Ty.den] at *)
        (try simp only [Alg.std, List.drop_zero, List.take_length, F_i_SameDisks, F_s_SameDisks, F_i_DiskFault, F_i_DoActs, F_s_DoActs, F_w_lwAt, F_w_lwBig, Q_i_SameDisks, Q_s_SameDisks, Q_i_DiskFault, Q_i_DoActs, Q_s_DoActs, Q_w_lwAt, Q_w_lwBig, Q_s_DrawDoActs, P_s_DrawDoActs, F_w_FnActs] at *)
        (try dsimp only [Ty.den] at *)
        (try generalize hAl : doActs (e0, e1, PUnit.unit) m = AA at *); (try obtain ⟨A0, ⟨A1, A2, ⟨⟩⟩, ⟨⟩⟩ := AA); (try dsimp only at *); grind
      rintro ⟨e0, e1, m, a1, a2, N0, N1, a0⟩ hf I hI
      replace hf : (smD (e0, e1, PUnit.unit) ∧ m.length ≤ 100) ∧ code.length ≤ 1048576 ∧ doActs (e0, e1, PUnit.unit) m = (0, (a1, a2, PUnit.unit), PUnit.unit) ∧ N0 = a1.length ∧ N1 = a2.length ∧ a0 = 0 := hf
      generalize hL : Lg.std = L
      generalize hA : Alg.std = A
      cbv
      subst hL hA
      try dsimp only [Ty.den]
      subst hI
      obtain ⟨h1, h2, h3, h4, h5, h6⟩ := hf
      clear hst
      subst h4 h5
      have hcu := lwAtV_range code 2 ((List.length m : Int) + 1)
      repeat' (first | intro _ | apply And.intro)
      all_goals first | (with_reducible exact True.intro) | ((fail_if_success (refine lp_v (V := Unit) (fun _ => ⟨[], []⟩) (fun _ => True) (fun _ => 0) () ?_ ?_ ?_)); (try simp only [Lg.std, Alg.std, List.drop_zero, List.take_length, List.take_succ_cons, List.take_zero, List.take_nil] at *); (first | refine ⟨(_, _, _, _, _, _, _, _, _), rfl, ?_, ?_⟩ | skip); (all_goals (subst hR0 hg_F_i_SameDisks hg_Q_i_SameDisks hg_F_s_SameDisks hg_Q_s_SameDisks hg_F_i_DiskFault hg_Q_i_DiskFault hg_F_i_DoActs hg_Q_i_DoActs hg_F_s_DoActs hg_Q_s_DoActs hg_F_w_lwAt hg_Q_w_lwAt hg_F_w_lwBig hg_Q_w_lwBig hg_Q_s_DrawDoActs hg_P_s_DrawDoActs; (try dsimp only [Ty.den] at *); (try simp only [Lg.std, Alg.std, List.drop_zero, List.take_length, F_i_SameDisks, F_s_SameDisks, F_i_DiskFault, F_i_DoActs, F_s_DoActs, F_w_lwAt, F_w_lwBig, Q_i_SameDisks, Q_s_SameDisks, Q_i_DiskFault, Q_i_DoActs, Q_s_DoActs, Q_w_lwAt, Q_w_lwBig, Q_s_DrawDoActs, P_s_DrawDoActs, F_w_FnActs] at *); (try dsimp only [Ty.den] at *); first | done | ((all_goals (grind)))))) | skip
      all_goals (
        refine lp_v (V := (List (List Int)) × (List PutT) × (List ActT) × (List (List Int)) × (List PutT) × (Nat) × (Nat) × (Int) × (Int)) (fun ((e0, e1, m, a1, a2, N0, N1, a0, k) : (List (List Int)) × (List PutT) × (List ActT) × (List (List Int)) × (List PutT) × (Nat) × (Nat) × (Int) × (Int)) => ⟨[Jk, Jk, Jk, .bptr 0 0, .dat (.sl (.pair (.int .i64) (.pair (.pair (.int .i64) (.pair (.sl (.int .u8)) .unit)) .unit))) m, .bptr 1 0, .dat (.int .i64) k, Jk, Jk, Jk, Jk, Jk, Jk, Jk, Jk, Jk, Jk, Jk, Jk, Jk, Jk, Jk, Jk, Jk, Jk, Jk, Jk, Jk, Jk, Jk, Jk, Jk, Jk, Jk, Jk, Jk, Jk, Jk, Jk, Jk, Jk, Jk, Jk, Jk, Jk, Jk, Jk, Jk, Jk, Jk, Jk, Jk, Jk, Jk, Jk, Jk, Jk, Jk, Jk, Jk, Jk, Jk, Jk, Jk, Jk, Jk, Jk, Jk, Jk, Jk, Jk, Jk, Jk, Jk, Jk], [some (.box [.dat (.sl (.sl (.int .u8))) e0, .dat (.sl (.pair (.int .i64) (.pair (.sl (.int .u8)) .unit))) e1]), some (.box [.dat (.int .i64) a0, .ref (.sl (.int .u8)) 2 0 [] 0 N0, .ref (.pair (.int .i64) (.pair (.sl (.int .u8)) .unit)) 3 0 [] 0 N1]), some (.row 0 (.sl (.int .u8)) (.ow .sh) a1), some (.row 0 (.pair (.int .i64) (.pair (.sl (.int .u8)) .unit)) (.pr .sh (.pr (.ow .sh) .sh)) a2)]⟩) (fun ((e0, e1, m, a1, a2, N0, N1, a0, k) : (List (List Int)) × (List PutT) × (List ActT) × (List (List Int)) × (List PutT) × (Nat) × (Nat) × (Int) × (Int)) => (smD (e0, e1, PUnit.unit) ∧ m.length ≤ 100) ∧ code.length ≤ 1048576 ∧ doActs (e0, e1, PUnit.unit) m = (0, (a1, a2, PUnit.unit), PUnit.unit) ∧ N0 = a1.length ∧ N1 = a2.length ∧ a0 = 0 ∧ 0 ≤ k ∧ k ≤ m.length) (fun ((e0, e1, m, a1, a2, N0, N1, a0, k) : (List (List Int)) × (List PutT) × (List ActT) × (List (List Int)) × (List PutT) × (Nat) × (Nat) × (Int) × (Int)) => 0) (_, _, _, _, _, _, _, _, _) rfl ?_ ?_
        · subst hR0 hg_F_i_SameDisks hg_Q_i_SameDisks hg_F_s_SameDisks hg_Q_s_SameDisks hg_F_i_DiskFault hg_Q_i_DiskFault hg_F_i_DoActs hg_Q_i_DoActs hg_F_s_DoActs hg_Q_s_DoActs hg_F_w_lwAt hg_Q_w_lwAt hg_F_w_lwBig hg_Q_w_lwBig hg_Q_s_DrawDoActs hg_P_s_DrawDoActs
          (try dsimp only [Ty.den] at *)
          (try simp only [Alg.std, List.drop_zero, List.take_length, F_i_SameDisks, F_s_SameDisks, F_i_DiskFault, F_i_DoActs, F_s_DoActs, F_w_lwAt, F_w_lwBig, Q_i_SameDisks, Q_s_SameDisks, Q_i_DiskFault, Q_i_DoActs, Q_s_DoActs, Q_w_lwAt, Q_w_lwBig, Q_s_DrawDoActs, P_s_DrawDoActs, F_w_FnActs] at *)
          (try dsimp only [Ty.den] at *)
          grind
        rintro ⟨e0, e1, m, a1, a2, N0, N1, a0, k⟩ hf I hI
        replace hf : (smD (e0, e1, PUnit.unit) ∧ m.length ≤ 100) ∧ code.length ≤ 1048576 ∧ doActs (e0, e1, PUnit.unit) m = (0, (a1, a2, PUnit.unit), PUnit.unit) ∧ N0 = a1.length ∧ N1 = a2.length ∧ a0 = 0 ∧ 0 ≤ k ∧ k ≤ m.length := hf
        generalize hL : Lg.std = L
        generalize hA : Alg.std = A
        cbv
        subst hL hA
        try dsimp only [Ty.den]
        subst hI
        obtain ⟨h1, h2, h3, h4, h5, h6, h7, h8⟩ := hf
        clear hcu
        subst h4 h5
        have hst := smD_tot _ h1.1
        have hal := acts_law (e0, e1, PUnit.unit) m k.toNat
        rw [h3] at hal
        have ht2 := doActs_tot (e0, e1, PUnit.unit) (m.take k.toNat)
        repeat' (first | intro _ | apply And.intro)
        all_goals first | (with_reducible exact True.intro) | ((fail_if_success (refine lp_v (V := Unit) (fun _ => ⟨[], []⟩) (fun _ => True) (fun _ => 0) () ?_ ?_ ?_)); (try simp only [Lg.std, Alg.std, List.drop_zero, List.take_length, List.take_succ_cons, List.take_zero, List.take_nil] at *); (first | refine ⟨(_, _, _, _, _, _, _, _, _, _, _, _, _, _), rfl, ?_, ?_⟩ | skip); (all_goals (subst hR0 hg_F_i_SameDisks hg_Q_i_SameDisks hg_F_s_SameDisks hg_Q_s_SameDisks hg_F_i_DiskFault hg_Q_i_DiskFault hg_F_i_DoActs hg_Q_i_DoActs hg_F_s_DoActs hg_Q_s_DoActs hg_F_w_lwAt hg_Q_w_lwAt hg_F_w_lwBig hg_Q_w_lwBig hg_Q_s_DrawDoActs hg_P_s_DrawDoActs; (try dsimp only [Ty.den] at *); (try simp only [Lg.std, Alg.std, List.drop_zero, List.take_length, F_i_SameDisks, F_s_SameDisks, F_i_DiskFault, F_i_DoActs, F_s_DoActs, F_w_lwAt, F_w_lwBig, Q_i_SameDisks, Q_s_SameDisks, Q_i_DiskFault, Q_i_DoActs, Q_s_DoActs, Q_w_lwAt, Q_w_lwBig, Q_s_DrawDoActs, P_s_DrawDoActs, F_w_FnActs] at *); (try dsimp only [Ty.den] at *); first | done | ((try simp only [Int.toNat_zero, Nat.sub_zero, List.drop_zero, Int.toNat_natCast, drop_all] at *); (try generalize hOn : doActs (e0, e1, PUnit.unit) (List.take k.toNat m) = OO at *); (try obtain ⟨B0, ⟨B1, B2, ⟨⟩⟩, ⟨⟩⟩ := OO); (try dsimp only at *); (all_goals (grind)))))) | skip
        all_goals (
          refine lp_v (V := (List (List Int)) × (List PutT) × (List ActT) × (List (List Int)) × (List PutT) × (Nat) × (Nat) × (Int) × (Int) × (List (List Int)) × (List PutT) × (Nat) × (Nat) × (Int)) (fun ((e0, e1, m, a1, a2, N0, N1, a0, k, b1, b2, N2, N3, b0) : (List (List Int)) × (List PutT) × (List ActT) × (List (List Int)) × (List PutT) × (Nat) × (Nat) × (Int) × (Int) × (List (List Int)) × (List PutT) × (Nat) × (Nat) × (Int)) => ⟨[Jk, Jk, Jk, .bptr 0 0, .dat (.sl (.pair (.int .i64) (.pair (.pair (.int .i64) (.pair (.sl (.int .u8)) .unit)) .unit))) m, .bptr 1 0, .dat (.int .i64) k, .bptr 4 0, Jk, Jk, Jk, Jk, Jk, Jk, Jk, Jk, Jk, Jk, Jk, Jk, Jk, Jk, Jk, Jk, Jk, Jk, Jk, Jk, Jk, Jk, Jk, Jk, Jk, Jk, Jk, Jk, Jk, Jk, Jk, Jk, Jk, Jk, Jk, Jk, Jk, Jk, Jk, Jk, Jk, Jk, Jk, Jk, Jk, Jk, Jk, Jk, Jk, Jk, Jk, Jk, Jk, Jk, Jk, Jk, Jk, Jk, Jk, Jk, Jk, Jk, Jk, Jk, Jk, Jk, Jk], [some (.box [.dat (.sl (.sl (.int .u8))) e0, .dat (.sl (.pair (.int .i64) (.pair (.sl (.int .u8)) .unit))) e1]), some (.box [.dat (.int .i64) a0, .ref (.sl (.int .u8)) 2 0 [] 0 N0, .ref (.pair (.int .i64) (.pair (.sl (.int .u8)) .unit)) 3 0 [] 0 N1]), some (.row 0 (.sl (.int .u8)) (.ow .sh) a1), some (.row 0 (.pair (.int .i64) (.pair (.sl (.int .u8)) .unit)) (.pr .sh (.pr (.ow .sh) .sh)) a2), some (.box [.dat (.int .i64) b0, .ref (.sl (.int .u8)) 5 0 [] 0 N2, .ref (.pair (.int .i64) (.pair (.sl (.int .u8)) .unit)) 6 0 [] 0 N3]), some (.row 0 (.sl (.int .u8)) (.ow .sh) b1), some (.row 0 (.pair (.int .i64) (.pair (.sl (.int .u8)) .unit)) (.pr .sh (.pr (.ow .sh) .sh)) b2)]⟩) (fun ((e0, e1, m, a1, a2, N0, N1, a0, k, b1, b2, N2, N3, b0) : (List (List Int)) × (List PutT) × (List ActT) × (List (List Int)) × (List PutT) × (Nat) × (Nat) × (Int) × (Int) × (List (List Int)) × (List PutT) × (Nat) × (Nat) × (Int)) => (smD (e0, e1, PUnit.unit) ∧ m.length ≤ 100) ∧ code.length ≤ 1048576 ∧ doActs (e0, e1, PUnit.unit) m = (0, (a1, a2, PUnit.unit), PUnit.unit) ∧ N0 = a1.length ∧ N1 = a2.length ∧ a0 = 0 ∧ 0 ≤ k ∧ k ≤ m.length ∧ N2 = b1.length ∧ N3 = b2.length ∧ b0 = 0 ∧ tot tDisk (b1, b2, PUnit.unit) ≤ 20176 ∧ doActs (b1, b2, PUnit.unit) (List.drop k.toNat m) = (0, (a1, a2, PUnit.unit), PUnit.unit) ∧ diskFault (a1, a2, PUnit.unit) = 0) (fun ((e0, e1, m, a1, a2, N0, N1, a0, k, b1, b2, N2, N3, b0) : (List (List Int)) × (List PutT) × (List ActT) × (List (List Int)) × (List PutT) × (Nat) × (Nat) × (Int) × (Int) × (List (List Int)) × (List PutT) × (Nat) × (Nat) × (Int)) => 0) (_, _, _, _, _, _, _, _, _, _, _, _, _, _) rfl ?_ ?_
          · subst hR0 hg_F_i_SameDisks hg_Q_i_SameDisks hg_F_s_SameDisks hg_Q_s_SameDisks hg_F_i_DiskFault hg_Q_i_DiskFault hg_F_i_DoActs hg_Q_i_DoActs hg_F_s_DoActs hg_Q_s_DoActs hg_F_w_lwAt hg_Q_w_lwAt hg_F_w_lwBig hg_Q_w_lwBig hg_Q_s_DrawDoActs hg_P_s_DrawDoActs
            (try dsimp only [Ty.den] at *)
            (try simp only [Alg.std, List.drop_zero, List.take_length, F_i_SameDisks, F_s_SameDisks, F_i_DiskFault, F_i_DoActs, F_s_DoActs, F_w_lwAt, F_w_lwBig, Q_i_SameDisks, Q_s_SameDisks, Q_i_DiskFault, Q_i_DoActs, Q_s_DoActs, Q_w_lwAt, Q_w_lwBig, Q_s_DrawDoActs, P_s_DrawDoActs, F_w_FnActs] at *)
            (try dsimp only [Ty.den] at *)
            (try simp only [Int.toNat_zero, Nat.sub_zero, List.drop_zero, Int.toNat_natCast, drop_all] at *); (try generalize hOn : doActs (e0, e1, PUnit.unit) (List.take k.toNat m) = OO at *); (try obtain ⟨B0, ⟨B1, B2, ⟨⟩⟩, ⟨⟩⟩ := OO); (try dsimp only at *); grind
          rintro ⟨e0, e1, m, a1, a2, N0, N1, a0, k, b1, b2, N2, N3, b0⟩ hf I hI
          replace hf : (smD (e0, e1, PUnit.unit) ∧ m.length ≤ 100) ∧ code.length ≤ 1048576 ∧ doActs (e0, e1, PUnit.unit) m = (0, (a1, a2, PUnit.unit), PUnit.unit) ∧ N0 = a1.length ∧ N1 = a2.length ∧ a0 = 0 ∧ 0 ≤ k ∧ k ≤ m.length ∧ N2 = b1.length ∧ N3 = b2.length ∧ b0 = 0 ∧ tot tDisk (b1, b2, PUnit.unit) ≤ 20176 ∧ doActs (b1, b2, PUnit.unit) (List.drop k.toNat m) = (0, (a1, a2, PUnit.unit), PUnit.unit) ∧ diskFault (a1, a2, PUnit.unit) = 0 := hf
          generalize hL : Lg.std = L
          generalize hA : Alg.std = A
          cbv
          subst hL hA
          try dsimp only [Ty.den]
          subst hI
          obtain ⟨h1, h2, h3, h4, h5, h6, h7, h8, h9, h10, h11, h12, h13, h14⟩ := hf
          clear hal ht2
          subst h4 h5 h9 h10
          repeat' (first | intro _ | apply And.intro)
          all_goals first | (with_reducible exact True.intro) | ((fail_if_success (refine lp_v (V := Unit) (fun _ => ⟨[], []⟩) (fun _ => True) (fun _ => 0) () ?_ ?_ ?_)); (try simp only [Lg.std, Alg.std, List.drop_zero, List.take_length, List.take_succ_cons, List.take_zero, List.take_nil] at *); (first | refine ⟨(_, _, _, _, _, _, _, _, _, _, _, _, _, _, _, _, _, _), rfl, ?_, ?_⟩ | skip); (all_goals (subst hR0 hg_F_i_SameDisks hg_Q_i_SameDisks hg_F_s_SameDisks hg_Q_s_SameDisks hg_F_i_DiskFault hg_Q_i_DiskFault hg_F_i_DoActs hg_Q_i_DoActs hg_F_s_DoActs hg_Q_s_DoActs hg_F_w_lwAt hg_Q_w_lwAt hg_F_w_lwBig hg_Q_w_lwBig hg_Q_s_DrawDoActs hg_P_s_DrawDoActs; (try dsimp only [Ty.den] at *); (try simp only [Lg.std, Alg.std, List.drop_zero, List.take_length, F_i_SameDisks, F_s_SameDisks, F_i_DiskFault, F_i_DoActs, F_s_DoActs, F_w_lwAt, F_w_lwBig, Q_i_SameDisks, Q_s_SameDisks, Q_i_DiskFault, Q_i_DoActs, Q_s_DoActs, Q_w_lwAt, Q_w_lwBig, Q_s_DrawDoActs, P_s_DrawDoActs, F_w_FnActs] at *); (try dsimp only [Ty.den] at *); first | done | ((try simp only [Int.toNat_zero, Nat.sub_zero, List.drop_zero, Int.toNat_natCast, drop_all] at *); (try generalize hTw : doActs (b1, b2, PUnit.unit) (List.drop k.toNat m) = TT at *); (try obtain ⟨C0, ⟨C1, C2, ⟨⟩⟩, ⟨⟩⟩ := TT); (try dsimp only at *); (all_goals (grind)))))) | skip
          all_goals (
            refine lp_v (V := (List (List Int)) × (List PutT) × (List ActT) × (List (List Int)) × (List PutT) × (Nat) × (Nat) × (Int) × (List (List Int)) × (List PutT) × (Nat) × (Nat) × (Int) × (List (List Int)) × (List PutT) × (Nat) × (Nat) × (Int)) (fun ((e0, e1, m, a1, a2, N0, N1, a0, b1, b2, N2, N3, b0, c1, c2, N4, N5, c0) : (List (List Int)) × (List PutT) × (List ActT) × (List (List Int)) × (List PutT) × (Nat) × (Nat) × (Int) × (List (List Int)) × (List PutT) × (Nat) × (Nat) × (Int) × (List (List Int)) × (List PutT) × (Nat) × (Nat) × (Int)) => ⟨[Jk, Jk, Jk, .bptr 0 0, .dat (.sl (.pair (.int .i64) (.pair (.pair (.int .i64) (.pair (.sl (.int .u8)) .unit)) .unit))) m, .bptr 1 0, Jk, .bptr 4 0, .bptr 7 0, Jk, Jk, Jk, Jk, Jk, Jk, Jk, Jk, Jk, Jk, Jk, Jk, Jk, Jk, Jk, Jk, Jk, Jk, Jk, Jk, Jk, Jk, Jk, Jk, Jk, Jk, Jk, Jk, Jk, Jk, Jk, Jk, Jk, Jk, Jk, Jk, Jk, Jk, Jk, Jk, Jk, Jk, Jk, Jk, Jk, Jk, Jk, Jk, Jk, Jk, Jk, Jk, Jk, Jk, Jk, Jk, Jk, Jk, Jk, Jk, Jk, Jk, Jk, Jk, Jk, Jk], [some (.box [.dat (.sl (.sl (.int .u8))) e0, .dat (.sl (.pair (.int .i64) (.pair (.sl (.int .u8)) .unit))) e1]), some (.box [.dat (.int .i64) a0, .ref (.sl (.int .u8)) 2 0 [] 0 N0, .ref (.pair (.int .i64) (.pair (.sl (.int .u8)) .unit)) 3 0 [] 0 N1]), some (.row 0 (.sl (.int .u8)) (.ow .sh) a1), some (.row 0 (.pair (.int .i64) (.pair (.sl (.int .u8)) .unit)) (.pr .sh (.pr (.ow .sh) .sh)) a2), some (.box [.dat (.int .i64) b0, .ref (.sl (.int .u8)) 5 0 [] 0 N2, .ref (.pair (.int .i64) (.pair (.sl (.int .u8)) .unit)) 6 0 [] 0 N3]), some (.row 0 (.sl (.int .u8)) (.ow .sh) b1), some (.row 0 (.pair (.int .i64) (.pair (.sl (.int .u8)) .unit)) (.pr .sh (.pr (.ow .sh) .sh)) b2), some (.box [.dat (.int .i64) c0, .ref (.sl (.int .u8)) 8 0 [] 0 N4, .ref (.pair (.int .i64) (.pair (.sl (.int .u8)) .unit)) 9 0 [] 0 N5]), some (.row 0 (.sl (.int .u8)) (.ow .sh) c1), some (.row 0 (.pair (.int .i64) (.pair (.sl (.int .u8)) .unit)) (.pr .sh (.pr (.ow .sh) .sh)) c2)]⟩) (fun ((e0, e1, m, a1, a2, N0, N1, a0, b1, b2, N2, N3, b0, c1, c2, N4, N5, c0) : (List (List Int)) × (List PutT) × (List ActT) × (List (List Int)) × (List PutT) × (Nat) × (Nat) × (Int) × (List (List Int)) × (List PutT) × (Nat) × (Nat) × (Int) × (List (List Int)) × (List PutT) × (Nat) × (Nat) × (Int)) => (smD (e0, e1, PUnit.unit) ∧ m.length ≤ 100) ∧ code.length ≤ 1048576 ∧ doActs (e0, e1, PUnit.unit) m = (0, (a1, a2, PUnit.unit), PUnit.unit) ∧ N0 = a1.length ∧ N1 = a2.length ∧ a0 = 0 ∧ N2 = b1.length ∧ N3 = b2.length ∧ b0 = 0 ∧ diskFault (a1, a2, PUnit.unit) = 0 ∧ N4 = c1.length ∧ N5 = c2.length ∧ c0 = 0 ∧ c1 = a1 ∧ c2 = a2) (fun ((e0, e1, m, a1, a2, N0, N1, a0, b1, b2, N2, N3, b0, c1, c2, N4, N5, c0) : (List (List Int)) × (List PutT) × (List ActT) × (List (List Int)) × (List PutT) × (Nat) × (Nat) × (Int) × (List (List Int)) × (List PutT) × (Nat) × (Nat) × (Int) × (List (List Int)) × (List PutT) × (Nat) × (Nat) × (Int)) => 0) (_, _, _, _, _, _, _, _, _, _, _, _, _, _, _, _, _, _) rfl ?_ ?_
            · subst hR0 hg_F_i_SameDisks hg_Q_i_SameDisks hg_F_s_SameDisks hg_Q_s_SameDisks hg_F_i_DiskFault hg_Q_i_DiskFault hg_F_i_DoActs hg_Q_i_DoActs hg_F_s_DoActs hg_Q_s_DoActs hg_F_w_lwAt hg_Q_w_lwAt hg_F_w_lwBig hg_Q_w_lwBig hg_Q_s_DrawDoActs hg_P_s_DrawDoActs
              (try dsimp only [Ty.den] at *)
              (try simp only [Alg.std, List.drop_zero, List.take_length, F_i_SameDisks, F_s_SameDisks, F_i_DiskFault, F_i_DoActs, F_s_DoActs, F_w_lwAt, F_w_lwBig, Q_i_SameDisks, Q_s_SameDisks, Q_i_DiskFault, Q_i_DoActs, Q_s_DoActs, Q_w_lwAt, Q_w_lwBig, Q_s_DrawDoActs, P_s_DrawDoActs, F_w_FnActs] at *)
              (try dsimp only [Ty.den] at *)
              (try simp only [Int.toNat_zero, Nat.sub_zero, List.drop_zero, Int.toNat_natCast, drop_all] at *); (try generalize hTw : doActs (b1, b2, PUnit.unit) (List.drop k.toNat m) = TT at *); (try obtain ⟨C0, ⟨C1, C2, ⟨⟩⟩, ⟨⟩⟩ := TT); (try dsimp only at *); grind
            rintro ⟨e0, e1, m, a1, a2, N0, N1, a0, b1, b2, N2, N3, b0, c1, c2, N4, N5, c0⟩ hf I hI
            replace hf : (smD (e0, e1, PUnit.unit) ∧ m.length ≤ 100) ∧ code.length ≤ 1048576 ∧ doActs (e0, e1, PUnit.unit) m = (0, (a1, a2, PUnit.unit), PUnit.unit) ∧ N0 = a1.length ∧ N1 = a2.length ∧ a0 = 0 ∧ N2 = b1.length ∧ N3 = b2.length ∧ b0 = 0 ∧ diskFault (a1, a2, PUnit.unit) = 0 ∧ N4 = c1.length ∧ N5 = c2.length ∧ c0 = 0 ∧ c1 = a1 ∧ c2 = a2 := hf
            generalize hL : Lg.std = L
            generalize hA : Alg.std = A
            cbv
            subst hL hA
            try dsimp only [Ty.den]
            subst hI
            obtain ⟨h1, h2, h3, h4, h5, h6, h7, h8, h9, h10, h11, h12, h13, h14, h15⟩ := hf
            subst h4 h5 h7 h8 h11 h12
            have hst := smD_tot _ h1.1
            repeat' (first | intro _ | apply And.intro)
            all_goals first | (with_reducible exact True.intro) | ((fail_if_success (refine lp_v (V := Unit) (fun _ => ⟨[], []⟩) (fun _ => True) (fun _ => 0) () ?_ ?_ ?_)); (try simp only [Lg.std, Alg.std, List.drop_zero, List.take_length, List.take_succ_cons, List.take_zero, List.take_nil] at *); (first | refine ⟨(_, _, _, _, _, _, _, _, _, _, _, _, _, _, _, _, _, _), rfl, ?_, ?_⟩ | skip); (all_goals (subst hR0 hg_F_i_SameDisks hg_Q_i_SameDisks hg_F_s_SameDisks hg_Q_s_SameDisks hg_F_i_DiskFault hg_Q_i_DiskFault hg_F_i_DoActs hg_Q_i_DoActs hg_F_s_DoActs hg_Q_s_DoActs hg_F_w_lwAt hg_Q_w_lwAt hg_F_w_lwBig hg_Q_w_lwBig hg_Q_s_DrawDoActs hg_P_s_DrawDoActs; (try dsimp only [Ty.den] at *); (try simp only [Lg.std, Alg.std, List.drop_zero, List.take_length, F_i_SameDisks, F_s_SameDisks, F_i_DiskFault, F_i_DoActs, F_s_DoActs, F_w_lwAt, F_w_lwBig, Q_i_SameDisks, Q_s_SameDisks, Q_i_DiskFault, Q_i_DoActs, Q_s_DoActs, Q_w_lwAt, Q_w_lwBig, Q_s_DrawDoActs, P_s_DrawDoActs, F_w_FnActs] at *); (try dsimp only [Ty.den] at *); first | done | ((try simp only [h3] at *); (all_goals (grind)))))) | skip)))))
def con_w_FnActs : Con := ⟨true, g1 (pD (.sl (.int .u8))) fun code => .one ⟨[Q_w_FnActs code], [⟨.bool, .sh, F_w_FnActs code⟩], []⟩, [], false, 0⟩
theorem ok_w_FnActs : ConOk pg 8 con_w_FnActs := ConOk.g1 (Enters.of (by kernel_rfl)) ct_w_FnActs
end Go.Vee
