/-
  Contracts of functions of the program: what each returns for all arguments that its precondition lets in.
-/
import Derived.Test.YtjlojjkfdidkiaaVK8
set_option linter.unusedSimpArgs false
set_option linter.unusedVariables false
set_option maxRecDepth 100000
set_option maxHeartbeats 4000000
set_option synthInstance.maxHeartbeats 4000000
set_option synthInstance.maxSize 20000000
namespace Go.Vee
open Go
def findG {α : Type} (p : α → Bool) : List α → Int → Int
  | [], _ => -1
  | x :: l, i => if p x = true then i else findG p l (i + 1)
theorem findG_cons {α : Type} (p : α → Bool) (x : α) (l : List α) (i : Int) : findG p (x :: l) i = if p x = true then i else findG p l (i + 1) := rfl
theorem findG_nil {α : Type} (p : α → Bool) (i : Int) : findG p [] i = -1 := rfl
theorem findG_any {α : Type} (p : α → Bool) : ∀ (l : List α) (i : Int), 0 ≤ i → decide (0 ≤ findG p l i) = l.any p
  | [], i, h => rfl
  | x :: l, i, h => by
    have := findG_any p l (i + 1) (by omega)
    simp only [findG, List.any_cons]
    split <;> simp_all
def rise : List Int → Bool
  | x :: y :: l => decide (x < y) && rise (y :: l)
  | _ => true
theorem any_contains (a : List Int) (n : Int) : a.any (fun x => decide (n = x)) = a.contains n := by
  induction a with
  | nil => rfl
  | cons x l ih => simp [List.any_cons, ih, List.contains_cons, BEq.beq]
abbrev PutT := Int × List Int × Unit
abbrev putD : PutT := (0, [], ())
def putsBad (n : Int) : List PutT → Int
  | [] => 0
  | p :: l => if ¬ (0 ≤ p.1 ∧ p.1 ≤ n - 1) then 3 else if p.2.1.length ≠ 96 then 1 else putsBad n l
theorem putsBad_step (n : Int) (l : List PutT) (i : Nat) (h : i < l.length) : putsBad n (l.drop i) = if ¬ (0 ≤ (l.getD i putD).1 ∧ (l.getD i putD).1 ≤ n - 1) then 3 else if (l.getD i putD).2.1.length ≠ 96 then 1 else putsBad n (l.drop (i + 1)) := by
  rw [drop_cons l putD i h]; rfl
theorem putsBad_end (n : Int) (l : List PutT) (i : Nat) (h : l.length ≤ i) : putsBad n (l.drop i) = 0 := by rw [drop_nil l i h]; rfl
def seenP (l : List PutT) (i j : Nat) : Bool := (l.take j).any (fun x => decide ((l.getD i putD).1 = x.1))
def dupTo (l : List PutT) : Nat → Bool
  | 0 => false
  | i + 1 => dupTo l i || seenP l i i
theorem seen_zero (l : List PutT) (i : Nat) : seenP l i 0 = false := rfl
theorem seen_succ (l : List PutT) (i j : Nat) (h : j < l.length) : seenP l i (j + 1) = (seenP l i j || decide ((l.getD i putD).1 = (l.getD j putD).1)) := by
  unfold seenP
  have e : l.getD j putD = l[j] := by simp [List.getD_eq_getElem?_getD, h]
  rw [List.take_add_one, List.getElem?_eq_getElem h, e]
  simp only [Option.toList_some, List.any_append, List.any_cons, List.any_nil, Bool.or_false]
theorem dup_mono (l : List PutT) (i j : Nat) (h : i ≤ j) (hd : dupTo l i = true) : dupTo l j = true := by
  induction j with
  | zero => rwa [show i = 0 by omega] at hd
  | succ j ih =>
    by_cases e : i = j + 1
    · rwa [e] at hd
    · simp [dupTo, ih (by omega)]
theorem seen_mono (l : List PutT) (i j k : Nat) (h : j ≤ k) (hd : seenP l i j = true) : seenP l i k = true := by
  unfold seenP at *
  rw [List.any_eq_true] at *
  obtain ⟨x, hx, hp⟩ := hd
  exact ⟨x, (List.take_subset_take_left l h) hx, hp⟩
theorem dup_hit (l : List PutT) (i j : Nat) (hi : i < l.length) (hj : j < i) (h : (l.getD i putD).1 = (l.getD j putD).1) : dupTo l l.length = true := by
  refine dup_mono l (i + 1) _ (by omega) ?_
  have h1 := seen_succ l i j (by omega)
  have h2 := seen_mono l i (j + 1) i (by omega) (by rw [h1]; simp only [h, decide_true, Bool.or_true])
  simp [dupTo, h2]
theorem findP_spec (l : List PutT) (s : Int) : ∀ (k : Nat) (r : List PutT), (∀ x, r.length = x → True) → findG (fun x => decide (x.1 = s)) r k = -1 ∨ ∃ j, j < r.length ∧ findG (fun x => decide (x.1 = s)) r k = (k + j : Nat) ∧ (r.getD j putD).1 = s ∧ (r.take j).any (fun x => decide (s = x.1)) = false
  | k, [], _ => .inl rfl
  | k, x :: r, _ => by
    by_cases hx : x.1 = s
    · refine .inr ⟨0, by simp, ?_, by simpa using hx, rfl⟩
      simp [findG, hx]
    · rcases findP_spec l s (k + 1) r (fun _ _ => trivial) with h | ⟨j, h1, h2, h3, h4⟩
      · left
        have : findG (fun x => decide (x.1 = s)) (x :: r) k = findG (fun x => decide (x.1 = s)) r (k + 1 : Nat) := by simp [findG, hx]
        rw [this, h]
      · right
        refine ⟨j + 1, by simp; omega, ?_, by simpa using h3, ?_⟩
        · have : findG (fun x => decide (x.1 = s)) (x :: r) k = findG (fun x => decide (x.1 = s)) r (k + 1 : Nat) := by simp [findG, hx]
          rw [this, h2]; congr 1; omega
        · simp only [List.take_succ_cons, List.any_cons, h4, Bool.or_false, decide_eq_false_iff_not]
          exact fun e => hx e.symm
theorem getD_mem {α : Type} (l : List α) (d : α) (i : Nat) (h : i < l.length) : l.getD i d ∈ l := by
  rw [List.getD_eq_getElem?_getD, List.getElem?_eq_getElem h]; simp
theorem find_seen (l : List PutT) (i : Nat) (hi : i < l.length) : (decide (findG (fun x => decide (x.1 = (l.getD i putD).1)) l 0 = (i : Int))) = !seenP l i i := by
  have ha := findG_any (fun x : PutT => decide (x.1 = (l.getD i putD).1)) l 0 (by omega)
  have hb : l.any (fun x : PutT => decide (x.1 = (l.getD i putD).1)) = true := by
    rw [List.any_eq_true]; exact ⟨_, getD_mem l putD i hi, by simp⟩
  rw [hb] at ha
  rcases findP_spec l (l.getD i putD).1 0 l (fun _ _ => trivial) with h | ⟨j, h1, h2, h3, h4⟩
  · rw [show ((0 : Nat) : Int) = 0 from rfl] at h
    rw [h] at ha
    simp at ha
  · rw [show ((0 : Nat) : Int) = 0 from rfl] at h2
    rw [h2]
    by_cases e : j = i
    · subst e
      have : seenP l j j = false := h4
      rw [this]; simp
    · by_cases hlt : j < i
      · have s1 := seen_succ l i j (by omega)
        have s2 := seen_mono l i (j + 1) i (by omega) (by rw [s1]; simp only [h3, decide_true, Bool.or_true])
        rw [s2]
        simp; omega
      · exfalso
        have : (l.getD i putD) ∈ l.take j := by
          rw [List.mem_take_iff_getElem]
          exact ⟨i, by omega, by simp [List.getD_eq_getElem?_getD, hi]⟩
        have h5 := List.any_eq_false.1 h4 _ this
        simp at h5
def diskFault (d : List (List Int) × List PutT × Unit) : Int :=
  if ¬ (8 ≤ d.1.length ∧ d.1.length ≤ 64) then 2 else if d.1.any (fun b => !decide (b.length = 96)) = true then 1 else if d.2.1.length > d.1.length then 2
  else if putsBad d.1.length d.2.1 ≠ 0 then putsBad d.1.length d.2.1 else if dupTo d.2.1 d.2.1.length = true then 6 else 0
theorem dup_seen (l : List PutT) (i : Nat) (hi : i < l.length) (h : seenP l i i = true) : dupTo l l.length = true :=
  dup_mono l (i + 1) _ (by omega) (by simp [dupTo, h])
theorem dup_succ (l : List PutT) (i : Nat) : dupTo l (i + 1) = (dupTo l i || seenP l i i) := rfl

def F_s_l1Has (a : List (Int)) (n : Int) : Bool := a.contains n
def Q_s_l1Has (a : List (Int)) (n : Int) : Prop := True
def O_s_l1Has : Opt := ⟨fun i => false, fun i => (match decide (i = 2) with | true => [true, true, false, false, false, true, false, false, false, false, false, false, false, false, false, false, false, false] | false => []), fun i => .done, fun i => none, fun i => false, fun i => [], fun i => false, fun i => none, fun i => none⟩
def τ_s_l1Has : Env := Env.of [(2, (.int .i64)), (3, (.int .i64)), (4, .bool), (75, (.sl (.int .i64)))] [] []

theorem ct_s_l1Has (a : List (Int)) (n : Int) : Ct pg 126 [.dat (.sl (.int .i64)) a, .dat (.int .i64) n] ⟨[Q_s_l1Has a n], [⟨.bool, .sh, F_s_l1Has a n⟩], []⟩ := by
  refine ct_claim (O := O_s_l1Has) (τ := τ_s_l1Has) (EnvOk.of (by kernel_rfl) (by kernel_rfl)) (GOk.of (.nil : AllOk pg [])) mixed (Enters.of (by kernel_rfl)) (fn := Go.Proofs.Try.f126) (by kernel_rfl) rfl (by kernel_rfl) ?_
  intro hp hw
  have hq : Q_s_l1Has a n := hp _ (List.mem_singleton.2 rfl)
  clear hp
  change claim Lg.std Alg.std τ_s_l1Has (Gam.of []) O_s_l1Has Go.Proofs.Try.f126 [.dat (.sl (.int .i64)) a, .dat (.int .i64) n] ⟨[Q_s_l1Has a n], [⟨.bool, .sh, F_s_l1Has a n⟩], []⟩
  generalize hR0 : F_s_l1Has a n = R0
  generalize Q_s_l1Has a n = Q0
  generalize hL : Lg.std = L
  generalize hA : Alg.std = A
  cbv
  subst hL hA
  try dsimp only [Ty.den]
  refine lp_v (V := (Int)) (fun (i : Int) => ⟨[.dat (.sl (.int .i64)) a, .dat (.int .i64) n, Jk, Jk, Jk, .dat (.int .i64) i, Jk, Jk, Jk, Jk, Jk, Jk, Jk, Jk, Jk, Jk, Jk, Jk], []⟩) (fun (i : Int) => 0 ≤ i ∧ i ≤ a.length ∧ a.contains n = (a.drop i.toNat).contains n) (fun (i : Int) => a.length - i.toNat) (0) rfl ?_ ?_
  · simp
  rintro i hf I hI
  replace hf : 0 ≤ i ∧ i ≤ a.length ∧ a.contains n = (a.drop i.toNat).contains n := hf
  generalize hL : Lg.std = L
  generalize hA : Alg.std = A
  cbv
  subst hL hA
  try dsimp only [Ty.den]
  subst hI
  simp only [Lg.std, Alg.std, List.drop_zero, List.take_length]
  obtain ⟨h1, h2, h3⟩ := hf
  have hl := hw.1.1
  have hdc := fun (h : i.toNat < a.length) => drop_cons a 0 i.toNat h
  have he := fun (h : a.length ≤ i.toNat) => drop_nil a i.toNat h
  repeat' (first | intro _ | apply And.intro)
  all_goals (try refine ⟨_, rfl, ?_, ?_⟩)
  all_goals subst hR0
  all_goals (try simp only [F_s_l1Has] at *)
  all_goals grind
def con_s_l1Has : Con := ⟨true, g2 (pD (.sl (.int .i64))) (pD (.int .i64)) fun a n => .one ⟨[Q_s_l1Has a n], [⟨.bool, .sh, F_s_l1Has a n⟩], []⟩, [], false, 0⟩
theorem ok_s_l1Has : ConOk pg 126 con_s_l1Has := ConOk.g2 (Enters.of (by kernel_rfl)) ct_s_l1Has

def F_sl_Index_int64 (a : List (Int)) (n : Int) : Int := findG (fun x => decide (n = x)) a 0
def Q_sl_Index_int64 (a : List (Int)) (n : Int) : Prop := True
def O_sl_Index_int64 : Opt := ⟨fun i => false, fun i => (match decide (i = 2) with | true => [true, true, false, false, false, false, false, true, true, false, false, false, false, false, false, false, false, false, false] | false => []), fun i => .done, fun i => none, fun i => false, fun i => [], fun i => false, fun i => none, fun i => none⟩
def τ_sl_Index_int64 : Env := Env.of [(2, (.int .i64)), (3, (.int .i64)), (4, .bool), (75, (.sl (.int .i64)))] [] []

theorem ct_sl_Index_int64 (a : List (Int)) (n : Int) : Ct pg 139 [.dat (.sl (.int .i64)) a, .dat (.int .i64) n] ⟨[Q_sl_Index_int64 a n], [⟨(.int .i64), .sh, F_sl_Index_int64 a n⟩], []⟩ := by
  refine ct_claim (O := O_sl_Index_int64) (τ := τ_sl_Index_int64) (EnvOk.of (by kernel_rfl) (by kernel_rfl)) (GOk.of (.nil : AllOk pg [])) mixed (Enters.of (by kernel_rfl)) (fn := Go.Proofs.Try.f139) (by kernel_rfl) rfl (by kernel_rfl) ?_
  intro hp hw
  have hq : Q_sl_Index_int64 a n := hp _ (List.mem_singleton.2 rfl)
  clear hp
  change claim Lg.std Alg.std τ_sl_Index_int64 (Gam.of []) O_sl_Index_int64 Go.Proofs.Try.f139 [.dat (.sl (.int .i64)) a, .dat (.int .i64) n] ⟨[Q_sl_Index_int64 a n], [⟨(.int .i64), .sh, F_sl_Index_int64 a n⟩], []⟩
  generalize hR0 : F_sl_Index_int64 a n = R0
  generalize Q_sl_Index_int64 a n = Q0
  generalize hL : Lg.std = L
  generalize hA : Alg.std = A
  cbv
  subst hL hA
  try dsimp only [Ty.den]
  refine lp_v (V := (Int) × (Int)) (fun ((i, M) : (Int) × (Int)) => ⟨[.dat (.sl (.int .i64)) a, .dat (.int .i64) n, Jk, Jk, Jk, Jk, Jk, .dat (.int .i64) M, .dat (.int .i64) i, Jk, Jk, Jk, Jk, Jk, Jk, Jk, Jk, Jk, Jk], []⟩) (fun ((i, M) : (Int) × (Int)) => M = a.length ∧ 0 ≤ i ∧ i ≤ a.length ∧ findG (fun x => decide (n = x)) a 0 = findG (fun x => decide (n = x)) (a.drop i.toNat) i) (fun ((i, M) : (Int) × (Int)) => a.length - i.toNat) (0, _) rfl ?_ ?_
  · simp [Alg.std]
  rintro ⟨i, M⟩ hf I hI
  replace hf : M = a.length ∧ 0 ≤ i ∧ i ≤ a.length ∧ findG (fun x => decide (n = x)) a 0 = findG (fun x => decide (n = x)) (a.drop i.toNat) i := hf
  generalize hL : Lg.std = L
  generalize hA : Alg.std = A
  cbv
  subst hL hA
  try dsimp only [Ty.den]
  subst hI
  simp only [Lg.std, Alg.std, List.drop_zero, List.take_length]
  obtain ⟨h1, h2, h3, h4⟩ := hf
  have hl := hw.1.1
  have hdc := fun (h : i.toNat < a.length) => drop_cons a 0 i.toNat h
  have he := fun (h : a.length ≤ i.toNat) => drop_nil a i.toNat h
  repeat' (first | intro _ | apply And.intro)
  all_goals (try refine ⟨(_, _), rfl, ?_, ?_⟩)
  all_goals subst hR0
  all_goals (try simp only [F_sl_Index_int64] at *)
  all_goals grind [findG_cons, findG_nil]
def con_sl_Index_int64 : Con := ⟨true, g2 (pD (.sl (.int .i64))) (pD (.int .i64)) fun a n => .one ⟨[Q_sl_Index_int64 a n], [⟨(.int .i64), .sh, F_sl_Index_int64 a n⟩], []⟩, [], false, 0⟩
theorem ok_sl_Index_int64 : ConOk pg 139 con_sl_Index_int64 := ConOk.g2 (Enters.of (by kernel_rfl)) ct_sl_Index_int64

def F_sl_Contains_int64 (a : List (Int)) (n : Int) : Bool := a.contains n
def Q_sl_Contains_int64 (a : List (Int)) (n : Int) : Prop := True
def O_sl_Contains_int64 : Opt := ⟨fun i => false, fun i => [], fun i => .done, fun i => none, fun i => false, fun i => [], fun i => false, fun i => none, fun i => none⟩
def τ_sl_Contains_int64 : Env := Env.of [(2, (.int .i64)), (3, (.int .i64)), (4, .bool), (75, (.sl (.int .i64)))] [] []

theorem ct_sl_Contains_int64 (a : List (Int)) (n : Int) : Ct pg 136 [.dat (.sl (.int .i64)) a, .dat (.int .i64) n] ⟨[Q_sl_Contains_int64 a n], [⟨.bool, .sh, F_sl_Contains_int64 a n⟩], []⟩ := by
  refine ct_claim (O := O_sl_Contains_int64) (τ := τ_sl_Contains_int64) (EnvOk.of (by kernel_rfl) (by kernel_rfl)) (GOk.of (.cons ok_sl_Index_int64 .nil : AllOk pg [(139, con_sl_Index_int64)])) mixed (Enters.of (by kernel_rfl)) (fn := Go.Proofs.Try.f136) (by kernel_rfl) rfl (by kernel_rfl) ?_
  intro hp hw
  have hq : Q_sl_Contains_int64 a n := hp _ (List.mem_singleton.2 rfl)
  clear hp
  change claim Lg.std Alg.std τ_sl_Contains_int64 (Gam.of [(139, con_sl_Index_int64)]) O_sl_Contains_int64 Go.Proofs.Try.f136 [.dat (.sl (.int .i64)) a, .dat (.int .i64) n] ⟨[Q_sl_Contains_int64 a n], [⟨.bool, .sh, F_sl_Contains_int64 a n⟩], []⟩
  delta con_sl_Index_int64
  generalize hg_F_sl_Index_int64 : F_sl_Index_int64 = g_F_sl_Index_int64
  generalize hg_Q_sl_Index_int64 : Q_sl_Index_int64 = g_Q_sl_Index_int64
  generalize hR0 : F_sl_Contains_int64 a n = R0
  generalize Q_sl_Contains_int64 a n = Q0
  generalize hL : Lg.std = L
  generalize hA : Alg.std = A
  cbv
  subst hL hA
  try dsimp only [Ty.den]
  have hf := findG_any (fun x => decide (n = x)) a 0 (by omega)
  have hc := any_contains a n
  subst hR0 hg_F_sl_Index_int64 hg_Q_sl_Index_int64
  simp only [Q_sl_Contains_int64] at hq
  simp only [Lg.std, Alg.std, List.drop_zero, List.take_length, F_sl_Index_int64, Q_sl_Index_int64, F_sl_Contains_int64]
  all_goals grind
def con_sl_Contains_int64 : Con := ⟨true, g2 (pD (.sl (.int .i64))) (pD (.int .i64)) fun a n => .one ⟨[Q_sl_Contains_int64 a n], [⟨.bool, .sh, F_sl_Contains_int64 a n⟩], []⟩, [], false, 0⟩
theorem ok_sl_Contains_int64 : ConOk pg 136 con_sl_Contains_int64 := ConOk.g2 (Enters.of (by kernel_rfl)) ct_sl_Contains_int64

def F_i_Disk_has (d : (List (List (Int))) × (List ((Int) × (List (Int)) × Unit)) × Unit) (n : Int) : Bool := decide (0 ≤ n ∧ n ≤ (d.1.length : Int) - 1)
def Q_i_Disk_has (d : (List (List (Int))) × (List ((Int) × (List (Int)) × Unit)) × Unit) (n : Int) : Prop := True
def O_i_Disk_has : Opt := ⟨fun i => false, fun i => [], fun i => .done, fun i => none, fun i => false, fun i => [], fun i => false, fun i => none, fun i => none⟩
def τ_i_Disk_has : Env := Env.of [(2, (.int .i64)), (3, (.int .i64)), (4, .bool), (22, (.sl (.sl (.int .u8)))), (30, (.pair (.sl (.sl (.int .u8))) (.pair (.sl (.pair (.int .i64) (.pair (.sl (.int .u8)) .unit))) .unit)))] [] []

theorem ct_i_Disk_has (d : (List (List (Int))) × (List ((Int) × (List (Int)) × Unit)) × Unit) (n : Int) : Ct pg 103 [.dat (.pair (.sl (.sl (.int .u8))) (.pair (.sl (.pair (.int .i64) (.pair (.sl (.int .u8)) .unit))) .unit)) d, .dat (.int .i64) n] ⟨[Q_i_Disk_has d n], [⟨.bool, .sh, F_i_Disk_has d n⟩], []⟩ := by
  refine ct_claim (O := O_i_Disk_has) (τ := τ_i_Disk_has) (EnvOk.of (by kernel_rfl) (by kernel_rfl)) (GOk.of (.cons ok_i_within .nil : AllOk pg [(67, con_i_within)])) mixed (Enters.of (by kernel_rfl)) (fn := Go.Proofs.Try.f103) (by kernel_rfl) rfl (by kernel_rfl) ?_
  intro hp hw
  have hq : Q_i_Disk_has d n := hp _ (List.mem_singleton.2 rfl)
  clear hp
  change claim Lg.std Alg.std τ_i_Disk_has (Gam.of [(67, con_i_within)]) O_i_Disk_has Go.Proofs.Try.f103 [.dat (.pair (.sl (.sl (.int .u8))) (.pair (.sl (.pair (.int .i64) (.pair (.sl (.int .u8)) .unit))) .unit)) d, .dat (.int .i64) n] ⟨[Q_i_Disk_has d n], [⟨.bool, .sh, F_i_Disk_has d n⟩], []⟩
  delta con_i_within
  generalize hg_F_i_within : F_i_within = g_F_i_within
  generalize hg_Q_i_within : Q_i_within = g_Q_i_within
  generalize hR0 : F_i_Disk_has d n = R0
  generalize Q_i_Disk_has d n = Q0
  generalize hL : Lg.std = L
  generalize hA : Alg.std = A
  cbv
  subst hL hA
  try dsimp only [Ty.den]
  obtain ⟨d_0, d_1, ⟨⟩⟩ := d
  have hl := hw.1.1.1
  subst hR0 hg_F_i_within hg_Q_i_within
  simp only [Q_i_Disk_has] at hq
  simp only [Lg.std, Alg.std, List.drop_zero, List.take_length, F_i_within, Q_i_within, F_i_Disk_has]
  all_goals grind
def con_i_Disk_has : Con := ⟨true, g2 (pD (.pair (.sl (.sl (.int .u8))) (.pair (.sl (.pair (.int .i64) (.pair (.sl (.int .u8)) .unit))) .unit))) (pD (.int .i64)) fun d n => .one ⟨[Q_i_Disk_has d n], [⟨.bool, .sh, F_i_Disk_has d n⟩], []⟩, [], false, 0⟩
theorem ok_i_Disk_has : ConOk pg 103 con_i_Disk_has := ConOk.g2 (Enters.of (by kernel_rfl)) ct_i_Disk_has

def F_i_DiskFault_1 (b : List (Int)) : Bool := !decide (b.length = 96)
def Q_i_DiskFault_1 (b : List (Int)) : Prop := True
def O_i_DiskFault_1 : Opt := ⟨fun i => false, fun i => [], fun i => .done, fun i => none, fun i => false, fun i => [], fun i => false, fun i => none, fun i => none⟩
def τ_i_DiskFault_1 : Env := Env.of [(2, (.int .i64)), (3, (.int .i64)), (4, .bool), (34, (.sl (.int .u8)))] [] []

theorem ct_i_DiskFault_1 (b : List (Int)) : Ct pg 102 [.dat (.sl (.int .u8)) b] ⟨[Q_i_DiskFault_1 b], [⟨.bool, .sh, F_i_DiskFault_1 b⟩], []⟩ := by
  refine ct_claim (O := O_i_DiskFault_1) (τ := τ_i_DiskFault_1) (EnvOk.of (by kernel_rfl) (by kernel_rfl)) (GOk.of (.nil : AllOk pg [])) mixed (Enters.of (by kernel_rfl)) (fn := Go.Proofs.Try.f102) (by kernel_rfl) rfl (by kernel_rfl) ?_
  intro hp hw
  have hq : Q_i_DiskFault_1 b := hp _ (List.mem_singleton.2 rfl)
  clear hp
  change claim Lg.std Alg.std τ_i_DiskFault_1 (Gam.of []) O_i_DiskFault_1 Go.Proofs.Try.f102 [.dat (.sl (.int .u8)) b] ⟨[Q_i_DiskFault_1 b], [⟨.bool, .sh, F_i_DiskFault_1 b⟩], []⟩
  generalize hR0 : F_i_DiskFault_1 b = R0
  generalize Q_i_DiskFault_1 b = Q0
  generalize hL : Lg.std = L
  generalize hA : Alg.std = A
  cbv
  subst hL hA
  try dsimp only [Ty.den]
  subst hR0
  simp only [Q_i_DiskFault_1] at hq
  simp only [Lg.std, Alg.std, List.drop_zero, List.take_length, F_i_DiskFault_1]
  all_goals grind
def con_i_DiskFault_1 : Con := ⟨true, g1 (pD (.sl (.int .u8))) fun b => .one ⟨[Q_i_DiskFault_1 b], [⟨.bool, .sh, F_i_DiskFault_1 b⟩], []⟩, [], false, 0⟩
theorem ok_i_DiskFault_1 : ConOk pg 102 con_i_DiskFault_1 := ConOk.g1 (Enters.of (by kernel_rfl)) ct_i_DiskFault_1

def F_sl_IndexFunc_Lbyte__i_DiskFault_1 (s : List (List (Int))) (u : Unit) : Int := findG (fun b => !decide (b.length = 96)) s 0
def Q_sl_IndexFunc_Lbyte__i_DiskFault_1 (s : List (List (Int))) (u : Unit) : Prop := True
def O_sl_IndexFunc_Lbyte__i_DiskFault_1 : Opt := ⟨fun i => false, fun i => (match decide (i = 2) with | true => [true, true, false, false, false, false, false, true, true, false, false, false, false, false, false, false, false, false, false] | false => []), fun i => .done, fun i => none, fun i => false, fun i => [], fun i => false, fun i => none, fun i => none⟩
def τ_sl_IndexFunc_Lbyte__i_DiskFault_1 : Env := Env.of [(3, (.int .i64)), (4, .bool), (22, (.sl (.sl (.int .u8)))), (34, (.sl (.int .u8)))] [] []

theorem ct_sl_IndexFunc_Lbyte__i_DiskFault_1 (s : List (List (Int))) (u : Unit) : Ct pg 123 [.dat (.sl (.sl (.int .u8))) s, .clo 102 []] ⟨[Q_sl_IndexFunc_Lbyte__i_DiskFault_1 s u], [⟨(.int .i64), .sh, F_sl_IndexFunc_Lbyte__i_DiskFault_1 s u⟩], []⟩ := by
  refine ct_claim (O := O_sl_IndexFunc_Lbyte__i_DiskFault_1) (τ := τ_sl_IndexFunc_Lbyte__i_DiskFault_1) (EnvOk.of (by kernel_rfl) (by kernel_rfl)) (GOk.of (.cons ok_i_DiskFault_1 .nil : AllOk pg [(102, con_i_DiskFault_1)])) mixed (Enters.of (by kernel_rfl)) (fn := Go.Proofs.Try.f123) (by kernel_rfl) rfl (by kernel_rfl) ?_
  intro hp hw
  have hq : Q_sl_IndexFunc_Lbyte__i_DiskFault_1 s u := hp _ (List.mem_singleton.2 rfl)
  clear hp
  change claim Lg.std Alg.std τ_sl_IndexFunc_Lbyte__i_DiskFault_1 (Gam.of [(102, con_i_DiskFault_1)]) O_sl_IndexFunc_Lbyte__i_DiskFault_1 Go.Proofs.Try.f123 [.dat (.sl (.sl (.int .u8))) s, .clo 102 []] ⟨[Q_sl_IndexFunc_Lbyte__i_DiskFault_1 s u], [⟨(.int .i64), .sh, F_sl_IndexFunc_Lbyte__i_DiskFault_1 s u⟩], []⟩
  delta con_i_DiskFault_1
  generalize hg_F_i_DiskFault_1 : F_i_DiskFault_1 = g_F_i_DiskFault_1
  generalize hg_Q_i_DiskFault_1 : Q_i_DiskFault_1 = g_Q_i_DiskFault_1
  generalize hR0 : F_sl_IndexFunc_Lbyte__i_DiskFault_1 s u = R0
  generalize Q_sl_IndexFunc_Lbyte__i_DiskFault_1 s u = Q0
  generalize hL : Lg.std = L
  generalize hA : Alg.std = A
  cbv
  subst hL hA
  try dsimp only [Ty.den]
  refine lp_v (V := (Int) × (Int)) (fun ((i, M) : (Int) × (Int)) => ⟨[.dat (.sl (.sl (.int .u8))) s, .clo 102 [], Jk, Jk, Jk, Jk, Jk, .dat (.int .i64) M, .dat (.int .i64) i, Jk, Jk, Jk, Jk, Jk, Jk, Jk, Jk, Jk, Jk], []⟩) (fun ((i, M) : (Int) × (Int)) => M = s.length ∧ 0 ≤ i ∧ i ≤ s.length ∧ findG (fun b => !decide (b.length = 96)) s 0 = findG (fun b => !decide (b.length = 96)) (s.drop i.toNat) i) (fun ((i, M) : (Int) × (Int)) => s.length - i.toNat) (0, _) rfl ?_ ?_
  · simp [Alg.std]
  rintro ⟨i, M⟩ hf I hI
  replace hf : M = s.length ∧ 0 ≤ i ∧ i ≤ s.length ∧ findG (fun b => !decide (b.length = 96)) s 0 = findG (fun b => !decide (b.length = 96)) (s.drop i.toNat) i := hf
  generalize hL : Lg.std = L
  generalize hA : Alg.std = A
  cbv
  subst hL hA
  try dsimp only [Ty.den]
  subst hI
  simp only [Lg.std, Alg.std, List.drop_zero, List.take_length]
  obtain ⟨h1, h2, h3, h4⟩ := hf
  have hl := hw.1.1
  have hdc := fun (h : i.toNat < s.length) => drop_cons s ([] : List (Int)) i.toNat h
  have he := fun (h : s.length ≤ i.toNat) => drop_nil s i.toNat h
  repeat' (first | intro _ | apply And.intro)
  all_goals (try refine ⟨(_, _), rfl, ?_, ?_⟩)
  all_goals subst hR0 hg_F_i_DiskFault_1 hg_Q_i_DiskFault_1
  all_goals (try simp only [F_i_DiskFault_1, Q_i_DiskFault_1, F_sl_IndexFunc_Lbyte__i_DiskFault_1] at *)
  all_goals grind [findG_cons, findG_nil]
def con_sl_IndexFunc_Lbyte__i_DiskFault_1 : Con := ⟨true, g2 (pD (.sl (.sl (.int .u8)))) (pC0 102) fun s u => .one ⟨[Q_sl_IndexFunc_Lbyte__i_DiskFault_1 s u], [⟨(.int .i64), .sh, F_sl_IndexFunc_Lbyte__i_DiskFault_1 s u⟩], []⟩, [], false, 0⟩
theorem ok_sl_IndexFunc_Lbyte__i_DiskFault_1 : ConOk pg 123 con_sl_IndexFunc_Lbyte__i_DiskFault_1 := ConOk.g2 (Enters.of (by kernel_rfl)) ct_sl_IndexFunc_Lbyte__i_DiskFault_1

def F_sl_ContainsFunc_Lbyte__i_DiskFault_1 (s : List (List (Int))) (u : Unit) : Bool := s.any (fun b => !decide (b.length = 96))
def Q_sl_ContainsFunc_Lbyte__i_DiskFault_1 (s : List (List (Int))) (u : Unit) : Prop := True
def O_sl_ContainsFunc_Lbyte__i_DiskFault_1 : Opt := ⟨fun i => false, fun i => [], fun i => .done, fun i => none, fun i => false, fun i => [], fun i => false, fun i => none, fun i => none⟩
def τ_sl_ContainsFunc_Lbyte__i_DiskFault_1 : Env := Env.of [(3, (.int .i64)), (4, .bool), (22, (.sl (.sl (.int .u8))))] [] []

theorem ct_sl_ContainsFunc_Lbyte__i_DiskFault_1 (s : List (List (Int))) (u : Unit) : Ct pg 101 [.dat (.sl (.sl (.int .u8))) s, .clo 102 []] ⟨[Q_sl_ContainsFunc_Lbyte__i_DiskFault_1 s u], [⟨.bool, .sh, F_sl_ContainsFunc_Lbyte__i_DiskFault_1 s u⟩], []⟩ := by
  refine ct_claim (O := O_sl_ContainsFunc_Lbyte__i_DiskFault_1) (τ := τ_sl_ContainsFunc_Lbyte__i_DiskFault_1) (EnvOk.of (by kernel_rfl) (by kernel_rfl)) (GOk.of (.cons ok_i_DiskFault_1 (.cons ok_sl_IndexFunc_Lbyte__i_DiskFault_1 .nil) : AllOk pg [(102, con_i_DiskFault_1), (123, con_sl_IndexFunc_Lbyte__i_DiskFault_1)])) mixed (Enters.of (by kernel_rfl)) (fn := Go.Proofs.Try.f101) (by kernel_rfl) rfl (by kernel_rfl) ?_
  intro hp hw
  have hq : Q_sl_ContainsFunc_Lbyte__i_DiskFault_1 s u := hp _ (List.mem_singleton.2 rfl)
  clear hp
  change claim Lg.std Alg.std τ_sl_ContainsFunc_Lbyte__i_DiskFault_1 (Gam.of [(102, con_i_DiskFault_1), (123, con_sl_IndexFunc_Lbyte__i_DiskFault_1)]) O_sl_ContainsFunc_Lbyte__i_DiskFault_1 Go.Proofs.Try.f101 [.dat (.sl (.sl (.int .u8))) s, .clo 102 []] ⟨[Q_sl_ContainsFunc_Lbyte__i_DiskFault_1 s u], [⟨.bool, .sh, F_sl_ContainsFunc_Lbyte__i_DiskFault_1 s u⟩], []⟩
  delta con_i_DiskFault_1 con_sl_IndexFunc_Lbyte__i_DiskFault_1
  generalize hg_F_i_DiskFault_1 : F_i_DiskFault_1 = g_F_i_DiskFault_1
  generalize hg_Q_i_DiskFault_1 : Q_i_DiskFault_1 = g_Q_i_DiskFault_1
  generalize hg_F_sl_IndexFunc_Lbyte__i_DiskFault_1 : F_sl_IndexFunc_Lbyte__i_DiskFault_1 = g_F_sl_IndexFunc_Lbyte__i_DiskFault_1
  generalize hg_Q_sl_IndexFunc_Lbyte__i_DiskFault_1 : Q_sl_IndexFunc_Lbyte__i_DiskFault_1 = g_Q_sl_IndexFunc_Lbyte__i_DiskFault_1
  generalize hR0 : F_sl_ContainsFunc_Lbyte__i_DiskFault_1 s u = R0
  generalize Q_sl_ContainsFunc_Lbyte__i_DiskFault_1 s u = Q0
  generalize hL : Lg.std = L
  generalize hA : Alg.std = A
  cbv
  subst hL hA
  try dsimp only [Ty.den]
  have hf := findG_any (fun b => !decide (b.length = 96)) s 0 (by omega)
  subst hR0 hg_F_i_DiskFault_1 hg_Q_i_DiskFault_1 hg_F_sl_IndexFunc_Lbyte__i_DiskFault_1 hg_Q_sl_IndexFunc_Lbyte__i_DiskFault_1
  simp only [Q_sl_ContainsFunc_Lbyte__i_DiskFault_1] at hq
  simp only [Lg.std, Alg.std, List.drop_zero, List.take_length, F_i_DiskFault_1, F_sl_IndexFunc_Lbyte__i_DiskFault_1, Q_i_DiskFault_1, Q_sl_IndexFunc_Lbyte__i_DiskFault_1, F_sl_ContainsFunc_Lbyte__i_DiskFault_1]
  all_goals grind
def con_sl_ContainsFunc_Lbyte__i_DiskFault_1 : Con := ⟨true, g2 (pD (.sl (.sl (.int .u8)))) (pC0 102) fun s u => .one ⟨[Q_sl_ContainsFunc_Lbyte__i_DiskFault_1 s u], [⟨.bool, .sh, F_sl_ContainsFunc_Lbyte__i_DiskFault_1 s u⟩], []⟩, [], false, 0⟩
theorem ok_sl_ContainsFunc_Lbyte__i_DiskFault_1 : ConOk pg 101 con_sl_ContainsFunc_Lbyte__i_DiskFault_1 := ConOk.g2 (Enters.of (by kernel_rfl)) ct_sl_ContainsFunc_Lbyte__i_DiskFault_1

def F_i_Disk_putFor_1 (p : (Int) × (List (Int)) × Unit) (n : Int) : Bool := decide (p.1 = n)
def Q_i_Disk_putFor_1 (p : (Int) × (List (Int)) × Unit) (n : Int) : Prop := True
def O_i_Disk_putFor_1 : Opt := ⟨fun i => false, fun i => [], fun i => .done, fun i => none, fun i => false, fun i => [], fun i => false, fun i => none, fun i => none⟩
def τ_i_Disk_putFor_1 : Env := Env.of [(2, (.int .i64)), (3, (.int .i64)), (4, .bool), (120, (.pair (.int .i64) (.pair (.sl (.int .u8)) .unit)))] [] []

theorem ct_i_Disk_putFor_1 (p : (Int) × (List (Int)) × Unit) (n : Int) : Ct pg 125 [.dat (.pair (.int .i64) (.pair (.sl (.int .u8)) .unit)) p, .dptr (.int .i64) n] ⟨[Q_i_Disk_putFor_1 p n], [⟨.bool, .sh, F_i_Disk_putFor_1 p n⟩], []⟩ := by
  refine ct_claim (O := O_i_Disk_putFor_1) (τ := τ_i_Disk_putFor_1) (EnvOk.of (by kernel_rfl) (by kernel_rfl)) (GOk.of (.nil : AllOk pg [])) mixed (Enters.of (by kernel_rfl)) (fn := Go.Proofs.Try.f125) (by kernel_rfl) rfl (by kernel_rfl) ?_
  intro hp hw
  have hq : Q_i_Disk_putFor_1 p n := hp _ (List.mem_singleton.2 rfl)
  clear hp
  change claim Lg.std Alg.std τ_i_Disk_putFor_1 (Gam.of []) O_i_Disk_putFor_1 Go.Proofs.Try.f125 [.dat (.pair (.int .i64) (.pair (.sl (.int .u8)) .unit)) p, .dptr (.int .i64) n] ⟨[Q_i_Disk_putFor_1 p n], [⟨.bool, .sh, F_i_Disk_putFor_1 p n⟩], []⟩
  generalize hR0 : F_i_Disk_putFor_1 p n = R0
  generalize Q_i_Disk_putFor_1 p n = Q0
  generalize hL : Lg.std = L
  generalize hA : Alg.std = A
  cbv
  subst hL hA
  try dsimp only [Ty.den]
  subst hR0
  simp only [Q_i_Disk_putFor_1] at hq
  simp only [Lg.std, Alg.std, List.drop_zero, List.take_length, F_i_Disk_putFor_1]
  all_goals grind
def con_i_Disk_putFor_1 : Con := ⟨true, g2 (pD (.pair (.int .i64) (.pair (.sl (.int .u8)) .unit))) (pP (.int .i64)) fun p n => .one ⟨[Q_i_Disk_putFor_1 p n], [⟨.bool, .sh, F_i_Disk_putFor_1 p n⟩], []⟩, [], false, 0⟩
theorem ok_i_Disk_putFor_1 : ConOk pg 125 con_i_Disk_putFor_1 := ConOk.g2 (Enters.of (by kernel_rfl)) ct_i_Disk_putFor_1

def F_sl_IndexFunc_Put__i_Disk_putFor_1 (s : List ((Int) × (List (Int)) × Unit)) (n : Int) : Int := findG (fun x => decide (x.1 = n)) s 0
def Q_sl_IndexFunc_Put__i_Disk_putFor_1 (s : List ((Int) × (List (Int)) × Unit)) (n : Int) : Prop := True
def O_sl_IndexFunc_Put__i_Disk_putFor_1 : Opt := ⟨fun i => false, fun i => (match decide (i = 2) with | true => [true, true, false, false, false, false, false, true, true, false, false, false, false, false, false, false, false, false, false] | false => []), fun i => .done, fun i => none, fun i => false, fun i => [], fun i => false, fun i => none, fun i => none⟩
def τ_sl_IndexFunc_Put__i_Disk_putFor_1 : Env := Env.of [(3, (.int .i64)), (4, .bool), (28, (.sl (.pair (.int .i64) (.pair (.sl (.int .u8)) .unit)))), (120, (.pair (.int .i64) (.pair (.sl (.int .u8)) .unit)))] [] []

theorem ct_sl_IndexFunc_Put__i_Disk_putFor_1 (s : List ((Int) × (List (Int)) × Unit)) (n : Int) : Ct pg 124 [.dat (.sl (.pair (.int .i64) (.pair (.sl (.int .u8)) .unit))) s, .clo 125 [.dptr (.int .i64) n]] ⟨[Q_sl_IndexFunc_Put__i_Disk_putFor_1 s n], [⟨(.int .i64), .sh, F_sl_IndexFunc_Put__i_Disk_putFor_1 s n⟩], []⟩ := by
  refine ct_claim (O := O_sl_IndexFunc_Put__i_Disk_putFor_1) (τ := τ_sl_IndexFunc_Put__i_Disk_putFor_1) (EnvOk.of (by kernel_rfl) (by kernel_rfl)) (GOk.of (.cons ok_i_Disk_putFor_1 .nil : AllOk pg [(125, con_i_Disk_putFor_1)])) mixed (Enters.of (by kernel_rfl)) (fn := Go.Proofs.Try.f124) (by kernel_rfl) rfl (by kernel_rfl) ?_
  intro hp hw
  have hq : Q_sl_IndexFunc_Put__i_Disk_putFor_1 s n := hp _ (List.mem_singleton.2 rfl)
  clear hp
  change claim Lg.std Alg.std τ_sl_IndexFunc_Put__i_Disk_putFor_1 (Gam.of [(125, con_i_Disk_putFor_1)]) O_sl_IndexFunc_Put__i_Disk_putFor_1 Go.Proofs.Try.f124 [.dat (.sl (.pair (.int .i64) (.pair (.sl (.int .u8)) .unit))) s, .clo 125 [.dptr (.int .i64) n]] ⟨[Q_sl_IndexFunc_Put__i_Disk_putFor_1 s n], [⟨(.int .i64), .sh, F_sl_IndexFunc_Put__i_Disk_putFor_1 s n⟩], []⟩
  delta con_i_Disk_putFor_1
  generalize hg_F_i_Disk_putFor_1 : F_i_Disk_putFor_1 = g_F_i_Disk_putFor_1
  generalize hg_Q_i_Disk_putFor_1 : Q_i_Disk_putFor_1 = g_Q_i_Disk_putFor_1
  generalize hR0 : F_sl_IndexFunc_Put__i_Disk_putFor_1 s n = R0
  generalize Q_sl_IndexFunc_Put__i_Disk_putFor_1 s n = Q0
  generalize hL : Lg.std = L
  generalize hA : Alg.std = A
  cbv
  subst hL hA
  try dsimp only [Ty.den]
  refine lp_v (V := (Int) × (Int)) (fun ((i, M) : (Int) × (Int)) => ⟨[.dat (.sl (.pair (.int .i64) (.pair (.sl (.int .u8)) .unit))) s, .clo 125 [.dptr (.int .i64) n], Jk, Jk, Jk, Jk, Jk, .dat (.int .i64) M, .dat (.int .i64) i, Jk, Jk, Jk, Jk, Jk, Jk, Jk, Jk, Jk, Jk], []⟩) (fun ((i, M) : (Int) × (Int)) => M = s.length ∧ 0 ≤ i ∧ i ≤ s.length ∧ findG (fun x => decide (x.1 = n)) s 0 = findG (fun x => decide (x.1 = n)) (s.drop i.toNat) i) (fun ((i, M) : (Int) × (Int)) => s.length - i.toNat) (0, _) rfl ?_ ?_
  · simp [Alg.std]
  rintro ⟨i, M⟩ hf I hI
  replace hf : M = s.length ∧ 0 ≤ i ∧ i ≤ s.length ∧ findG (fun x => decide (x.1 = n)) s 0 = findG (fun x => decide (x.1 = n)) (s.drop i.toNat) i := hf
  generalize hL : Lg.std = L
  generalize hA : Alg.std = A
  cbv
  subst hL hA
  try dsimp only [Ty.den]
  subst hI
  simp only [Lg.std, Alg.std, List.drop_zero, List.take_length]
  obtain ⟨h1, h2, h3, h4⟩ := hf
  have hl := hw.1.1
  have hdc := fun (h : i.toNat < s.length) => drop_cons s ((0, [], PUnit.unit) : (Int) × (List (Int)) × Unit) i.toNat h
  have he := fun (h : s.length ≤ i.toNat) => drop_nil s i.toNat h
  repeat' (first | intro _ | apply And.intro)
  all_goals (try refine ⟨(_, _), rfl, ?_, ?_⟩)
  all_goals subst hR0 hg_F_i_Disk_putFor_1 hg_Q_i_Disk_putFor_1
  all_goals (try simp only [F_i_Disk_putFor_1, Q_i_Disk_putFor_1, F_sl_IndexFunc_Put__i_Disk_putFor_1] at *)
  all_goals grind [findG_cons, findG_nil]
def con_sl_IndexFunc_Put__i_Disk_putFor_1 : Con := ⟨true, g2 (pD (.sl (.pair (.int .i64) (.pair (.sl (.int .u8)) .unit)))) (pC1 125 (pP (.int .i64))) fun s n => .one ⟨[Q_sl_IndexFunc_Put__i_Disk_putFor_1 s n], [⟨(.int .i64), .sh, F_sl_IndexFunc_Put__i_Disk_putFor_1 s n⟩], []⟩, [], false, 0⟩
theorem ok_sl_IndexFunc_Put__i_Disk_putFor_1 : ConOk pg 124 con_sl_IndexFunc_Put__i_Disk_putFor_1 := ConOk.g2 (Enters.of (by kernel_rfl)) ct_sl_IndexFunc_Put__i_Disk_putFor_1

def F_i_Disk_putFor (d : (List (List (Int))) × (List ((Int) × (List (Int)) × Unit)) × Unit) (n : Int) : Int := findG (fun x => decide (x.1 = n)) d.2.1 0
def Q_i_Disk_putFor (d : (List (List (Int))) × (List ((Int) × (List (Int)) × Unit)) × Unit) (n : Int) : Prop := True
def O_i_Disk_putFor : Opt := ⟨fun i => false, fun i => [], fun i => .done, fun i => none, fun i => false, fun i => [], fun i => false, fun i => none, fun i => none⟩
def τ_i_Disk_putFor : Env := Env.of [(2, (.int .i64)), (3, (.int .i64)), (4, .bool), (28, (.sl (.pair (.int .i64) (.pair (.sl (.int .u8)) .unit)))), (30, (.pair (.sl (.sl (.int .u8))) (.pair (.sl (.pair (.int .i64) (.pair (.sl (.int .u8)) .unit))) .unit)))] [] []

theorem ct_i_Disk_putFor (d : (List (List (Int))) × (List ((Int) × (List (Int)) × Unit)) × Unit) (n : Int) : Ct pg 104 [.dat (.pair (.sl (.sl (.int .u8))) (.pair (.sl (.pair (.int .i64) (.pair (.sl (.int .u8)) .unit))) .unit)) d, .dat (.int .i64) n] ⟨[Q_i_Disk_putFor d n], [⟨(.int .i64), .sh, F_i_Disk_putFor d n⟩], []⟩ := by
  refine ct_claim (O := O_i_Disk_putFor) (τ := τ_i_Disk_putFor) (EnvOk.of (by kernel_rfl) (by kernel_rfl)) (GOk.of (.cons ok_i_Disk_putFor_1 (.cons ok_sl_IndexFunc_Put__i_Disk_putFor_1 .nil) : AllOk pg [(125, con_i_Disk_putFor_1), (124, con_sl_IndexFunc_Put__i_Disk_putFor_1)])) mixed (Enters.of (by kernel_rfl)) (fn := Go.Proofs.Try.f104) (by kernel_rfl) rfl (by kernel_rfl) ?_
  intro hp hw
  have hq : Q_i_Disk_putFor d n := hp _ (List.mem_singleton.2 rfl)
  clear hp
  change claim Lg.std Alg.std τ_i_Disk_putFor (Gam.of [(125, con_i_Disk_putFor_1), (124, con_sl_IndexFunc_Put__i_Disk_putFor_1)]) O_i_Disk_putFor Go.Proofs.Try.f104 [.dat (.pair (.sl (.sl (.int .u8))) (.pair (.sl (.pair (.int .i64) (.pair (.sl (.int .u8)) .unit))) .unit)) d, .dat (.int .i64) n] ⟨[Q_i_Disk_putFor d n], [⟨(.int .i64), .sh, F_i_Disk_putFor d n⟩], []⟩
  delta con_i_Disk_putFor_1 con_sl_IndexFunc_Put__i_Disk_putFor_1
  generalize hg_F_i_Disk_putFor_1 : F_i_Disk_putFor_1 = g_F_i_Disk_putFor_1
  generalize hg_Q_i_Disk_putFor_1 : Q_i_Disk_putFor_1 = g_Q_i_Disk_putFor_1
  generalize hg_F_sl_IndexFunc_Put__i_Disk_putFor_1 : F_sl_IndexFunc_Put__i_Disk_putFor_1 = g_F_sl_IndexFunc_Put__i_Disk_putFor_1
  generalize hg_Q_sl_IndexFunc_Put__i_Disk_putFor_1 : Q_sl_IndexFunc_Put__i_Disk_putFor_1 = g_Q_sl_IndexFunc_Put__i_Disk_putFor_1
  generalize hR0 : F_i_Disk_putFor d n = R0
  generalize Q_i_Disk_putFor d n = Q0
  generalize hL : Lg.std = L
  generalize hA : Alg.std = A
  cbv
  subst hL hA
  try dsimp only [Ty.den]
  subst hR0 hg_F_i_Disk_putFor_1 hg_Q_i_Disk_putFor_1 hg_F_sl_IndexFunc_Put__i_Disk_putFor_1 hg_Q_sl_IndexFunc_Put__i_Disk_putFor_1
  simp only [Q_i_Disk_putFor] at hq
  simp only [Lg.std, Alg.std, List.drop_zero, List.take_length, F_i_Disk_putFor_1, F_sl_IndexFunc_Put__i_Disk_putFor_1, Q_i_Disk_putFor_1, Q_sl_IndexFunc_Put__i_Disk_putFor_1, F_i_Disk_putFor]
  all_goals grind
def con_i_Disk_putFor : Con := ⟨true, g2 (pD (.pair (.sl (.sl (.int .u8))) (.pair (.sl (.pair (.int .i64) (.pair (.sl (.int .u8)) .unit))) .unit))) (pD (.int .i64)) fun d n => .one ⟨[Q_i_Disk_putFor d n], [⟨(.int .i64), .sh, F_i_Disk_putFor d n⟩], []⟩, [], false, 0⟩
theorem ok_i_Disk_putFor : ConOk pg 104 con_i_Disk_putFor := ConOk.g2 (Enters.of (by kernel_rfl)) ct_i_Disk_putFor

def F_i_DiskFault (d : (List (List (Int))) × (List ((Int) × (List (Int)) × Unit)) × Unit) : Int := diskFault d
def Q_i_DiskFault (d : (List (List (Int))) × (List ((Int) × (List (Int)) × Unit)) × Unit) : Prop := True
def O_i_DiskFault : Opt := ⟨fun i => false, fun i => (match decide (i = 16) with | true => [false, true, false, false, false, false, false, false, false, false, false, false, false, false, false, false, false, false, false, false, false, false, false, false, false, false, false, false, false, false, false, false, false, false, false, false, false, false, false, false, true, true, true, false, false, false, false, false, false, false, false, false, false, false] | false => (match decide (i = 8) with | true => [false, true, false, false, false, false, false, false, false, false, false, false, false, false, false, false, false, false, false, false, false, false, false, true, true, true, false, false, false, false, false, false, false, false, false, false, false, false, false, false, false, false, false, false, false, false, false, false, false, false, false, false, false, false] | false => [])), fun i => .done, fun i => none, fun i => false, fun i => [], fun i => false, fun i => none, fun i => none⟩
def τ_i_DiskFault : Env := Env.of [(2, (.int .i64)), (3, (.int .i64)), (4, .bool), (22, (.sl (.sl (.int .u8)))), (28, (.sl (.pair (.int .i64) (.pair (.sl (.int .u8)) .unit)))), (30, (.pair (.sl (.sl (.int .u8))) (.pair (.sl (.pair (.int .i64) (.pair (.sl (.int .u8)) .unit))) .unit))), (34, (.sl (.int .u8))), (120, (.pair (.int .i64) (.pair (.sl (.int .u8)) .unit)))] [] []

theorem ct_i_DiskFault (d : (List (List (Int))) × (List ((Int) × (List (Int)) × Unit)) × Unit) : Ct pg 43 [.dat (.pair (.sl (.sl (.int .u8))) (.pair (.sl (.pair (.int .i64) (.pair (.sl (.int .u8)) .unit))) .unit)) d] ⟨[Q_i_DiskFault d], [⟨(.int .i64), .sh, F_i_DiskFault d⟩], []⟩ := by
  refine ct_claim (O := O_i_DiskFault) (τ := τ_i_DiskFault) (EnvOk.of (by kernel_rfl) (by kernel_rfl)) (GOk.of (.cons ok_i_within (.cons ok_i_Disk_has (.cons ok_i_DiskFault_1 (.cons ok_sl_ContainsFunc_Lbyte__i_DiskFault_1 (.cons ok_i_Disk_putFor .nil)))) : AllOk pg [(67, con_i_within), (103, con_i_Disk_has), (102, con_i_DiskFault_1), (101, con_sl_ContainsFunc_Lbyte__i_DiskFault_1), (104, con_i_Disk_putFor)])) mixed (Enters.of (by kernel_rfl)) (fn := Go.Proofs.Try.f43) (by kernel_rfl) rfl (by kernel_rfl) ?_
  intro hp hw
  have hq : Q_i_DiskFault d := hp _ (List.mem_singleton.2 rfl)
  clear hp
  change claim Lg.std Alg.std τ_i_DiskFault (Gam.of [(67, con_i_within), (103, con_i_Disk_has), (102, con_i_DiskFault_1), (101, con_sl_ContainsFunc_Lbyte__i_DiskFault_1), (104, con_i_Disk_putFor)]) O_i_DiskFault Go.Proofs.Try.f43 [.dat (.pair (.sl (.sl (.int .u8))) (.pair (.sl (.pair (.int .i64) (.pair (.sl (.int .u8)) .unit))) .unit)) d] ⟨[Q_i_DiskFault d], [⟨(.int .i64), .sh, F_i_DiskFault d⟩], []⟩
  delta con_i_within con_i_Disk_has con_i_DiskFault_1 con_sl_ContainsFunc_Lbyte__i_DiskFault_1 con_i_Disk_putFor
  generalize hg_F_i_within : F_i_within = g_F_i_within
  generalize hg_Q_i_within : Q_i_within = g_Q_i_within
  generalize hg_F_i_Disk_has : F_i_Disk_has = g_F_i_Disk_has
  generalize hg_Q_i_Disk_has : Q_i_Disk_has = g_Q_i_Disk_has
  generalize hg_F_i_DiskFault_1 : F_i_DiskFault_1 = g_F_i_DiskFault_1
  generalize hg_Q_i_DiskFault_1 : Q_i_DiskFault_1 = g_Q_i_DiskFault_1
  generalize hg_F_sl_ContainsFunc_Lbyte__i_DiskFault_1 : F_sl_ContainsFunc_Lbyte__i_DiskFault_1 = g_F_sl_ContainsFunc_Lbyte__i_DiskFault_1
  generalize hg_Q_sl_ContainsFunc_Lbyte__i_DiskFault_1 : Q_sl_ContainsFunc_Lbyte__i_DiskFault_1 = g_Q_sl_ContainsFunc_Lbyte__i_DiskFault_1
  generalize hg_F_i_Disk_putFor : F_i_Disk_putFor = g_F_i_Disk_putFor
  generalize hg_Q_i_Disk_putFor : Q_i_Disk_putFor = g_Q_i_Disk_putFor
  generalize hR0 : F_i_DiskFault d = R0
  generalize Q_i_DiskFault d = Q0
  generalize hL : Lg.std = L
  generalize hA : Alg.std = A
  cbv
  subst hL hA
  try dsimp only [Ty.den]
  obtain ⟨d_0, d_1, ⟨⟩⟩ := d
  have hl0 := hw.1.1.1
  have hl1 := hw.1.2.1.1
  repeat' (first | intro _ | apply And.intro)
  all_goals first | trivial | ((fail_if_success (refine lp_v (V := Unit) (fun _ => ⟨[], []⟩) (fun _ => True) (fun _ => 0) () ?_ ?_ ?_)); subst hR0 hg_F_i_within hg_Q_i_within hg_F_i_Disk_has hg_Q_i_Disk_has hg_F_i_DiskFault_1 hg_Q_i_DiskFault_1 hg_F_sl_ContainsFunc_Lbyte__i_DiskFault_1 hg_Q_sl_ContainsFunc_Lbyte__i_DiskFault_1 hg_F_i_Disk_putFor hg_Q_i_Disk_putFor; (try simp only [Alg.std, F_i_within, F_i_Disk_has, F_i_DiskFault_1, F_sl_ContainsFunc_Lbyte__i_DiskFault_1, F_i_Disk_putFor, Q_i_within, Q_i_Disk_has, Q_i_DiskFault_1, Q_sl_ContainsFunc_Lbyte__i_DiskFault_1, Q_i_Disk_putFor, F_i_DiskFault] at *); all_goals grind [diskFault]) | skip
  refine lp_v (V := (Int) × (Int)) (fun ((i, M) : (Int) × (Int)) => ⟨[Jk, .bptr 0 0, Jk, Jk, Jk, Jk, Jk, Jk, Jk, Jk, Jk, Jk, Jk, Jk, Jk, Jk, Jk, Jk, Jk, Jk, Jk, Jk, Jk, .dat (.sl (.pair (.int .i64) (.pair (.sl (.int .u8)) .unit))) d_1, .dat (.int .i64) M, .dat (.int .i64) i, Jk, Jk, Jk, Jk, Jk, Jk, Jk, Jk, Jk, Jk, Jk, Jk, Jk, Jk, Jk, Jk, Jk, Jk, Jk, Jk, Jk, Jk, Jk, Jk, Jk, Jk, Jk, Jk], [some (.box [.dat (.sl (.sl (.int .u8))) d_0, .dat (.sl (.pair (.int .i64) (.pair (.sl (.int .u8)) .unit))) d_1])]⟩) (fun ((i, M) : (Int) × (Int)) => M = d_1.length ∧ 0 ≤ i ∧ i ≤ d_1.length ∧ putsBad d_0.length d_1 = putsBad d_0.length (d_1.drop i.toNat)) (fun ((i, M) : (Int) × (Int)) => d_1.length - i.toNat) (0, _) rfl ?_ ?_
  · simp [Alg.std]
  rintro ⟨i, M⟩ hf I hI
  replace hf : M = d_1.length ∧ 0 ≤ i ∧ i ≤ d_1.length ∧ putsBad d_0.length d_1 = putsBad d_0.length (d_1.drop i.toNat) := hf
  generalize hL : Lg.std = L
  generalize hA : Alg.std = A
  cbv
  subst hL hA
  try dsimp only [Ty.den]
  subst hI
  obtain ⟨h1, h2, h3, h4⟩ := hf
  have hl := hw.1.2.1.1
  have hl0 := hw.1.1.1
  have hs := fun (h : i.toNat < d_1.length) => putsBad_step d_0.length d_1 i.toNat h
  have he := fun (h : d_1.length ≤ i.toNat) => putsBad_end d_0.length d_1 i.toNat h
  have hsu : (i + 1).toNat = i.toNat + 1 := by omega
  dsimp only [putD] at hs
  repeat' (first | intro _ | apply And.intro)
  all_goals first | (with_reducible exact True.intro) | ((fail_if_success (refine lp_v (V := Unit) (fun _ => ⟨[], []⟩) (fun _ => True) (fun _ => 0) () ?_ ?_ ?_)); (try simp only [Lg.std, Alg.std, List.drop_zero, List.take_length] at *); (try refine ⟨(_, _), rfl, ?_, ?_⟩); (all_goals (subst hR0 hg_F_i_within hg_Q_i_within hg_F_i_Disk_has hg_Q_i_Disk_has hg_F_i_DiskFault_1 hg_Q_i_DiskFault_1 hg_F_sl_ContainsFunc_Lbyte__i_DiskFault_1 hg_Q_sl_ContainsFunc_Lbyte__i_DiskFault_1 hg_F_i_Disk_putFor hg_Q_i_Disk_putFor; (try simp only [Lg.std, Alg.std, List.drop_zero, List.take_length, F_i_within, F_i_Disk_has, F_i_DiskFault_1, F_sl_ContainsFunc_Lbyte__i_DiskFault_1, F_i_Disk_putFor, Q_i_within, Q_i_Disk_has, Q_i_DiskFault_1, Q_sl_ContainsFunc_Lbyte__i_DiskFault_1, Q_i_Disk_putFor, F_i_DiskFault] at *); first | done | ((try generalize d_1.getD i.toNat ((0, [], PUnit.unit) : (Int) × (List (Int)) × Unit) = xa at *); (try obtain ⟨xa0, xa1, ⟨⟩⟩ := xa); (try dsimp only at *); grind [diskFault])))) | skip
  refine lp_v (V := (Int) × (Int)) (fun ((i, M) : (Int) × (Int)) => ⟨[Jk, .bptr 0 0, Jk, Jk, Jk, Jk, Jk, Jk, Jk, Jk, Jk, Jk, Jk, Jk, Jk, Jk, Jk, Jk, Jk, Jk, Jk, Jk, Jk, Jk, Jk, Jk, Jk, Jk, Jk, Jk, Jk, Jk, Jk, Jk, Jk, Jk, Jk, Jk, Jk, Jk, .dat (.sl (.pair (.int .i64) (.pair (.sl (.int .u8)) .unit))) d_1, .dat (.int .i64) M, .dat (.int .i64) i, Jk, Jk, Jk, Jk, Jk, Jk, Jk, Jk, Jk, Jk, Jk], [some (.box [.dat (.sl (.sl (.int .u8))) d_0, .dat (.sl (.pair (.int .i64) (.pair (.sl (.int .u8)) .unit))) d_1])]⟩) (fun ((i, M) : (Int) × (Int)) => M = d_1.length ∧ 0 ≤ i ∧ i ≤ d_1.length ∧ dupTo d_1 i.toNat = false) (fun ((i, M) : (Int) × (Int)) => d_1.length - i.toNat) (0, _) rfl ?_ ?_
  · simp [Alg.std, dupTo]
  rintro ⟨i, M⟩ hf I hI
  replace hf : M = d_1.length ∧ 0 ≤ i ∧ i ≤ d_1.length ∧ dupTo d_1 i.toNat = false := hf
  generalize hL : Lg.std = L
  generalize hA : Alg.std = A
  cbv
  subst hL hA
  try dsimp only [Ty.den]
  subst hI
  obtain ⟨h1, h2, h3, h4⟩ := hf
  have hl := hw.1.2.1.1
  have hf := fun (h : i.toNat < d_1.length) => find_seen d_1 i.toNat h
  have hd := fun (h : i.toNat < d_1.length) => dup_seen d_1 i.toNat h
  have hds := dup_succ d_1 i.toNat
  have hsu : (i + 1).toNat = i.toNat + 1 := by omega
  have hc : (i.toNat : Int) = i := by omega
  dsimp only [putD] at hf
  repeat' (first | intro _ | apply And.intro)
  all_goals first | (with_reducible exact True.intro) | ((fail_if_success (refine lp_v (V := Unit) (fun _ => ⟨[], []⟩) (fun _ => True) (fun _ => 0) () ?_ ?_ ?_)); (try simp only [Lg.std, Alg.std, List.drop_zero, List.take_length] at *); (try refine ⟨(_, _), rfl, ?_, ?_⟩); (all_goals (subst hR0 hg_F_i_within hg_Q_i_within hg_F_i_Disk_has hg_Q_i_Disk_has hg_F_i_DiskFault_1 hg_Q_i_DiskFault_1 hg_F_sl_ContainsFunc_Lbyte__i_DiskFault_1 hg_Q_sl_ContainsFunc_Lbyte__i_DiskFault_1 hg_F_i_Disk_putFor hg_Q_i_Disk_putFor; (try simp only [Lg.std, Alg.std, List.drop_zero, List.take_length, F_i_within, F_i_Disk_has, F_i_DiskFault_1, F_sl_ContainsFunc_Lbyte__i_DiskFault_1, F_i_Disk_putFor, Q_i_within, Q_i_Disk_has, Q_i_DiskFault_1, Q_sl_ContainsFunc_Lbyte__i_DiskFault_1, Q_i_Disk_putFor, F_i_DiskFault] at *); first | done | ((try generalize d_1.getD i.toNat ((0, [], PUnit.unit) : (Int) × (List (Int)) × Unit) = xa at *); (try obtain ⟨xa0, xa1, ⟨⟩⟩ := xa); (try dsimp only at *); grind [diskFault])))) | skip
def con_i_DiskFault : Con := ⟨true, g1 (pD (.pair (.sl (.sl (.int .u8))) (.pair (.sl (.pair (.int .i64) (.pair (.sl (.int .u8)) .unit))) .unit))) fun d => .one ⟨[Q_i_DiskFault d], [⟨(.int .i64), .sh, F_i_DiskFault d⟩], []⟩, [], false, 0⟩
theorem ok_i_DiskFault : ConOk pg 43 con_i_DiskFault := ConOk.g1 (Enters.of (by kernel_rfl)) ct_i_DiskFault

def F_s_DiskFault (d : (List (List (Int))) × (List ((Int) × (List (Int)) × Unit)) × Unit) : Int := diskFault d
def Q_s_DiskFault (d : (List (List (Int))) × (List ((Int) × (List (Int)) × Unit)) × Unit) : Prop := True
def O_s_DiskFault : Opt := ⟨fun i => (match decide (i = 24) with | true => true | false => false), fun i => (match decide (i = 22) with | true => [false, true, false, false, false, false, true, true, false, false, false, false, false, false, false, false, false, false, false, false, false, false, false, false, false, false, false, false, false, false, false, false, false, false, false, false, false, false, false, false, false, false, false, false, false, false, false, false, false, false, false, false, false, false, false, false, false, false, false, false, false, false, false, false, false, false, false, false, false, false, false, false, false, false, false, false, false, false, false, false, false, false, false] | false => (match decide (i = 19) with | true => [false, true, false, false, false, false, true, false, false, false, false, false, false, false, false, false, false, false, false, false, false, false, false, false, false, false, false, false, false, false, false, false, false, false, false, false, false, false, false, false, false, false, false, false, false, false, false, false, false, false, false, false, false, false, false, false, false, false, false, false, false, false, false, false, false, false, false, false, false, false, false, false, false, false, false, false, false, false, false, false, false, false, false] | false => (match decide (i = 12) with | true => [false, true, false, true, false, true, false, false, false, false, false, false, false, false, false, false, false, false, false, false, false, false, false, false, false, false, false, false, false, false, false, false, false, false, false, false, false, false, false, false, false, false, false, false, false, false, false, false, false, false, false, false, false, false, false, false, false, false, false, false, false, false, false, false, false, false, false, false, false, false, false, false, false, false, false, false, false, false, false, false, false, false, false] | false => (match decide (i = 5) with | true => [false, true, false, true, true, false, false, false, false, false, false, false, false, false, false, false, false, false, false, false, false, false, false, false, false, false, false, false, false, false, false, false, false, false, false, false, false, false, false, false, false, false, false, false, false, false, false, false, false, false, false, false, false, false, false, false, false, false, false, false, false, false, false, false, false, false, false, false, false, false, false, false, false, false, false, false, false, false, false, false, false, false, false] | false => [])))), fun i => .done, fun i => none, fun i => false, fun i => [], fun i => false, fun i => none, fun i => none⟩
def τ_s_DiskFault : Env := Env.of [(2, (.int .i64)), (3, (.int .i64)), (4, .bool), (22, (.sl (.sl (.int .u8)))), (28, (.sl (.pair (.int .i64) (.pair (.sl (.int .u8)) .unit)))), (30, (.pair (.sl (.sl (.int .u8))) (.pair (.sl (.pair (.int .i64) (.pair (.sl (.int .u8)) .unit))) .unit))), (34, (.sl (.int .u8))), (120, (.pair (.int .i64) (.pair (.sl (.int .u8)) .unit)))] [] []

theorem ct_s_DiskFault (d : (List (List (Int))) × (List ((Int) × (List (Int)) × Unit)) × Unit) : Ct pg 46 [.dat (.pair (.sl (.sl (.int .u8))) (.pair (.sl (.pair (.int .i64) (.pair (.sl (.int .u8)) .unit))) .unit)) d] ⟨[Q_s_DiskFault d], [⟨(.int .i64), .sh, F_s_DiskFault d⟩], []⟩ := by
  refine ct_claim (O := O_s_DiskFault) (τ := τ_s_DiskFault) (EnvOk.of (by kernel_rfl) (by kernel_rfl)) (GOk.of (.cons ok_s_l1In .nil : AllOk pg [(65, con_s_l1In)])) mixed (Enters.of (by kernel_rfl)) (fn := Go.Proofs.Try.f46) (by kernel_rfl) rfl (by kernel_rfl) ?_
  intro hp hw
  have hq : Q_s_DiskFault d := hp _ (List.mem_singleton.2 rfl)
  clear hp
  change claim Lg.std Alg.std τ_s_DiskFault (Gam.of [(65, con_s_l1In)]) O_s_DiskFault Go.Proofs.Try.f46 [.dat (.pair (.sl (.sl (.int .u8))) (.pair (.sl (.pair (.int .i64) (.pair (.sl (.int .u8)) .unit))) .unit)) d] ⟨[Q_s_DiskFault d], [⟨(.int .i64), .sh, F_s_DiskFault d⟩], []⟩
  delta con_s_l1In
  generalize hg_F_s_l1In : F_s_l1In = g_F_s_l1In
  generalize hg_Q_s_l1In : Q_s_l1In = g_Q_s_l1In
  generalize hR0 : F_s_DiskFault d = R0
  generalize Q_s_DiskFault d = Q0
  generalize hL : Lg.std = L
  generalize hA : Alg.std = A
  cbv
  subst hL hA
  try dsimp only [Ty.den]
  obtain ⟨d_0, d_1, ⟨⟩⟩ := d
  have hl0 := hw.1.1.1
  have hl1 := hw.1.2.1.1
  repeat' (first | intro _ | apply And.intro)
  all_goals first | trivial | ((fail_if_success (refine lp_v (V := Unit) (fun _ => ⟨[], []⟩) (fun _ => True) (fun _ => 0) () ?_ ?_ ?_)); subst hR0 hg_F_s_l1In hg_Q_s_l1In; (try simp only [Alg.std, F_s_l1In, Q_s_l1In, F_s_DiskFault] at *); all_goals grind [diskFault]) | skip
  refine lp_v (V := (Int) × (Int)) (fun ((i, M) : (Int) × (Int)) => ⟨[Jk, .bptr 0 0, Jk, .dat (.int .i64) M, .dat (.int .i64) i, Jk, Jk, Jk, Jk, Jk, Jk, Jk, Jk, Jk, Jk, Jk, Jk, Jk, Jk, Jk, Jk, Jk, Jk, Jk, Jk, Jk, Jk, Jk, Jk, Jk, Jk, Jk, Jk, Jk, Jk, Jk, Jk, Jk, Jk, Jk, Jk, Jk, Jk, Jk, Jk, Jk, Jk, Jk, Jk, Jk, Jk, Jk, Jk, Jk, Jk, Jk, Jk, Jk, Jk, Jk, Jk, Jk, Jk, Jk, Jk, Jk, Jk, Jk, Jk, Jk, Jk, Jk, Jk, Jk, Jk, Jk, Jk, Jk, Jk, Jk, Jk, Jk, Jk], [some (.box [.dat (.sl (.sl (.int .u8))) d_0, .dat (.sl (.pair (.int .i64) (.pair (.sl (.int .u8)) .unit))) d_1])]⟩) (fun ((i, M) : (Int) × (Int)) => M = d_0.length ∧ 0 ≤ i ∧ i ≤ d_0.length ∧ d_0.any (fun b => !decide (b.length = 96)) = (d_0.drop i.toNat).any (fun b => !decide (b.length = 96))) (fun ((i, M) : (Int) × (Int)) => d_0.length - i.toNat) (0, _) rfl ?_ ?_
  · simp [Alg.std]
  rintro ⟨i, M⟩ hf I hI
  replace hf : M = d_0.length ∧ 0 ≤ i ∧ i ≤ d_0.length ∧ d_0.any (fun b => !decide (b.length = 96)) = (d_0.drop i.toNat).any (fun b => !decide (b.length = 96)) := hf
  generalize hL : Lg.std = L
  generalize hA : Alg.std = A
  cbv
  subst hL hA
  try dsimp only [Ty.den]
  subst hI
  obtain ⟨h1, h2, h3, h4⟩ := hf
  have hl := hl0
  have hdc := fun (h : i.toNat < d_0.length) => drop_cons d_0 ([] : List Int) i.toNat h
  have he := fun (h : d_0.length ≤ i.toNat) => drop_nil d_0 i.toNat h
  repeat' (first | intro _ | apply And.intro)
  all_goals first | (with_reducible exact True.intro) | ((fail_if_success (refine lp_v (V := Unit) (fun _ => ⟨[], []⟩) (fun _ => True) (fun _ => 0) () ?_ ?_ ?_)); (try simp only [Lg.std, Alg.std, List.drop_zero, List.take_length] at *); (try refine ⟨(_, _), rfl, ?_, ?_⟩); (all_goals (subst hR0 hg_F_s_l1In hg_Q_s_l1In; (try simp only [Lg.std, Alg.std, List.drop_zero, List.take_length, F_s_l1In, Q_s_l1In, F_s_DiskFault] at *); first | done | (grind [diskFault])))) | skip
  refine lp_v (V := (Int) × (Int)) (fun ((i, M) : (Int) × (Int)) => ⟨[Jk, .bptr 0 0, Jk, .dat (.int .i64) M, Jk, .dat (.int .i64) i, Jk, Jk, Jk, Jk, Jk, Jk, Jk, Jk, Jk, Jk, Jk, Jk, Jk, Jk, Jk, Jk, Jk, Jk, Jk, Jk, Jk, Jk, Jk, Jk, Jk, Jk, Jk, Jk, Jk, Jk, Jk, Jk, Jk, Jk, Jk, Jk, Jk, Jk, Jk, Jk, Jk, Jk, Jk, Jk, Jk, Jk, Jk, Jk, Jk, Jk, Jk, Jk, Jk, Jk, Jk, Jk, Jk, Jk, Jk, Jk, Jk, Jk, Jk, Jk, Jk, Jk, Jk, Jk, Jk, Jk, Jk, Jk, Jk, Jk, Jk, Jk, Jk], [some (.box [.dat (.sl (.sl (.int .u8))) d_0, .dat (.sl (.pair (.int .i64) (.pair (.sl (.int .u8)) .unit))) d_1])]⟩) (fun ((i, M) : (Int) × (Int)) => M = d_0.length ∧ 0 ≤ i ∧ i ≤ d_1.length ∧ putsBad d_0.length d_1 = putsBad d_0.length (d_1.drop i.toNat)) (fun ((i, M) : (Int) × (Int)) => d_1.length - i.toNat) (0, _) rfl ?_ ?_
  · simp [Alg.std, h1]
  rintro ⟨i, M⟩ hf I hI
  replace hf : M = d_0.length ∧ 0 ≤ i ∧ i ≤ d_1.length ∧ putsBad d_0.length d_1 = putsBad d_0.length (d_1.drop i.toNat) := hf
  generalize hL : Lg.std = L
  generalize hA : Alg.std = A
  cbv
  subst hL hA
  try dsimp only [Ty.den]
  subst hI
  obtain ⟨h1, h2, h3, h4⟩ := hf
  have hl := hw.1.2.1.1
  have hl0 := hw.1.1.1
  have hs := fun (h : i.toNat < d_1.length) => putsBad_step d_0.length d_1 i.toNat h
  have he := fun (h : d_1.length ≤ i.toNat) => putsBad_end d_0.length d_1 i.toNat h
  have hsu : (i + 1).toNat = i.toNat + 1 := by omega
  dsimp only [putD] at hs
  repeat' (first | intro _ | apply And.intro)
  all_goals first | (with_reducible exact True.intro) | ((fail_if_success (refine lp_v (V := Unit) (fun _ => ⟨[], []⟩) (fun _ => True) (fun _ => 0) () ?_ ?_ ?_)); (try simp only [Lg.std, Alg.std, List.drop_zero, List.take_length] at *); (try refine ⟨(_, _), rfl, ?_, ?_⟩); (all_goals (subst hR0 hg_F_s_l1In hg_Q_s_l1In; (try simp only [Lg.std, Alg.std, List.drop_zero, List.take_length, F_s_l1In, Q_s_l1In, F_s_DiskFault] at *); first | done | ((try generalize d_1.getD i.toNat ((0, [], PUnit.unit) : (Int) × (List (Int)) × Unit) = xa at *); (try obtain ⟨xa0, xa1, ⟨⟩⟩ := xa); (try dsimp only at *); grind [diskFault])))) | skip
  refine lp_v (V := (Int)) (fun (i : Int) => ⟨[Jk, .bptr 0 0, Jk, Jk, Jk, Jk, .dat (.int .i64) i, Jk, Jk, Jk, Jk, Jk, Jk, Jk, Jk, Jk, Jk, Jk, Jk, Jk, Jk, Jk, Jk, Jk, Jk, Jk, Jk, Jk, Jk, Jk, Jk, Jk, Jk, Jk, Jk, Jk, Jk, Jk, Jk, Jk, Jk, Jk, Jk, Jk, Jk, Jk, Jk, Jk, Jk, Jk, Jk, Jk, Jk, Jk, Jk, Jk, Jk, Jk, Jk, Jk, Jk, Jk, Jk, Jk, Jk, Jk, Jk, Jk, Jk, Jk, Jk, Jk, Jk, Jk, Jk, Jk, Jk, Jk, Jk, Jk, Jk, Jk, Jk], [some (.box [.dat (.sl (.sl (.int .u8))) d_0, .dat (.sl (.pair (.int .i64) (.pair (.sl (.int .u8)) .unit))) d_1])]⟩) (fun (i : Int) => 0 ≤ i ∧ i ≤ d_1.length ∧ dupTo d_1 i.toNat = false) (fun (i : Int) => d_1.length - i.toNat) (0) rfl ?_ ?_
  · simp [dupTo]
  rintro i hf I hI
  replace hf : 0 ≤ i ∧ i ≤ d_1.length ∧ dupTo d_1 i.toNat = false := hf
  generalize hL : Lg.std = L
  generalize hA : Alg.std = A
  cbv
  subst hL hA
  try dsimp only [Ty.den]
  subst hI
  obtain ⟨h1, h2, h3⟩ := hf
  have hl := hw.1.2.1.1
  have hz := seen_zero d_1 i.toNat
  have hsu : (i + 1).toNat = i.toNat + 1 := by omega
  repeat' (first | intro _ | apply And.intro)
  all_goals first | (with_reducible exact True.intro) | ((fail_if_success (refine lp_v (V := Unit) (fun _ => ⟨[], []⟩) (fun _ => True) (fun _ => 0) () ?_ ?_ ?_)); (try simp only [Lg.std, Alg.std, List.drop_zero, List.take_length] at *); (try refine ⟨_, rfl, ?_, ?_⟩); (all_goals (subst hR0 hg_F_s_l1In hg_Q_s_l1In; (try simp only [Lg.std, Alg.std, List.drop_zero, List.take_length, F_s_l1In, Q_s_l1In, F_s_DiskFault] at *); first | done | (grind [diskFault])))) | skip
  refine lp_v (V := (Int)) (fun (j : Int) => ⟨[Jk, .bptr 0 0, Jk, Jk, Jk, Jk, .dat (.int .i64) i, .dat (.int .i64) j, Jk, Jk, Jk, Jk, Jk, Jk, Jk, Jk, Jk, Jk, Jk, Jk, Jk, Jk, Jk, Jk, Jk, Jk, Jk, Jk, Jk, Jk, Jk, Jk, Jk, Jk, Jk, Jk, Jk, Jk, Jk, Jk, Jk, Jk, Jk, Jk, Jk, Jk, Jk, Jk, Jk, Jk, Jk, Jk, Jk, Jk, Jk, Jk, Jk, Jk, Jk, Jk, Jk, Jk, Jk, Jk, Jk, Jk, Jk, Jk, Jk, Jk, Jk, Jk, Jk, Jk, Jk, Jk, Jk, Jk, Jk, Jk, Jk, Jk, Jk], [some (.box [.dat (.sl (.sl (.int .u8))) d_0, .dat (.sl (.pair (.int .i64) (.pair (.sl (.int .u8)) .unit))) d_1])]⟩) (fun (j : Int) => 0 ≤ j ∧ j ≤ i ∧ seenP d_1 i.toNat j.toNat = false) (fun (j : Int) => i.toNat - j.toNat) (0) rfl ?_ ?_
  · simp only [Alg.std] at *
    grind
  rintro j hf I hI
  replace hf : 0 ≤ j ∧ j ≤ i ∧ seenP d_1 i.toNat j.toNat = false := hf
  generalize hL : Lg.std = L
  generalize hA : Alg.std = A
  cbv
  subst hL hA
  try dsimp only [Ty.den]
  subst hI
  obtain ⟨h1, h2, h3⟩ := hf
  have hss := fun (h : j.toNat < d_1.length) => seen_succ d_1 i.toNat j.toNat h
  have hh := fun (h : i.toNat < d_1.length) (g : j.toNat < i.toNat) => dup_hit d_1 i.toNat j.toNat h g
  have hds := dup_succ d_1 i.toNat
  have hsj : (j + 1).toNat = j.toNat + 1 := by omega
  dsimp only [putD] at hss hh
  repeat' (first | intro _ | apply And.intro)
  all_goals first | (with_reducible exact True.intro) | ((fail_if_success (refine lp_v (V := Unit) (fun _ => ⟨[], []⟩) (fun _ => True) (fun _ => 0) () ?_ ?_ ?_)); (try simp only [Lg.std, Alg.std, List.drop_zero, List.take_length] at *); (try refine ⟨_, rfl, ?_, ?_⟩); (all_goals (subst hR0 hg_F_s_l1In hg_Q_s_l1In; (try simp only [Lg.std, Alg.std, List.drop_zero, List.take_length, F_s_l1In, Q_s_l1In, F_s_DiskFault] at *); first | done | ((try generalize d_1.getD i.toNat ((0, [], PUnit.unit) : (Int) × (List (Int)) × Unit) = xa at *); (try obtain ⟨xa0, xa1, ⟨⟩⟩ := xa); (try dsimp only at *); (try generalize d_1.getD j.toNat ((0, [], PUnit.unit) : (Int) × (List (Int)) × Unit) = xb at *); (try obtain ⟨xb0, xb1, ⟨⟩⟩ := xb); (try dsimp only at *); grind [diskFault])))) | skip
def con_s_DiskFault : Con := ⟨true, g1 (pD (.pair (.sl (.sl (.int .u8))) (.pair (.sl (.pair (.int .i64) (.pair (.sl (.int .u8)) .unit))) .unit))) fun d => .one ⟨[Q_s_DiskFault d], [⟨(.int .i64), .sh, F_s_DiskFault d⟩], []⟩, [], false, 0⟩
theorem ok_s_DiskFault : ConOk pg 46 con_s_DiskFault := ConOk.g1 (Enters.of (by kernel_rfl)) ct_s_DiskFault
end Go.Vee
