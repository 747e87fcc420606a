/-
  Contracts of functions of the program: what each returns for all arguments that its precondition lets in.
-/
import Derived.Test.YtkbnbjdkdlooiaaGreatDoorVK6
set_option linter.unusedSimpArgs false
set_option linter.unusedVariables false
set_option maxRecDepth 100000
set_option maxHeartbeats 4000000
set_option synthInstance.maxHeartbeats 4000000
set_option synthInstance.maxSize 20000
namespace Go.Vee
open Go
def findG {α : Type} (p : α → Bool) : List α → Int → Int
  | [], _ => -1
  | x :: l, i => if p x = true then i else findG p l (i + 1)
theorem findG_cons {α : Type} (p : α → Bool) (x : α) (l : List α) (i : Int) : findG p (x :: l) i = if p x = true then i else findG p l (i + 1) := rfl
theorem findG_nil {α : Type} (p : α → Bool) (i : Int) : findG p [] i = -1 := rfl
theorem findG_any {α : Type} (p : α → Bool) : ∀ (l : List α) (i : Int), 0 ≤ i → decide (0 ≤ findG p l i) = l.any p
  | [], i, h => rfl
  | x :: l, i, h => by
    have := findG_any p l (i + 1) (by omega)
    simp only [findG, List.any_cons]
    split <;> simp_all
def rise : List Int → Bool
  | x :: y :: l => decide (x < y) && rise (y :: l)
  | _ => true
theorem rise_cons (x y : Int) (l : List Int) : rise (x :: y :: l) = (decide (x < y) && rise (y :: l)) := rfl
theorem rise_short (l : List Int) (h : l.length ≤ 1) : rise l = true := by
  match l with
  | [] => rfl
  | [_] => rfl
  | _ :: _ :: _ => simp at h
theorem rise_step (a : List Int) (i : Nat) (h1 : 1 ≤ i) (h : i < a.length) : rise (a.drop (i - 1)) = (decide (a.getD (i - 1) 0 < a.getD i 0) && rise (a.drop i)) := by
  have e1 := drop_cons a 0 (i - 1) (by omega)
  have e2 := drop_cons a 0 i h
  rw [show i - 1 + 1 = i by omega] at e1
  rw [e1, e2, rise_cons]
theorem rise_end (a : List Int) (i : Nat) (h : a.length ≤ i) : rise (a.drop (i - 1)) = true := rise_short _ (by simp; omega)
theorem any_contains (a : List Int) (n : Int) : a.any (fun x => decide (n = x)) = a.contains n := by
  induction a with
  | nil => rfl
  | cons x l ih => simp [List.any_cons, ih, List.contains_cons, BEq.beq]
abbrev PutT := Int × List Int × Unit
abbrev putD : PutT := (0, [], ())
def putsBad (n : Int) : List PutT → Int
  | [] => 0
  | p :: l => if ¬ (0 ≤ p.1 ∧ p.1 ≤ n - 1) then 3 else if p.2.1.length ≠ 96 then 1 else putsBad n l
theorem putsBad_step (n : Int) (l : List PutT) (i : Nat) (h : i < l.length) : putsBad n (l.drop i) = if ¬ (0 ≤ (l.getD i putD).1 ∧ (l.getD i putD).1 ≤ n - 1) then 3 else if (l.getD i putD).2.1.length ≠ 96 then 1 else putsBad n (l.drop (i + 1)) := by
  rw [drop_cons l putD i h]; rfl
theorem putsBad_end (n : Int) (l : List PutT) (i : Nat) (h : l.length ≤ i) : putsBad n (l.drop i) = 0 := by rw [drop_nil l i h]; rfl
def seenP (l : List PutT) (i j : Nat) : Bool := (l.take j).any (fun x => decide ((l.getD i putD).1 = x.1))
def dupTo (l : List PutT) : Nat → Bool
  | 0 => false
  | i + 1 => dupTo l i || seenP l i i
theorem seen_zero (l : List PutT) (i : Nat) : seenP l i 0 = false := rfl
theorem seen_succ (l : List PutT) (i j : Nat) (h : j < l.length) : seenP l i (j + 1) = (seenP l i j || decide ((l.getD i putD).1 = (l.getD j putD).1)) := by
  unfold seenP
  have e : l.getD j putD = l[j] := by simp [List.getD_eq_getElem?_getD, h]
  rw [List.take_add_one, List.getElem?_eq_getElem h, e]
  simp only [Option.toList_some, List.any_append, List.any_cons, List.any_nil, Bool.or_false]
theorem dup_mono (l : List PutT) (i j : Nat) (h : i ≤ j) (hd : dupTo l i = true) : dupTo l j = true := by
  induction j with
  | zero => rwa [show i = 0 by omega] at hd
  | succ j ih =>
    by_cases e : i = j + 1
    · rwa [e] at hd
    · simp [dupTo, ih (by omega)]
theorem seen_mono (l : List PutT) (i j k : Nat) (h : j ≤ k) (hd : seenP l i j = true) : seenP l i k = true := by
  unfold seenP at *
  rw [List.any_eq_true] at *
  obtain ⟨x, hx, hp⟩ := hd
  exact ⟨x, (List.take_subset_take_left l h) hx, hp⟩
theorem dup_hit (l : List PutT) (i j : Nat) (hi : i < l.length) (hj : j < i) (h : (l.getD i putD).1 = (l.getD j putD).1) : dupTo l l.length = true := by
  refine dup_mono l (i + 1) _ (by omega) ?_
  have h1 := seen_succ l i j (by omega)
  have h2 := seen_mono l i (j + 1) i (by omega) (by rw [h1]; simp only [h, decide_true, Bool.or_true])
  simp [dupTo, h2]
theorem findP_spec (l : List PutT) (s : Int) : ∀ (k : Nat) (r : List PutT), (∀ x, r.length = x → True) → findG (fun x => decide (x.1 = s)) r k = -1 ∨ ∃ j, j < r.length ∧ findG (fun x => decide (x.1 = s)) r k = (k + j : Nat) ∧ (r.getD j putD).1 = s ∧ (r.take j).any (fun x => decide (s = x.1)) = false
  | k, [], _ => .inl rfl
  | k, x :: r, _ => by
    by_cases hx : x.1 = s
    · refine .inr ⟨0, by simp, ?_, by simpa using hx, rfl⟩
      simp [findG, hx]
    · rcases findP_spec l s (k + 1) r (fun _ _ => trivial) with h | ⟨j, h1, h2, h3, h4⟩
      · left
        have : findG (fun x => decide (x.1 = s)) (x :: r) k = findG (fun x => decide (x.1 = s)) r (k + 1 : Nat) := by simp [findG, hx]
        rw [this, h]
      · right
        refine ⟨j + 1, by simp; omega, ?_, by simpa using h3, ?_⟩
        · have : findG (fun x => decide (x.1 = s)) (x :: r) k = findG (fun x => decide (x.1 = s)) r (k + 1 : Nat) := by simp [findG, hx]
          rw [this, h2]; congr 1; omega
        · simp only [List.take_succ_cons, List.any_cons, h4, Bool.or_false, decide_eq_false_iff_not]
          exact fun e => hx e.symm
theorem getD_mem {α : Type} (l : List α) (d : α) (i : Nat) (h : i < l.length) : l.getD i d ∈ l := by
  rw [List.getD_eq_getElem?_getD, List.getElem?_eq_getElem h]; simp
theorem find_seen (l : List PutT) (i : Nat) (hi : i < l.length) : (decide (findG (fun x => decide (x.1 = (l.getD i putD).1)) l 0 = (i : Int))) = !seenP l i i := by
  have ha := findG_any (fun x : PutT => decide (x.1 = (l.getD i putD).1)) l 0 (by omega)
  have hb : l.any (fun x : PutT => decide (x.1 = (l.getD i putD).1)) = true := by
    rw [List.any_eq_true]; exact ⟨_, getD_mem l putD i hi, by simp⟩
  rw [hb] at ha
  rcases findP_spec l (l.getD i putD).1 0 l (fun _ _ => trivial) with h | ⟨j, h1, h2, h3, h4⟩
  · rw [show ((0 : Nat) : Int) = 0 from rfl] at h
    rw [h] at ha
    simp at ha
  · rw [show ((0 : Nat) : Int) = 0 from rfl] at h2
    rw [h2]
    by_cases e : j = i
    · subst e
      have : seenP l j j = false := h4
      rw [this]; simp
    · by_cases hlt : j < i
      · have s1 := seen_succ l i j (by omega)
        have s2 := seen_mono l i (j + 1) i (by omega) (by rw [s1]; simp only [h3, decide_true, Bool.or_true])
        rw [s2]
        simp; omega
      · exfalso
        have : (l.getD i putD) ∈ l.take j := by
          rw [List.mem_take_iff_getElem]
          exact ⟨i, by omega, by simp [List.getD_eq_getElem?_getD, hi]⟩
        have h5 := List.any_eq_false.1 h4 _ this
        simp at h5
def diskFault (d : List (List Int) × List PutT × Unit) : Int :=
  if ¬ (8 ≤ d.1.length ∧ d.1.length ≤ 64) then 2 else if d.1.any (fun b => !decide (b.length = 96)) = true then 1 else if d.2.1.length > d.1.length then 2
  else if putsBad d.1.length d.2.1 ≠ 0 then putsBad d.1.length d.2.1 else if dupTo d.2.1 d.2.1.length = true then 6 else 0
theorem dup_seen (l : List PutT) (i : Nat) (hi : i < l.length) (h : seenP l i i = true) : dupTo l l.length = true :=
  dup_mono l (i + 1) _ (by omega) (by simp [dupTo, h])
theorem dup_succ (l : List PutT) (i : Nat) : dupTo l (i + 1) = (dupTo l i || seenP l i i) := rfl
abbrev DraftT := (List (List Int) × List PutT × Unit) × List Int × List Int × Unit
def offPage (n x : Int) : Bool := !decide (2 ≤ x ∧ x ≤ n - 1)
def draftRest (d : DraftT) : Int :=
  if rise d.2.1 = false ∨ rise d.2.2.1 = false then 1 else if d.2.1.any (offPage d.1.1.length) = true ∨ d.2.2.1.any (offPage d.1.1.length) = true then 3
  else if d.2.1.any (fun n => d.2.2.1.contains n) = true then 6 else if d.1.2.1.any (fun p => !d.2.2.1.contains p.1) = true then 8 else 0
def draftFault (d : DraftT) : Int := if diskFault d.1 ≠ 0 then diskFault d.1 else draftRest d
theorem any_sym (a b : List Int) : a.any (fun n => b.contains n) = b.any (fun n => a.contains n) := by
  have h : ∀ (a b : List Int), a.any (fun n => b.contains n) = true → b.any (fun n => a.contains n) = true := fun a b h => by
    rw [List.any_eq_true] at h ⊢
    obtain ⟨x, h1, h2⟩ := h
    exact ⟨x, by simpa using h2, by simpa using h1⟩
  cases h1 : a.any (fun n => b.contains n) <;> cases h2 : b.any (fun n => a.contains n) <;> first | rfl | (rw [h _ _ h1] at h2; cases h2) | (rw [h _ _ h2] at h1; cases h1)


def F_i_isIncreasing (a : List (Int)) : Bool := rise a
def Q_i_isIncreasing (a : List (Int)) : Prop := True
def O_i_isIncreasing : Opt := ⟨fun i => (match decide (i = 4) with | true => true | false => false), fun i => (match decide (i = 2) with | true => [true, false, false, true, false, false, false, false, false, false, false, false, false, false, false, false, false, false, false, false] | false => []), fun i => .done, fun i => none, fun i => false, fun i => [], fun i => false, fun i => none⟩
def τ_i_isIncreasing : Env := Env.of [(2, (.int .i64)), (3, (.int .i64)), (4, .bool), (62, (.sl (.int .i64)))] [] []

theorem ct_i_isIncreasing (a : List (Int)) : Ct pg 148 [.dat (.sl (.int .i64)) a] ⟨[Q_i_isIncreasing a], [⟨.bool, .sh, F_i_isIncreasing a⟩], []⟩ := by
  refine ct_claim (O := O_i_isIncreasing) (τ := τ_i_isIncreasing) (EnvOk.of (by kernel_rfl) (by kernel_rfl)) (GOk.of (.nil : AllOk pg [])) mixed (Enters.of (by kernel_rfl)) (fn := Go.Proofs.Tryz.f148) (by kernel_rfl) rfl (by kernel_rfl) ?_
  intro hp hw
  have hq : Q_i_isIncreasing a := hp _ (List.mem_singleton.2 rfl)
  clear hp
  change claim Lg.std Alg.std τ_i_isIncreasing (Gam.of []) O_i_isIncreasing Go.Proofs.Tryz.f148 [.dat (.sl (.int .i64)) a] ⟨[Q_i_isIncreasing a], [⟨.bool, .sh, F_i_isIncreasing a⟩], []⟩
  generalize hR0 : F_i_isIncreasing a = R0
  generalize Q_i_isIncreasing a = Q0
  generalize hL : Lg.std = L
  generalize hA : Alg.std = A
  cbv
  subst hL hA
  try dsimp only [Ty.den]
  refine lp_v (V := (Int)) (fun (i : Int) => ⟨[.dat (.sl (.int .i64)) a, .junk, .junk, .dat (.int .i64) i, .junk, .junk, .junk, .junk, .junk, .junk, .junk, .junk, .junk, .junk, .junk, .junk, .junk, .junk, .junk, .junk], []⟩) (fun (i : Int) => 1 ≤ i ∧ (i ≤ a.length ∨ i = 1) ∧ rise a = rise (a.drop (i.toNat - 1))) (fun (i : Int) => a.length - i.toNat) (1) rfl ?_ ?_
  · simp
  rintro i hf I hI
  replace hf : 1 ≤ i ∧ (i ≤ a.length ∨ i = 1) ∧ rise a = rise (a.drop (i.toNat - 1)) := hf
  generalize hL : Lg.std = L
  generalize hA : Alg.std = A
  cbv
  subst hL hA
  try dsimp only [Ty.den]
  subst hI
  simp only [Lg.std, Alg.std, List.drop_zero, List.take_length]
  obtain ⟨h1, h2, h3⟩ := hf
  have hl := hw.1.1
  have hs := fun (h1 : 1 ≤ i.toNat) (h : i.toNat < a.length) => rise_step a i.toNat h1 h
  have he := fun (h : a.length ≤ i.toNat) => rise_end a i.toNat h
  have e1 : (i - 1).toNat = i.toNat - 1 := by omega
  have e2 : (i + 1).toNat - 1 = i.toNat := by omega
  repeat' (first | intro _ | apply And.intro)
  all_goals (try refine ⟨_, rfl, ?_, ?_⟩)
  all_goals subst hR0
  all_goals (try simp only [F_i_isIncreasing] at *)
  all_goals grind
def con_i_isIncreasing : Con := ⟨true, g1 (pD (.sl (.int .i64))) fun a => ⟨[Q_i_isIncreasing a], [⟨.bool, .sh, F_i_isIncreasing a⟩], []⟩, [], false, 0⟩
theorem ok_i_isIncreasing : ConOk pg 148 con_i_isIncreasing := ConOk.g1 (Enters.of (by kernel_rfl)) ct_i_isIncreasing

def F_s_l1Rise (a : List (Int)) : Bool := rise a
def Q_s_l1Rise (a : List (Int)) : Prop := True
def O_s_l1Rise : Opt := ⟨fun i => (match decide (i = 4) with | true => true | false => false), fun i => (match decide (i = 2) with | true => [true, false, false, true, false, false, false, false, false, false, false, false, false, false, false, false, false, false, false, false] | false => []), fun i => .done, fun i => none, fun i => false, fun i => [], fun i => false, fun i => none⟩
def τ_s_l1Rise : Env := Env.of [(2, (.int .i64)), (3, (.int .i64)), (4, .bool), (62, (.sl (.int .i64)))] [] []

theorem ct_s_l1Rise (a : List (Int)) : Ct pg 197 [.dat (.sl (.int .i64)) a] ⟨[Q_s_l1Rise a], [⟨.bool, .sh, F_s_l1Rise a⟩], []⟩ := by
  refine ct_claim (O := O_s_l1Rise) (τ := τ_s_l1Rise) (EnvOk.of (by kernel_rfl) (by kernel_rfl)) (GOk.of (.nil : AllOk pg [])) mixed (Enters.of (by kernel_rfl)) (fn := Go.Proofs.Tryz.f197) (by kernel_rfl) rfl (by kernel_rfl) ?_
  intro hp hw
  have hq : Q_s_l1Rise a := hp _ (List.mem_singleton.2 rfl)
  clear hp
  change claim Lg.std Alg.std τ_s_l1Rise (Gam.of []) O_s_l1Rise Go.Proofs.Tryz.f197 [.dat (.sl (.int .i64)) a] ⟨[Q_s_l1Rise a], [⟨.bool, .sh, F_s_l1Rise a⟩], []⟩
  generalize hR0 : F_s_l1Rise a = R0
  generalize Q_s_l1Rise a = Q0
  generalize hL : Lg.std = L
  generalize hA : Alg.std = A
  cbv
  subst hL hA
  try dsimp only [Ty.den]
  refine lp_v (V := (Int)) (fun (i : Int) => ⟨[.dat (.sl (.int .i64)) a, .junk, .junk, .dat (.int .i64) i, .junk, .junk, .junk, .junk, .junk, .junk, .junk, .junk, .junk, .junk, .junk, .junk, .junk, .junk, .junk, .junk], []⟩) (fun (i : Int) => 1 ≤ i ∧ (i ≤ a.length ∨ i = 1) ∧ rise a = rise (a.drop (i.toNat - 1))) (fun (i : Int) => a.length - i.toNat) (1) rfl ?_ ?_
  · simp
  rintro i hf I hI
  replace hf : 1 ≤ i ∧ (i ≤ a.length ∨ i = 1) ∧ rise a = rise (a.drop (i.toNat - 1)) := hf
  generalize hL : Lg.std = L
  generalize hA : Alg.std = A
  cbv
  subst hL hA
  try dsimp only [Ty.den]
  subst hI
  simp only [Lg.std, Alg.std, List.drop_zero, List.take_length]
  obtain ⟨h1, h2, h3⟩ := hf
  have hl := hw.1.1
  have hs := fun (h1 : 1 ≤ i.toNat) (h : i.toNat < a.length) => rise_step a i.toNat h1 h
  have he := fun (h : a.length ≤ i.toNat) => rise_end a i.toNat h
  have e1 : (i - 1).toNat = i.toNat - 1 := by omega
  have e2 : (i + 1).toNat - 1 = i.toNat := by omega
  repeat' (first | intro _ | apply And.intro)
  all_goals (try refine ⟨_, rfl, ?_, ?_⟩)
  all_goals subst hR0
  all_goals (try simp only [F_s_l1Rise] at *)
  all_goals grind
def con_s_l1Rise : Con := ⟨true, g1 (pD (.sl (.int .i64))) fun a => ⟨[Q_s_l1Rise a], [⟨.bool, .sh, F_s_l1Rise a⟩], []⟩, [], false, 0⟩
theorem ok_s_l1Rise : ConOk pg 197 con_s_l1Rise := ConOk.g1 (Enters.of (by kernel_rfl)) ct_s_l1Rise

def F_s_l1Has (a : List (Int)) (n : Int) : Bool := a.contains n
def Q_s_l1Has (a : List (Int)) (n : Int) : Prop := True
def O_s_l1Has : Opt := ⟨fun i => false, fun i => (match decide (i = 2) with | true => [true, true, false, false, false, true, false, false, false, false, false, false, false, false, false, false, false, false] | false => []), fun i => .done, fun i => none, fun i => false, fun i => [], fun i => false, fun i => none⟩
def τ_s_l1Has : Env := Env.of [(2, (.int .i64)), (3, (.int .i64)), (4, .bool), (62, (.sl (.int .i64)))] [] []

theorem ct_s_l1Has (a : List (Int)) (n : Int) : Ct pg 198 [.dat (.sl (.int .i64)) a, .dat (.int .i64) n] ⟨[Q_s_l1Has a n], [⟨.bool, .sh, F_s_l1Has a n⟩], []⟩ := by
  refine ct_claim (O := O_s_l1Has) (τ := τ_s_l1Has) (EnvOk.of (by kernel_rfl) (by kernel_rfl)) (GOk.of (.nil : AllOk pg [])) mixed (Enters.of (by kernel_rfl)) (fn := Go.Proofs.Tryz.f198) (by kernel_rfl) rfl (by kernel_rfl) ?_
  intro hp hw
  have hq : Q_s_l1Has a n := hp _ (List.mem_singleton.2 rfl)
  clear hp
  change claim Lg.std Alg.std τ_s_l1Has (Gam.of []) O_s_l1Has Go.Proofs.Tryz.f198 [.dat (.sl (.int .i64)) a, .dat (.int .i64) n] ⟨[Q_s_l1Has a n], [⟨.bool, .sh, F_s_l1Has a n⟩], []⟩
  generalize hR0 : F_s_l1Has a n = R0
  generalize Q_s_l1Has a n = Q0
  generalize hL : Lg.std = L
  generalize hA : Alg.std = A
  cbv
  subst hL hA
  try dsimp only [Ty.den]
  refine lp_v (V := (Int)) (fun (i : Int) => ⟨[.dat (.sl (.int .i64)) a, .dat (.int .i64) n, .junk, .junk, .junk, .dat (.int .i64) i, .junk, .junk, .junk, .junk, .junk, .junk, .junk, .junk, .junk, .junk, .junk, .junk], []⟩) (fun (i : Int) => 0 ≤ i ∧ i ≤ a.length ∧ a.contains n = (a.drop i.toNat).contains n) (fun (i : Int) => a.length - i.toNat) (0) rfl ?_ ?_
  · simp
  rintro i hf I hI
  replace hf : 0 ≤ i ∧ i ≤ a.length ∧ a.contains n = (a.drop i.toNat).contains n := hf
  generalize hL : Lg.std = L
  generalize hA : Alg.std = A
  cbv
  subst hL hA
  try dsimp only [Ty.den]
  subst hI
  simp only [Lg.std, Alg.std, List.drop_zero, List.take_length]
  obtain ⟨h1, h2, h3⟩ := hf
  have hl := hw.1.1
  have hdc := fun (h : i.toNat < a.length) => drop_cons a 0 i.toNat h
  have he := fun (h : a.length ≤ i.toNat) => drop_nil a i.toNat h
  repeat' (first | intro _ | apply And.intro)
  all_goals (try refine ⟨_, rfl, ?_, ?_⟩)
  all_goals subst hR0
  all_goals (try simp only [F_s_l1Has] at *)
  all_goals grind
def con_s_l1Has : Con := ⟨true, g2 (pD (.sl (.int .i64))) (pD (.int .i64)) fun a n => ⟨[Q_s_l1Has a n], [⟨.bool, .sh, F_s_l1Has a n⟩], []⟩, [], false, 0⟩
theorem ok_s_l1Has : ConOk pg 198 con_s_l1Has := ConOk.g2 (Enters.of (by kernel_rfl)) ct_s_l1Has

def F_sl_Index_int64 (a : List (Int)) (n : Int) : Int := findG (fun x => decide (n = x)) a 0
def Q_sl_Index_int64 (a : List (Int)) (n : Int) : Prop := True
def O_sl_Index_int64 : Opt := ⟨fun i => false, fun i => (match decide (i = 2) with | true => [true, true, false, false, false, false, false, true, true, false, false, false, false, false, false, false, false, false, false] | false => []), fun i => .done, fun i => none, fun i => false, fun i => [], fun i => false, fun i => none⟩
def τ_sl_Index_int64 : Env := Env.of [(2, (.int .i64)), (3, (.int .i64)), (4, .bool), (62, (.sl (.int .i64)))] [] []

theorem ct_sl_Index_int64 (a : List (Int)) (n : Int) : Ct pg 201 [.dat (.sl (.int .i64)) a, .dat (.int .i64) n] ⟨[Q_sl_Index_int64 a n], [⟨(.int .i64), .sh, F_sl_Index_int64 a n⟩], []⟩ := by
  refine ct_claim (O := O_sl_Index_int64) (τ := τ_sl_Index_int64) (EnvOk.of (by kernel_rfl) (by kernel_rfl)) (GOk.of (.nil : AllOk pg [])) mixed (Enters.of (by kernel_rfl)) (fn := Go.Proofs.Tryz.f201) (by kernel_rfl) rfl (by kernel_rfl) ?_
  intro hp hw
  have hq : Q_sl_Index_int64 a n := hp _ (List.mem_singleton.2 rfl)
  clear hp
  change claim Lg.std Alg.std τ_sl_Index_int64 (Gam.of []) O_sl_Index_int64 Go.Proofs.Tryz.f201 [.dat (.sl (.int .i64)) a, .dat (.int .i64) n] ⟨[Q_sl_Index_int64 a n], [⟨(.int .i64), .sh, F_sl_Index_int64 a n⟩], []⟩
  generalize hR0 : F_sl_Index_int64 a n = R0
  generalize Q_sl_Index_int64 a n = Q0
  generalize hL : Lg.std = L
  generalize hA : Alg.std = A
  cbv
  subst hL hA
  try dsimp only [Ty.den]
  refine lp_v (V := (Int) × (Int)) (fun ((i, M) : (Int) × (Int)) => ⟨[.dat (.sl (.int .i64)) a, .dat (.int .i64) n, .junk, .junk, .junk, .junk, .junk, .dat (.int .i64) M, .dat (.int .i64) i, .junk, .junk, .junk, .junk, .junk, .junk, .junk, .junk, .junk, .junk], []⟩) (fun ((i, M) : (Int) × (Int)) => M = a.length ∧ 0 ≤ i ∧ i ≤ a.length ∧ findG (fun x => decide (n = x)) a 0 = findG (fun x => decide (n = x)) (a.drop i.toNat) i) (fun ((i, M) : (Int) × (Int)) => a.length - i.toNat) (0, _) rfl ?_ ?_
  · simp [Alg.std]
  rintro ⟨i, M⟩ hf I hI
  replace hf : M = a.length ∧ 0 ≤ i ∧ i ≤ a.length ∧ findG (fun x => decide (n = x)) a 0 = findG (fun x => decide (n = x)) (a.drop i.toNat) i := hf
  generalize hL : Lg.std = L
  generalize hA : Alg.std = A
  cbv
  subst hL hA
  try dsimp only [Ty.den]
  subst hI
  simp only [Lg.std, Alg.std, List.drop_zero, List.take_length]
  obtain ⟨h1, h2, h3, h4⟩ := hf
  have hl := hw.1.1
  have hdc := fun (h : i.toNat < a.length) => drop_cons a 0 i.toNat h
  have he := fun (h : a.length ≤ i.toNat) => drop_nil a i.toNat h
  repeat' (first | intro _ | apply And.intro)
  all_goals (try refine ⟨(_, _), rfl, ?_, ?_⟩)
  all_goals subst hR0
  all_goals (try simp only [F_sl_Index_int64] at *)
  all_goals grind [findG_cons, findG_nil]
def con_sl_Index_int64 : Con := ⟨true, g2 (pD (.sl (.int .i64))) (pD (.int .i64)) fun a n => ⟨[Q_sl_Index_int64 a n], [⟨(.int .i64), .sh, F_sl_Index_int64 a n⟩], []⟩, [], false, 0⟩
theorem ok_sl_Index_int64 : ConOk pg 201 con_sl_Index_int64 := ConOk.g2 (Enters.of (by kernel_rfl)) ct_sl_Index_int64

def F_sl_Contains_int64 (a : List (Int)) (n : Int) : Bool := a.contains n
def Q_sl_Contains_int64 (a : List (Int)) (n : Int) : Prop := True
def O_sl_Contains_int64 : Opt := ⟨fun i => false, fun i => [], fun i => .done, fun i => none, fun i => false, fun i => [], fun i => false, fun i => none⟩
def τ_sl_Contains_int64 : Env := Env.of [(2, (.int .i64)), (3, (.int .i64)), (4, .bool), (62, (.sl (.int .i64)))] [] []

theorem ct_sl_Contains_int64 (a : List (Int)) (n : Int) : Ct pg 152 [.dat (.sl (.int .i64)) a, .dat (.int .i64) n] ⟨[Q_sl_Contains_int64 a n], [⟨.bool, .sh, F_sl_Contains_int64 a n⟩], []⟩ := by
  refine ct_claim (O := O_sl_Contains_int64) (τ := τ_sl_Contains_int64) (EnvOk.of (by kernel_rfl) (by kernel_rfl)) (GOk.of (.cons ok_sl_Index_int64 .nil : AllOk pg [(201, con_sl_Index_int64)])) mixed (Enters.of (by kernel_rfl)) (fn := Go.Proofs.Tryz.f152) (by kernel_rfl) rfl (by kernel_rfl) ?_
  intro hp hw
  have hq : Q_sl_Contains_int64 a n := hp _ (List.mem_singleton.2 rfl)
  clear hp
  change claim Lg.std Alg.std τ_sl_Contains_int64 (Gam.of [(201, ⟨true, g2 (pD (.sl (.int .i64))) (pD (.int .i64)) fun a n => ⟨[Q_sl_Index_int64 a n], [⟨(.int .i64), .sh, F_sl_Index_int64 a n⟩], []⟩, [], false, 0⟩)]) O_sl_Contains_int64 Go.Proofs.Tryz.f152 [.dat (.sl (.int .i64)) a, .dat (.int .i64) n] ⟨[Q_sl_Contains_int64 a n], [⟨.bool, .sh, F_sl_Contains_int64 a n⟩], []⟩
  generalize hg_F_sl_Index_int64 : F_sl_Index_int64 = g_F_sl_Index_int64
  generalize hg_Q_sl_Index_int64 : Q_sl_Index_int64 = g_Q_sl_Index_int64
  generalize hR0 : F_sl_Contains_int64 a n = R0
  generalize Q_sl_Contains_int64 a n = Q0
  generalize hL : Lg.std = L
  generalize hA : Alg.std = A
  cbv
  subst hL hA
  try dsimp only [Ty.den]
  have hf := findG_any (fun x => decide (n = x)) a 0 (by omega)
  have hc := any_contains a n
  subst hR0 hg_F_sl_Index_int64 hg_Q_sl_Index_int64
  simp only [Q_sl_Contains_int64] at hq
  simp only [Lg.std, Alg.std, List.drop_zero, List.take_length, F_sl_Index_int64, Q_sl_Index_int64, F_sl_Contains_int64]
  all_goals grind
def con_sl_Contains_int64 : Con := ⟨true, g2 (pD (.sl (.int .i64))) (pD (.int .i64)) fun a n => ⟨[Q_sl_Contains_int64 a n], [⟨.bool, .sh, F_sl_Contains_int64 a n⟩], []⟩, [], false, 0⟩
theorem ok_sl_Contains_int64 : ConOk pg 152 con_sl_Contains_int64 := ConOk.g2 (Enters.of (by kernel_rfl)) ct_sl_Contains_int64

def F_sl_Clone_int64 (s : List (Int)) : List (Int) := s
def Q_sl_Clone_int64 (s : List (Int)) : Prop := s.length ≤ 1048576
def O_sl_Clone_int64 : Opt := ⟨fun i => false, fun i => [], fun i => .done, fun i => none, fun i => false, fun i => [], fun i => false, fun i => none⟩
def τ_sl_Clone_int64 : Env := Env.of [(2, (.int .i64)), (4, .bool), (62, (.sl (.int .i64)))] [] []

theorem ct_sl_Clone_int64 (s : List (Int)) : Ct pg 149 [.dat (.sl (.int .i64)) s] ⟨[Q_sl_Clone_int64 s], [⟨(.sl (.int .i64)), (.ow .sh), F_sl_Clone_int64 s⟩], []⟩ := by
  refine ct_claim (O := O_sl_Clone_int64) (τ := τ_sl_Clone_int64) (EnvOk.of (by kernel_rfl) (by kernel_rfl)) (GOk.of (.nil : AllOk pg [])) mixed (Enters.of (by kernel_rfl)) (fn := Go.Proofs.Tryz.f149) (by kernel_rfl) rfl (by kernel_rfl) ?_
  intro hp hw
  have hq : Q_sl_Clone_int64 s := hp _ (List.mem_singleton.2 rfl)
  clear hp
  change claim Lg.std Alg.std τ_sl_Clone_int64 (Gam.of []) O_sl_Clone_int64 Go.Proofs.Tryz.f149 [.dat (.sl (.int .i64)) s] ⟨[Q_sl_Clone_int64 s], [⟨(.sl (.int .i64)), (.ow .sh), F_sl_Clone_int64 s⟩], []⟩
  generalize hR0 : F_sl_Clone_int64 s = R0
  generalize Q_sl_Clone_int64 s = Q0
  generalize hL : Lg.std = L
  generalize hA : Alg.std = A
  cbv
  subst hL hA
  try dsimp only [Ty.den]
  subst hR0
  simp only [Q_sl_Clone_int64] at hq
  simp only [Lg.std, Alg.std, List.drop_zero, List.take_length, F_sl_Clone_int64]
  all_goals grind
def con_sl_Clone_int64 : Con := ⟨true, g1 (pD (.sl (.int .i64))) fun s => ⟨[Q_sl_Clone_int64 s], [⟨(.sl (.int .i64)), (.ow .sh), F_sl_Clone_int64 s⟩], []⟩, [], false, 0⟩
theorem ok_sl_Clone_int64 : ConOk pg 149 con_sl_Clone_int64 := ConOk.g1 (Enters.of (by kernel_rfl)) ct_sl_Clone_int64

def F_i_Disk_has (d : (List (List (Int))) × (List ((Int) × (List (Int)) × Unit)) × Unit) (n : Int) : Bool := decide (0 ≤ n ∧ n ≤ (d.1.length : Int) - 1)
def Q_i_Disk_has (d : (List (List (Int))) × (List ((Int) × (List (Int)) × Unit)) × Unit) (n : Int) : Prop := True
def O_i_Disk_has : Opt := ⟨fun i => false, fun i => [], fun i => .done, fun i => none, fun i => false, fun i => [], fun i => false, fun i => none⟩
def τ_i_Disk_has : Env := Env.of [(2, (.int .i64)), (3, (.int .i64)), (4, .bool), (22, (.sl (.sl (.int .u8)))), (38, (.pair (.sl (.sl (.int .u8))) (.pair (.sl (.pair (.int .i64) (.pair (.sl (.int .u8)) .unit))) .unit)))] [] []

theorem ct_i_Disk_has (d : (List (List (Int))) × (List ((Int) × (List (Int)) × Unit)) × Unit) (n : Int) : Ct pg 114 [.dat (.pair (.sl (.sl (.int .u8))) (.pair (.sl (.pair (.int .i64) (.pair (.sl (.int .u8)) .unit))) .unit)) d, .dat (.int .i64) n] ⟨[Q_i_Disk_has d n], [⟨.bool, .sh, F_i_Disk_has d n⟩], []⟩ := by
  refine ct_claim (O := O_i_Disk_has) (τ := τ_i_Disk_has) (EnvOk.of (by kernel_rfl) (by kernel_rfl)) (GOk.of (.cons ok_i_within .nil : AllOk pg [(102, con_i_within)])) mixed (Enters.of (by kernel_rfl)) (fn := Go.Proofs.Tryz.f114) (by kernel_rfl) rfl (by kernel_rfl) ?_
  intro hp hw
  have hq : Q_i_Disk_has d n := hp _ (List.mem_singleton.2 rfl)
  clear hp
  change claim Lg.std Alg.std τ_i_Disk_has (Gam.of [(102, ⟨true, g3 (pD (.int .i64)) (pD (.int .i64)) (pD (.int .i64)) fun n lo hi => ⟨[Q_i_within n lo hi], [⟨.bool, .sh, F_i_within n lo hi⟩], []⟩, [], false, 0⟩)]) O_i_Disk_has Go.Proofs.Tryz.f114 [.dat (.pair (.sl (.sl (.int .u8))) (.pair (.sl (.pair (.int .i64) (.pair (.sl (.int .u8)) .unit))) .unit)) d, .dat (.int .i64) n] ⟨[Q_i_Disk_has d n], [⟨.bool, .sh, F_i_Disk_has d n⟩], []⟩
  generalize hg_F_i_within : F_i_within = g_F_i_within
  generalize hg_Q_i_within : Q_i_within = g_Q_i_within
  generalize hR0 : F_i_Disk_has d n = R0
  generalize Q_i_Disk_has d n = Q0
  generalize hL : Lg.std = L
  generalize hA : Alg.std = A
  cbv
  subst hL hA
  try dsimp only [Ty.den]
  obtain ⟨d_0, d_1, ⟨⟩⟩ := d
  have hl := hw.1.1.1
  subst hR0 hg_F_i_within hg_Q_i_within
  simp only [Q_i_Disk_has] at hq
  simp only [Lg.std, Alg.std, List.drop_zero, List.take_length, F_i_within, Q_i_within, F_i_Disk_has]
  all_goals grind
def con_i_Disk_has : Con := ⟨true, g2 (pD (.pair (.sl (.sl (.int .u8))) (.pair (.sl (.pair (.int .i64) (.pair (.sl (.int .u8)) .unit))) .unit))) (pD (.int .i64)) fun d n => ⟨[Q_i_Disk_has d n], [⟨.bool, .sh, F_i_Disk_has d n⟩], []⟩, [], false, 0⟩
theorem ok_i_Disk_has : ConOk pg 114 con_i_Disk_has := ConOk.g2 (Enters.of (by kernel_rfl)) ct_i_Disk_has

def F_i_DiskFault_1 (b : List (Int)) : Bool := !decide (b.length = 96)
def Q_i_DiskFault_1 (b : List (Int)) : Prop := True
def O_i_DiskFault_1 : Opt := ⟨fun i => false, fun i => [], fun i => .done, fun i => none, fun i => false, fun i => [], fun i => false, fun i => none⟩
def τ_i_DiskFault_1 : Env := Env.of [(2, (.int .i64)), (3, (.int .i64)), (4, .bool), (27, (.sl (.int .u8)))] [] []

theorem ct_i_DiskFault_1 (b : List (Int)) : Ct pg 113 [.dat (.sl (.int .u8)) b] ⟨[Q_i_DiskFault_1 b], [⟨.bool, .sh, F_i_DiskFault_1 b⟩], []⟩ := by
  refine ct_claim (O := O_i_DiskFault_1) (τ := τ_i_DiskFault_1) (EnvOk.of (by kernel_rfl) (by kernel_rfl)) (GOk.of (.nil : AllOk pg [])) mixed (Enters.of (by kernel_rfl)) (fn := Go.Proofs.Tryz.f113) (by kernel_rfl) rfl (by kernel_rfl) ?_
  intro hp hw
  have hq : Q_i_DiskFault_1 b := hp _ (List.mem_singleton.2 rfl)
  clear hp
  change claim Lg.std Alg.std τ_i_DiskFault_1 (Gam.of []) O_i_DiskFault_1 Go.Proofs.Tryz.f113 [.dat (.sl (.int .u8)) b] ⟨[Q_i_DiskFault_1 b], [⟨.bool, .sh, F_i_DiskFault_1 b⟩], []⟩
  generalize hR0 : F_i_DiskFault_1 b = R0
  generalize Q_i_DiskFault_1 b = Q0
  generalize hL : Lg.std = L
  generalize hA : Alg.std = A
  cbv
  subst hL hA
  try dsimp only [Ty.den]
  subst hR0
  simp only [Q_i_DiskFault_1] at hq
  simp only [Lg.std, Alg.std, List.drop_zero, List.take_length, F_i_DiskFault_1]
  all_goals grind
def con_i_DiskFault_1 : Con := ⟨true, g1 (pD (.sl (.int .u8))) fun b => ⟨[Q_i_DiskFault_1 b], [⟨.bool, .sh, F_i_DiskFault_1 b⟩], []⟩, [], false, 0⟩
theorem ok_i_DiskFault_1 : ConOk pg 113 con_i_DiskFault_1 := ConOk.g1 (Enters.of (by kernel_rfl)) ct_i_DiskFault_1

def F_sl_IndexFunc_Lbyte__i_DiskFault_1 (s : List (List (Int))) (u : Unit) : Int := findG (fun b => !decide (b.length = 96)) s 0
def Q_sl_IndexFunc_Lbyte__i_DiskFault_1 (s : List (List (Int))) (u : Unit) : Prop := True
def O_sl_IndexFunc_Lbyte__i_DiskFault_1 : Opt := ⟨fun i => false, fun i => (match decide (i = 2) with | true => [true, true, false, false, false, false, false, true, true, false, false, false, false, false, false, false, false, false, false] | false => []), fun i => .done, fun i => none, fun i => false, fun i => [], fun i => false, fun i => none⟩
def τ_sl_IndexFunc_Lbyte__i_DiskFault_1 : Env := Env.of [(3, (.int .i64)), (4, .bool), (22, (.sl (.sl (.int .u8)))), (27, (.sl (.int .u8)))] [] []

theorem ct_sl_IndexFunc_Lbyte__i_DiskFault_1 (s : List (List (Int))) (u : Unit) : Ct pg 183 [.dat (.sl (.sl (.int .u8))) s, .clo 113 []] ⟨[Q_sl_IndexFunc_Lbyte__i_DiskFault_1 s u], [⟨(.int .i64), .sh, F_sl_IndexFunc_Lbyte__i_DiskFault_1 s u⟩], []⟩ := by
  refine ct_claim (O := O_sl_IndexFunc_Lbyte__i_DiskFault_1) (τ := τ_sl_IndexFunc_Lbyte__i_DiskFault_1) (EnvOk.of (by kernel_rfl) (by kernel_rfl)) (GOk.of (.cons ok_i_DiskFault_1 .nil : AllOk pg [(113, con_i_DiskFault_1)])) mixed (Enters.of (by kernel_rfl)) (fn := Go.Proofs.Tryz.f183) (by kernel_rfl) rfl (by kernel_rfl) ?_
  intro hp hw
  have hq : Q_sl_IndexFunc_Lbyte__i_DiskFault_1 s u := hp _ (List.mem_singleton.2 rfl)
  clear hp
  change claim Lg.std Alg.std τ_sl_IndexFunc_Lbyte__i_DiskFault_1 (Gam.of [(113, ⟨true, g1 (pD (.sl (.int .u8))) fun b => ⟨[Q_i_DiskFault_1 b], [⟨.bool, .sh, F_i_DiskFault_1 b⟩], []⟩, [], false, 0⟩)]) O_sl_IndexFunc_Lbyte__i_DiskFault_1 Go.Proofs.Tryz.f183 [.dat (.sl (.sl (.int .u8))) s, .clo 113 []] ⟨[Q_sl_IndexFunc_Lbyte__i_DiskFault_1 s u], [⟨(.int .i64), .sh, F_sl_IndexFunc_Lbyte__i_DiskFault_1 s u⟩], []⟩
  generalize hg_F_i_DiskFault_1 : F_i_DiskFault_1 = g_F_i_DiskFault_1
  generalize hg_Q_i_DiskFault_1 : Q_i_DiskFault_1 = g_Q_i_DiskFault_1
  generalize hR0 : F_sl_IndexFunc_Lbyte__i_DiskFault_1 s u = R0
  generalize Q_sl_IndexFunc_Lbyte__i_DiskFault_1 s u = Q0
  generalize hL : Lg.std = L
  generalize hA : Alg.std = A
  cbv
  subst hL hA
  try dsimp only [Ty.den]
  refine lp_v (V := (Int) × (Int)) (fun ((i, M) : (Int) × (Int)) => ⟨[.dat (.sl (.sl (.int .u8))) s, .clo 113 [], .junk, .junk, .junk, .junk, .junk, .dat (.int .i64) M, .dat (.int .i64) i, .junk, .junk, .junk, .junk, .junk, .junk, .junk, .junk, .junk, .junk], []⟩) (fun ((i, M) : (Int) × (Int)) => M = s.length ∧ 0 ≤ i ∧ i ≤ s.length ∧ findG (fun b => !decide (b.length = 96)) s 0 = findG (fun b => !decide (b.length = 96)) (s.drop i.toNat) i) (fun ((i, M) : (Int) × (Int)) => s.length - i.toNat) (0, _) rfl ?_ ?_
  · simp [Alg.std]
  rintro ⟨i, M⟩ hf I hI
  replace hf : M = s.length ∧ 0 ≤ i ∧ i ≤ s.length ∧ findG (fun b => !decide (b.length = 96)) s 0 = findG (fun b => !decide (b.length = 96)) (s.drop i.toNat) i := hf
  generalize hL : Lg.std = L
  generalize hA : Alg.std = A
  cbv
  subst hL hA
  try dsimp only [Ty.den]
  subst hI
  simp only [Lg.std, Alg.std, List.drop_zero, List.take_length]
  obtain ⟨h1, h2, h3, h4⟩ := hf
  have hl := hw.1.1
  have hdc := fun (h : i.toNat < s.length) => drop_cons s ([] : List (Int)) i.toNat h
  have he := fun (h : s.length ≤ i.toNat) => drop_nil s i.toNat h
  repeat' (first | intro _ | apply And.intro)
  all_goals (try refine ⟨(_, _), rfl, ?_, ?_⟩)
  all_goals subst hR0 hg_F_i_DiskFault_1 hg_Q_i_DiskFault_1
  all_goals (try simp only [F_i_DiskFault_1, Q_i_DiskFault_1, F_sl_IndexFunc_Lbyte__i_DiskFault_1] at *)
  all_goals grind [findG_cons, findG_nil]
def con_sl_IndexFunc_Lbyte__i_DiskFault_1 : Con := ⟨true, g2 (pD (.sl (.sl (.int .u8)))) (pC0 113) fun s u => ⟨[Q_sl_IndexFunc_Lbyte__i_DiskFault_1 s u], [⟨(.int .i64), .sh, F_sl_IndexFunc_Lbyte__i_DiskFault_1 s u⟩], []⟩, [], false, 0⟩
theorem ok_sl_IndexFunc_Lbyte__i_DiskFault_1 : ConOk pg 183 con_sl_IndexFunc_Lbyte__i_DiskFault_1 := ConOk.g2 (Enters.of (by kernel_rfl)) ct_sl_IndexFunc_Lbyte__i_DiskFault_1

def F_sl_ContainsFunc_Lbyte__i_DiskFault_1 (s : List (List (Int))) (u : Unit) : Bool := s.any (fun b => !decide (b.length = 96))
def Q_sl_ContainsFunc_Lbyte__i_DiskFault_1 (s : List (List (Int))) (u : Unit) : Prop := True
def O_sl_ContainsFunc_Lbyte__i_DiskFault_1 : Opt := ⟨fun i => false, fun i => [], fun i => .done, fun i => none, fun i => false, fun i => [], fun i => false, fun i => none⟩
def τ_sl_ContainsFunc_Lbyte__i_DiskFault_1 : Env := Env.of [(3, (.int .i64)), (4, .bool), (22, (.sl (.sl (.int .u8))))] [] []

theorem ct_sl_ContainsFunc_Lbyte__i_DiskFault_1 (s : List (List (Int))) (u : Unit) : Ct pg 112 [.dat (.sl (.sl (.int .u8))) s, .clo 113 []] ⟨[Q_sl_ContainsFunc_Lbyte__i_DiskFault_1 s u], [⟨.bool, .sh, F_sl_ContainsFunc_Lbyte__i_DiskFault_1 s u⟩], []⟩ := by
  refine ct_claim (O := O_sl_ContainsFunc_Lbyte__i_DiskFault_1) (τ := τ_sl_ContainsFunc_Lbyte__i_DiskFault_1) (EnvOk.of (by kernel_rfl) (by kernel_rfl)) (GOk.of (.cons ok_i_DiskFault_1 (.cons ok_sl_IndexFunc_Lbyte__i_DiskFault_1 .nil) : AllOk pg [(113, con_i_DiskFault_1), (183, con_sl_IndexFunc_Lbyte__i_DiskFault_1)])) mixed (Enters.of (by kernel_rfl)) (fn := Go.Proofs.Tryz.f112) (by kernel_rfl) rfl (by kernel_rfl) ?_
  intro hp hw
  have hq : Q_sl_ContainsFunc_Lbyte__i_DiskFault_1 s u := hp _ (List.mem_singleton.2 rfl)
  clear hp
  change claim Lg.std Alg.std τ_sl_ContainsFunc_Lbyte__i_DiskFault_1 (Gam.of [(113, ⟨true, g1 (pD (.sl (.int .u8))) fun b => ⟨[Q_i_DiskFault_1 b], [⟨.bool, .sh, F_i_DiskFault_1 b⟩], []⟩, [], false, 0⟩), (183, ⟨true, g2 (pD (.sl (.sl (.int .u8)))) (pC0 113) fun s u => ⟨[Q_sl_IndexFunc_Lbyte__i_DiskFault_1 s u], [⟨(.int .i64), .sh, F_sl_IndexFunc_Lbyte__i_DiskFault_1 s u⟩], []⟩, [], false, 0⟩)]) O_sl_ContainsFunc_Lbyte__i_DiskFault_1 Go.Proofs.Tryz.f112 [.dat (.sl (.sl (.int .u8))) s, .clo 113 []] ⟨[Q_sl_ContainsFunc_Lbyte__i_DiskFault_1 s u], [⟨.bool, .sh, F_sl_ContainsFunc_Lbyte__i_DiskFault_1 s u⟩], []⟩
  generalize hg_F_i_DiskFault_1 : F_i_DiskFault_1 = g_F_i_DiskFault_1
  generalize hg_Q_i_DiskFault_1 : Q_i_DiskFault_1 = g_Q_i_DiskFault_1
  generalize hg_F_sl_IndexFunc_Lbyte__i_DiskFault_1 : F_sl_IndexFunc_Lbyte__i_DiskFault_1 = g_F_sl_IndexFunc_Lbyte__i_DiskFault_1
  generalize hg_Q_sl_IndexFunc_Lbyte__i_DiskFault_1 : Q_sl_IndexFunc_Lbyte__i_DiskFault_1 = g_Q_sl_IndexFunc_Lbyte__i_DiskFault_1
  generalize hR0 : F_sl_ContainsFunc_Lbyte__i_DiskFault_1 s u = R0
  generalize Q_sl_ContainsFunc_Lbyte__i_DiskFault_1 s u = Q0
  generalize hL : Lg.std = L
  generalize hA : Alg.std = A
  cbv
  subst hL hA
  try dsimp only [Ty.den]
  have hf := findG_any (fun b => !decide (b.length = 96)) s 0 (by omega)
  subst hR0 hg_F_i_DiskFault_1 hg_Q_i_DiskFault_1 hg_F_sl_IndexFunc_Lbyte__i_DiskFault_1 hg_Q_sl_IndexFunc_Lbyte__i_DiskFault_1
  simp only [Q_sl_ContainsFunc_Lbyte__i_DiskFault_1] at hq
  simp only [Lg.std, Alg.std, List.drop_zero, List.take_length, F_i_DiskFault_1, F_sl_IndexFunc_Lbyte__i_DiskFault_1, Q_i_DiskFault_1, Q_sl_IndexFunc_Lbyte__i_DiskFault_1, F_sl_ContainsFunc_Lbyte__i_DiskFault_1]
  all_goals grind
def con_sl_ContainsFunc_Lbyte__i_DiskFault_1 : Con := ⟨true, g2 (pD (.sl (.sl (.int .u8)))) (pC0 113) fun s u => ⟨[Q_sl_ContainsFunc_Lbyte__i_DiskFault_1 s u], [⟨.bool, .sh, F_sl_ContainsFunc_Lbyte__i_DiskFault_1 s u⟩], []⟩, [], false, 0⟩
theorem ok_sl_ContainsFunc_Lbyte__i_DiskFault_1 : ConOk pg 112 con_sl_ContainsFunc_Lbyte__i_DiskFault_1 := ConOk.g2 (Enters.of (by kernel_rfl)) ct_sl_ContainsFunc_Lbyte__i_DiskFault_1

def F_i_Disk_putFor_1 (p : (Int) × (List (Int)) × Unit) (n : Int) : Bool := decide (p.1 = n)
def Q_i_Disk_putFor_1 (p : (Int) × (List (Int)) × Unit) (n : Int) : Prop := True
def O_i_Disk_putFor_1 : Opt := ⟨fun i => false, fun i => [], fun i => .done, fun i => none, fun i => false, fun i => [], fun i => false, fun i => none⟩
def τ_i_Disk_putFor_1 : Env := Env.of [(2, (.int .i64)), (3, (.int .i64)), (4, .bool), (156, (.pair (.int .i64) (.pair (.sl (.int .u8)) .unit)))] [] []

theorem ct_i_Disk_putFor_1 (p : (Int) × (List (Int)) × Unit) (n : Int) : Ct pg 185 [.dat (.pair (.int .i64) (.pair (.sl (.int .u8)) .unit)) p, .dptr (.int .i64) n] ⟨[Q_i_Disk_putFor_1 p n], [⟨.bool, .sh, F_i_Disk_putFor_1 p n⟩], []⟩ := by
  refine ct_claim (O := O_i_Disk_putFor_1) (τ := τ_i_Disk_putFor_1) (EnvOk.of (by kernel_rfl) (by kernel_rfl)) (GOk.of (.nil : AllOk pg [])) mixed (Enters.of (by kernel_rfl)) (fn := Go.Proofs.Tryz.f185) (by kernel_rfl) rfl (by kernel_rfl) ?_
  intro hp hw
  have hq : Q_i_Disk_putFor_1 p n := hp _ (List.mem_singleton.2 rfl)
  clear hp
  change claim Lg.std Alg.std τ_i_Disk_putFor_1 (Gam.of []) O_i_Disk_putFor_1 Go.Proofs.Tryz.f185 [.dat (.pair (.int .i64) (.pair (.sl (.int .u8)) .unit)) p, .dptr (.int .i64) n] ⟨[Q_i_Disk_putFor_1 p n], [⟨.bool, .sh, F_i_Disk_putFor_1 p n⟩], []⟩
  generalize hR0 : F_i_Disk_putFor_1 p n = R0
  generalize Q_i_Disk_putFor_1 p n = Q0
  generalize hL : Lg.std = L
  generalize hA : Alg.std = A
  cbv
  subst hL hA
  try dsimp only [Ty.den]
  subst hR0
  simp only [Q_i_Disk_putFor_1] at hq
  simp only [Lg.std, Alg.std, List.drop_zero, List.take_length, F_i_Disk_putFor_1]
  all_goals grind
def con_i_Disk_putFor_1 : Con := ⟨true, g2 (pD (.pair (.int .i64) (.pair (.sl (.int .u8)) .unit))) (pP (.int .i64)) fun p n => ⟨[Q_i_Disk_putFor_1 p n], [⟨.bool, .sh, F_i_Disk_putFor_1 p n⟩], []⟩, [], false, 0⟩
theorem ok_i_Disk_putFor_1 : ConOk pg 185 con_i_Disk_putFor_1 := ConOk.g2 (Enters.of (by kernel_rfl)) ct_i_Disk_putFor_1

def F_sl_IndexFunc_Put__i_Disk_putFor_1 (s : List ((Int) × (List (Int)) × Unit)) (n : Int) : Int := findG (fun x => decide (x.1 = n)) s 0
def Q_sl_IndexFunc_Put__i_Disk_putFor_1 (s : List ((Int) × (List (Int)) × Unit)) (n : Int) : Prop := True
def O_sl_IndexFunc_Put__i_Disk_putFor_1 : Opt := ⟨fun i => false, fun i => (match decide (i = 2) with | true => [true, true, false, false, false, false, false, true, true, false, false, false, false, false, false, false, false, false, false] | false => []), fun i => .done, fun i => none, fun i => false, fun i => [], fun i => false, fun i => none⟩
def τ_sl_IndexFunc_Put__i_Disk_putFor_1 : Env := Env.of [(3, (.int .i64)), (4, .bool), (36, (.sl (.pair (.int .i64) (.pair (.sl (.int .u8)) .unit)))), (156, (.pair (.int .i64) (.pair (.sl (.int .u8)) .unit)))] [] []

theorem ct_sl_IndexFunc_Put__i_Disk_putFor_1 (s : List ((Int) × (List (Int)) × Unit)) (n : Int) : Ct pg 184 [.dat (.sl (.pair (.int .i64) (.pair (.sl (.int .u8)) .unit))) s, .clo 185 [.dptr (.int .i64) n]] ⟨[Q_sl_IndexFunc_Put__i_Disk_putFor_1 s n], [⟨(.int .i64), .sh, F_sl_IndexFunc_Put__i_Disk_putFor_1 s n⟩], []⟩ := by
  refine ct_claim (O := O_sl_IndexFunc_Put__i_Disk_putFor_1) (τ := τ_sl_IndexFunc_Put__i_Disk_putFor_1) (EnvOk.of (by kernel_rfl) (by kernel_rfl)) (GOk.of (.cons ok_i_Disk_putFor_1 .nil : AllOk pg [(185, con_i_Disk_putFor_1)])) mixed (Enters.of (by kernel_rfl)) (fn := Go.Proofs.Tryz.f184) (by kernel_rfl) rfl (by kernel_rfl) ?_
  intro hp hw
  have hq : Q_sl_IndexFunc_Put__i_Disk_putFor_1 s n := hp _ (List.mem_singleton.2 rfl)
  clear hp
  change claim Lg.std Alg.std τ_sl_IndexFunc_Put__i_Disk_putFor_1 (Gam.of [(185, ⟨true, g2 (pD (.pair (.int .i64) (.pair (.sl (.int .u8)) .unit))) (pP (.int .i64)) fun p n => ⟨[Q_i_Disk_putFor_1 p n], [⟨.bool, .sh, F_i_Disk_putFor_1 p n⟩], []⟩, [], false, 0⟩)]) O_sl_IndexFunc_Put__i_Disk_putFor_1 Go.Proofs.Tryz.f184 [.dat (.sl (.pair (.int .i64) (.pair (.sl (.int .u8)) .unit))) s, .clo 185 [.dptr (.int .i64) n]] ⟨[Q_sl_IndexFunc_Put__i_Disk_putFor_1 s n], [⟨(.int .i64), .sh, F_sl_IndexFunc_Put__i_Disk_putFor_1 s n⟩], []⟩
  generalize hg_F_i_Disk_putFor_1 : F_i_Disk_putFor_1 = g_F_i_Disk_putFor_1
  generalize hg_Q_i_Disk_putFor_1 : Q_i_Disk_putFor_1 = g_Q_i_Disk_putFor_1
  generalize hR0 : F_sl_IndexFunc_Put__i_Disk_putFor_1 s n = R0
  generalize Q_sl_IndexFunc_Put__i_Disk_putFor_1 s n = Q0
  generalize hL : Lg.std = L
  generalize hA : Alg.std = A
  cbv
  subst hL hA
  try dsimp only [Ty.den]
  refine lp_v (V := (Int) × (Int)) (fun ((i, M) : (Int) × (Int)) => ⟨[.dat (.sl (.pair (.int .i64) (.pair (.sl (.int .u8)) .unit))) s, .clo 185 [.dptr (.int .i64) n], .junk, .junk, .junk, .junk, .junk, .dat (.int .i64) M, .dat (.int .i64) i, .junk, .junk, .junk, .junk, .junk, .junk, .junk, .junk, .junk, .junk], []⟩) (fun ((i, M) : (Int) × (Int)) => M = s.length ∧ 0 ≤ i ∧ i ≤ s.length ∧ findG (fun x => decide (x.1 = n)) s 0 = findG (fun x => decide (x.1 = n)) (s.drop i.toNat) i) (fun ((i, M) : (Int) × (Int)) => s.length - i.toNat) (0, _) rfl ?_ ?_
  · simp [Alg.std]
  rintro ⟨i, M⟩ hf I hI
  replace hf : M = s.length ∧ 0 ≤ i ∧ i ≤ s.length ∧ findG (fun x => decide (x.1 = n)) s 0 = findG (fun x => decide (x.1 = n)) (s.drop i.toNat) i := hf
  generalize hL : Lg.std = L
  generalize hA : Alg.std = A
  cbv
  subst hL hA
  try dsimp only [Ty.den]
  subst hI
  simp only [Lg.std, Alg.std, List.drop_zero, List.take_length]
  obtain ⟨h1, h2, h3, h4⟩ := hf
  have hl := hw.1.1
  have hdc := fun (h : i.toNat < s.length) => drop_cons s ((0, [], PUnit.unit) : (Int) × (List (Int)) × Unit) i.toNat h
  have he := fun (h : s.length ≤ i.toNat) => drop_nil s i.toNat h
  repeat' (first | intro _ | apply And.intro)
  all_goals (try refine ⟨(_, _), rfl, ?_, ?_⟩)
  all_goals subst hR0 hg_F_i_Disk_putFor_1 hg_Q_i_Disk_putFor_1
  all_goals (try simp only [F_i_Disk_putFor_1, Q_i_Disk_putFor_1, F_sl_IndexFunc_Put__i_Disk_putFor_1] at *)
  all_goals grind [findG_cons, findG_nil]
def con_sl_IndexFunc_Put__i_Disk_putFor_1 : Con := ⟨true, g2 (pD (.sl (.pair (.int .i64) (.pair (.sl (.int .u8)) .unit)))) (pC1 185 (pP (.int .i64))) fun s n => ⟨[Q_sl_IndexFunc_Put__i_Disk_putFor_1 s n], [⟨(.int .i64), .sh, F_sl_IndexFunc_Put__i_Disk_putFor_1 s n⟩], []⟩, [], false, 0⟩
theorem ok_sl_IndexFunc_Put__i_Disk_putFor_1 : ConOk pg 184 con_sl_IndexFunc_Put__i_Disk_putFor_1 := ConOk.g2 (Enters.of (by kernel_rfl)) ct_sl_IndexFunc_Put__i_Disk_putFor_1

def F_i_Disk_putFor (d : (List (List (Int))) × (List ((Int) × (List (Int)) × Unit)) × Unit) (n : Int) : Int := findG (fun x => decide (x.1 = n)) d.2.1 0
def Q_i_Disk_putFor (d : (List (List (Int))) × (List ((Int) × (List (Int)) × Unit)) × Unit) (n : Int) : Prop := True
def O_i_Disk_putFor : Opt := ⟨fun i => false, fun i => [], fun i => .done, fun i => none, fun i => false, fun i => [], fun i => false, fun i => none⟩
def τ_i_Disk_putFor : Env := Env.of [(2, (.int .i64)), (3, (.int .i64)), (4, .bool), (36, (.sl (.pair (.int .i64) (.pair (.sl (.int .u8)) .unit)))), (38, (.pair (.sl (.sl (.int .u8))) (.pair (.sl (.pair (.int .i64) (.pair (.sl (.int .u8)) .unit))) .unit)))] [] []

theorem ct_i_Disk_putFor (d : (List (List (Int))) × (List ((Int) × (List (Int)) × Unit)) × Unit) (n : Int) : Ct pg 115 [.dat (.pair (.sl (.sl (.int .u8))) (.pair (.sl (.pair (.int .i64) (.pair (.sl (.int .u8)) .unit))) .unit)) d, .dat (.int .i64) n] ⟨[Q_i_Disk_putFor d n], [⟨(.int .i64), .sh, F_i_Disk_putFor d n⟩], []⟩ := by
  refine ct_claim (O := O_i_Disk_putFor) (τ := τ_i_Disk_putFor) (EnvOk.of (by kernel_rfl) (by kernel_rfl)) (GOk.of (.cons ok_i_Disk_putFor_1 (.cons ok_sl_IndexFunc_Put__i_Disk_putFor_1 .nil) : AllOk pg [(185, con_i_Disk_putFor_1), (184, con_sl_IndexFunc_Put__i_Disk_putFor_1)])) mixed (Enters.of (by kernel_rfl)) (fn := Go.Proofs.Tryz.f115) (by kernel_rfl) rfl (by kernel_rfl) ?_
  intro hp hw
  have hq : Q_i_Disk_putFor d n := hp _ (List.mem_singleton.2 rfl)
  clear hp
  change claim Lg.std Alg.std τ_i_Disk_putFor (Gam.of [(185, ⟨true, g2 (pD (.pair (.int .i64) (.pair (.sl (.int .u8)) .unit))) (pP (.int .i64)) fun p n => ⟨[Q_i_Disk_putFor_1 p n], [⟨.bool, .sh, F_i_Disk_putFor_1 p n⟩], []⟩, [], false, 0⟩), (184, ⟨true, g2 (pD (.sl (.pair (.int .i64) (.pair (.sl (.int .u8)) .unit)))) (pC1 185 (pP (.int .i64))) fun s n => ⟨[Q_sl_IndexFunc_Put__i_Disk_putFor_1 s n], [⟨(.int .i64), .sh, F_sl_IndexFunc_Put__i_Disk_putFor_1 s n⟩], []⟩, [], false, 0⟩)]) O_i_Disk_putFor Go.Proofs.Tryz.f115 [.dat (.pair (.sl (.sl (.int .u8))) (.pair (.sl (.pair (.int .i64) (.pair (.sl (.int .u8)) .unit))) .unit)) d, .dat (.int .i64) n] ⟨[Q_i_Disk_putFor d n], [⟨(.int .i64), .sh, F_i_Disk_putFor d n⟩], []⟩
  generalize hg_F_i_Disk_putFor_1 : F_i_Disk_putFor_1 = g_F_i_Disk_putFor_1
  generalize hg_Q_i_Disk_putFor_1 : Q_i_Disk_putFor_1 = g_Q_i_Disk_putFor_1
  generalize hg_F_sl_IndexFunc_Put__i_Disk_putFor_1 : F_sl_IndexFunc_Put__i_Disk_putFor_1 = g_F_sl_IndexFunc_Put__i_Disk_putFor_1
  generalize hg_Q_sl_IndexFunc_Put__i_Disk_putFor_1 : Q_sl_IndexFunc_Put__i_Disk_putFor_1 = g_Q_sl_IndexFunc_Put__i_Disk_putFor_1
  generalize hR0 : F_i_Disk_putFor d n = R0
  generalize Q_i_Disk_putFor d n = Q0
  generalize hL : Lg.std = L
  generalize hA : Alg.std = A
  cbv
  subst hL hA
  try dsimp only [Ty.den]
  subst hR0 hg_F_i_Disk_putFor_1 hg_Q_i_Disk_putFor_1 hg_F_sl_IndexFunc_Put__i_Disk_putFor_1 hg_Q_sl_IndexFunc_Put__i_Disk_putFor_1
  simp only [Q_i_Disk_putFor] at hq
  simp only [Lg.std, Alg.std, List.drop_zero, List.take_length, F_i_Disk_putFor_1, F_sl_IndexFunc_Put__i_Disk_putFor_1, Q_i_Disk_putFor_1, Q_sl_IndexFunc_Put__i_Disk_putFor_1, F_i_Disk_putFor]
  all_goals grind
def con_i_Disk_putFor : Con := ⟨true, g2 (pD (.pair (.sl (.sl (.int .u8))) (.pair (.sl (.pair (.int .i64) (.pair (.sl (.int .u8)) .unit))) .unit))) (pD (.int .i64)) fun d n => ⟨[Q_i_Disk_putFor d n], [⟨(.int .i64), .sh, F_i_Disk_putFor d n⟩], []⟩, [], false, 0⟩
theorem ok_i_Disk_putFor : ConOk pg 115 con_i_Disk_putFor := ConOk.g2 (Enters.of (by kernel_rfl)) ct_i_Disk_putFor

def F_i_DiskFault (d : (List (List (Int))) × (List ((Int) × (List (Int)) × Unit)) × Unit) : Int := diskFault d
def Q_i_DiskFault (d : (List (List (Int))) × (List ((Int) × (List (Int)) × Unit)) × Unit) : Prop := True
def O_i_DiskFault : Opt := ⟨fun i => false, fun i => (match decide (i = 16) with | true => [false, true, false, false, false, false, false, false, false, false, false, false, false, false, false, false, false, false, false, false, false, false, false, false, false, false, false, false, false, false, false, false, false, false, false, false, false, false, false, false, true, true, true, false, false, false, false, false, false, false, false, false, false, false] | false => (match decide (i = 8) with | true => [false, true, false, false, false, false, false, false, false, false, false, false, false, false, false, false, false, false, false, false, false, false, false, true, true, true, false, false, false, false, false, false, false, false, false, false, false, false, false, false, false, false, false, false, false, false, false, false, false, false, false, false, false, false] | false => [])), fun i => .done, fun i => none, fun i => false, fun i => [], fun i => false, fun i => none⟩
def τ_i_DiskFault : Env := Env.of [(2, (.int .i64)), (3, (.int .i64)), (4, .bool), (22, (.sl (.sl (.int .u8)))), (27, (.sl (.int .u8))), (36, (.sl (.pair (.int .i64) (.pair (.sl (.int .u8)) .unit)))), (38, (.pair (.sl (.sl (.int .u8))) (.pair (.sl (.pair (.int .i64) (.pair (.sl (.int .u8)) .unit))) .unit))), (156, (.pair (.int .i64) (.pair (.sl (.int .u8)) .unit)))] [] []

theorem ct_i_DiskFault (d : (List (List (Int))) × (List ((Int) × (List (Int)) × Unit)) × Unit) : Ct pg 58 [.dat (.pair (.sl (.sl (.int .u8))) (.pair (.sl (.pair (.int .i64) (.pair (.sl (.int .u8)) .unit))) .unit)) d] ⟨[Q_i_DiskFault d], [⟨(.int .i64), .sh, F_i_DiskFault d⟩], []⟩ := by
  refine ct_claim (O := O_i_DiskFault) (τ := τ_i_DiskFault) (EnvOk.of (by kernel_rfl) (by kernel_rfl)) (GOk.of (.cons ok_i_within (.cons ok_i_Disk_has (.cons ok_i_DiskFault_1 (.cons ok_sl_ContainsFunc_Lbyte__i_DiskFault_1 (.cons ok_i_Disk_putFor .nil)))) : AllOk pg [(102, con_i_within), (114, con_i_Disk_has), (113, con_i_DiskFault_1), (112, con_sl_ContainsFunc_Lbyte__i_DiskFault_1), (115, con_i_Disk_putFor)])) mixed (Enters.of (by kernel_rfl)) (fn := Go.Proofs.Tryz.f58) (by kernel_rfl) rfl (by kernel_rfl) ?_
  intro hp hw
  have hq : Q_i_DiskFault d := hp _ (List.mem_singleton.2 rfl)
  clear hp
  change claim Lg.std Alg.std τ_i_DiskFault (Gam.of [(102, ⟨true, g3 (pD (.int .i64)) (pD (.int .i64)) (pD (.int .i64)) fun n lo hi => ⟨[Q_i_within n lo hi], [⟨.bool, .sh, F_i_within n lo hi⟩], []⟩, [], false, 0⟩), (114, ⟨true, g2 (pD (.pair (.sl (.sl (.int .u8))) (.pair (.sl (.pair (.int .i64) (.pair (.sl (.int .u8)) .unit))) .unit))) (pD (.int .i64)) fun d n => ⟨[Q_i_Disk_has d n], [⟨.bool, .sh, F_i_Disk_has d n⟩], []⟩, [], false, 0⟩), (113, ⟨true, g1 (pD (.sl (.int .u8))) fun b => ⟨[Q_i_DiskFault_1 b], [⟨.bool, .sh, F_i_DiskFault_1 b⟩], []⟩, [], false, 0⟩), (112, ⟨true, g2 (pD (.sl (.sl (.int .u8)))) (pC0 113) fun s u => ⟨[Q_sl_ContainsFunc_Lbyte__i_DiskFault_1 s u], [⟨.bool, .sh, F_sl_ContainsFunc_Lbyte__i_DiskFault_1 s u⟩], []⟩, [], false, 0⟩), (115, ⟨true, g2 (pD (.pair (.sl (.sl (.int .u8))) (.pair (.sl (.pair (.int .i64) (.pair (.sl (.int .u8)) .unit))) .unit))) (pD (.int .i64)) fun d n => ⟨[Q_i_Disk_putFor d n], [⟨(.int .i64), .sh, F_i_Disk_putFor d n⟩], []⟩, [], false, 0⟩)]) O_i_DiskFault Go.Proofs.Tryz.f58 [.dat (.pair (.sl (.sl (.int .u8))) (.pair (.sl (.pair (.int .i64) (.pair (.sl (.int .u8)) .unit))) .unit)) d] ⟨[Q_i_DiskFault d], [⟨(.int .i64), .sh, F_i_DiskFault d⟩], []⟩
  generalize hg_F_i_within : F_i_within = g_F_i_within
  generalize hg_Q_i_within : Q_i_within = g_Q_i_within
  generalize hg_F_i_Disk_has : F_i_Disk_has = g_F_i_Disk_has
  generalize hg_Q_i_Disk_has : Q_i_Disk_has = g_Q_i_Disk_has
  generalize hg_F_i_DiskFault_1 : F_i_DiskFault_1 = g_F_i_DiskFault_1
  generalize hg_Q_i_DiskFault_1 : Q_i_DiskFault_1 = g_Q_i_DiskFault_1
  generalize hg_F_sl_ContainsFunc_Lbyte__i_DiskFault_1 : F_sl_ContainsFunc_Lbyte__i_DiskFault_1 = g_F_sl_ContainsFunc_Lbyte__i_DiskFault_1
  generalize hg_Q_sl_ContainsFunc_Lbyte__i_DiskFault_1 : Q_sl_ContainsFunc_Lbyte__i_DiskFault_1 = g_Q_sl_ContainsFunc_Lbyte__i_DiskFault_1
  generalize hg_F_i_Disk_putFor : F_i_Disk_putFor = g_F_i_Disk_putFor
  generalize hg_Q_i_Disk_putFor : Q_i_Disk_putFor = g_Q_i_Disk_putFor
  generalize hR0 : F_i_DiskFault d = R0
  generalize Q_i_DiskFault d = Q0
  generalize hL : Lg.std = L
  generalize hA : Alg.std = A
  cbv
  subst hL hA
  try dsimp only [Ty.den]
  obtain ⟨d_0, d_1, ⟨⟩⟩ := d
  have hl0 := hw.1.1.1
  have hl1 := hw.1.2.1.1
  repeat' (first | intro _ | apply And.intro)
  all_goals first | trivial | ((fail_if_success (refine lp_v (V := Unit) (fun _ => ⟨[], []⟩) (fun _ => True) (fun _ => 0) () ?_ ?_ ?_)); subst hR0 hg_F_i_within hg_Q_i_within hg_F_i_Disk_has hg_Q_i_Disk_has hg_F_i_DiskFault_1 hg_Q_i_DiskFault_1 hg_F_sl_ContainsFunc_Lbyte__i_DiskFault_1 hg_Q_sl_ContainsFunc_Lbyte__i_DiskFault_1 hg_F_i_Disk_putFor hg_Q_i_Disk_putFor; (try simp only [Alg.std, F_i_within, F_i_Disk_has, F_i_DiskFault_1, F_sl_ContainsFunc_Lbyte__i_DiskFault_1, F_i_Disk_putFor, Q_i_within, Q_i_Disk_has, Q_i_DiskFault_1, Q_sl_ContainsFunc_Lbyte__i_DiskFault_1, Q_i_Disk_putFor, F_i_DiskFault] at *); all_goals grind [diskFault]) | skip
  refine lp_v (V := (Int) × (Int)) (fun ((i, M) : (Int) × (Int)) => ⟨[.junk, .bptr 0 0, .junk, .junk, .junk, .junk, .junk, .junk, .junk, .junk, .junk, .junk, .junk, .junk, .junk, .junk, .junk, .junk, .junk, .junk, .junk, .junk, .junk, .dat (.sl (.pair (.int .i64) (.pair (.sl (.int .u8)) .unit))) d_1, .dat (.int .i64) M, .dat (.int .i64) i, .junk, .junk, .junk, .junk, .junk, .junk, .junk, .junk, .junk, .junk, .junk, .junk, .junk, .junk, .junk, .junk, .junk, .junk, .junk, .junk, .junk, .junk, .junk, .junk, .junk, .junk, .junk, .junk], [some (.box [.dat (.sl (.sl (.int .u8))) d_0, .dat (.sl (.pair (.int .i64) (.pair (.sl (.int .u8)) .unit))) d_1])]⟩) (fun ((i, M) : (Int) × (Int)) => M = d_1.length ∧ 0 ≤ i ∧ i ≤ d_1.length ∧ putsBad d_0.length d_1 = putsBad d_0.length (d_1.drop i.toNat)) (fun ((i, M) : (Int) × (Int)) => d_1.length - i.toNat) (0, _) rfl ?_ ?_
  · simp [Alg.std]
  rintro ⟨i, M⟩ hf I hI
  replace hf : M = d_1.length ∧ 0 ≤ i ∧ i ≤ d_1.length ∧ putsBad d_0.length d_1 = putsBad d_0.length (d_1.drop i.toNat) := hf
  generalize hL : Lg.std = L
  generalize hA : Alg.std = A
  cbv
  subst hL hA
  try dsimp only [Ty.den]
  subst hI
  obtain ⟨h1, h2, h3, h4⟩ := hf
  have hl := hw.1.2.1.1
  have hl0 := hw.1.1.1
  have hs := fun (h : i.toNat < d_1.length) => putsBad_step d_0.length d_1 i.toNat h
  have he := fun (h : d_1.length ≤ i.toNat) => putsBad_end d_0.length d_1 i.toNat h
  have hsu : (i + 1).toNat = i.toNat + 1 := by omega
  dsimp only [putD] at hs
  repeat' (first | intro _ | apply And.intro)
  all_goals first | (with_reducible exact True.intro) | ((fail_if_success (refine lp_v (V := Unit) (fun _ => ⟨[], []⟩) (fun _ => True) (fun _ => 0) () ?_ ?_ ?_)); (try simp only [Lg.std, Alg.std, List.drop_zero, List.take_length] at *); (try refine ⟨(_, _), rfl, ?_, ?_⟩); (all_goals (subst hR0 hg_F_i_within hg_Q_i_within hg_F_i_Disk_has hg_Q_i_Disk_has hg_F_i_DiskFault_1 hg_Q_i_DiskFault_1 hg_F_sl_ContainsFunc_Lbyte__i_DiskFault_1 hg_Q_sl_ContainsFunc_Lbyte__i_DiskFault_1 hg_F_i_Disk_putFor hg_Q_i_Disk_putFor; (try simp only [Lg.std, Alg.std, List.drop_zero, List.take_length, F_i_within, F_i_Disk_has, F_i_DiskFault_1, F_sl_ContainsFunc_Lbyte__i_DiskFault_1, F_i_Disk_putFor, Q_i_within, Q_i_Disk_has, Q_i_DiskFault_1, Q_sl_ContainsFunc_Lbyte__i_DiskFault_1, Q_i_Disk_putFor, F_i_DiskFault] at *); first | done | ((try generalize d_1.getD i.toNat ((0, [], PUnit.unit) : (Int) × (List (Int)) × Unit) = xa at *); (try obtain ⟨xa0, xa1, ⟨⟩⟩ := xa); (try dsimp only at *); grind [diskFault])))) | skip
  refine lp_v (V := (Int) × (Int)) (fun ((i, M) : (Int) × (Int)) => ⟨[.junk, .bptr 0 0, .junk, .junk, .junk, .junk, .junk, .junk, .junk, .junk, .junk, .junk, .junk, .junk, .junk, .junk, .junk, .junk, .junk, .junk, .junk, .junk, .junk, .junk, .junk, .junk, .junk, .junk, .junk, .junk, .junk, .junk, .junk, .junk, .junk, .junk, .junk, .junk, .junk, .junk, .dat (.sl (.pair (.int .i64) (.pair (.sl (.int .u8)) .unit))) d_1, .dat (.int .i64) M, .dat (.int .i64) i, .junk, .junk, .junk, .junk, .junk, .junk, .junk, .junk, .junk, .junk, .junk], [some (.box [.dat (.sl (.sl (.int .u8))) d_0, .dat (.sl (.pair (.int .i64) (.pair (.sl (.int .u8)) .unit))) d_1])]⟩) (fun ((i, M) : (Int) × (Int)) => M = d_1.length ∧ 0 ≤ i ∧ i ≤ d_1.length ∧ dupTo d_1 i.toNat = false) (fun ((i, M) : (Int) × (Int)) => d_1.length - i.toNat) (0, _) rfl ?_ ?_
  · simp [Alg.std, dupTo]
  rintro ⟨i, M⟩ hf I hI
  replace hf : M = d_1.length ∧ 0 ≤ i ∧ i ≤ d_1.length ∧ dupTo d_1 i.toNat = false := hf
  generalize hL : Lg.std = L
  generalize hA : Alg.std = A
  cbv
  subst hL hA
  try dsimp only [Ty.den]
  subst hI
  obtain ⟨h1, h2, h3, h4⟩ := hf
  have hl := hw.1.2.1.1
  have hf := fun (h : i.toNat < d_1.length) => find_seen d_1 i.toNat h
  have hd := fun (h : i.toNat < d_1.length) => dup_seen d_1 i.toNat h
  have hds := dup_succ d_1 i.toNat
  have hsu : (i + 1).toNat = i.toNat + 1 := by omega
  have hc : (i.toNat : Int) = i := by omega
  dsimp only [putD] at hf
  repeat' (first | intro _ | apply And.intro)
  all_goals first | (with_reducible exact True.intro) | ((fail_if_success (refine lp_v (V := Unit) (fun _ => ⟨[], []⟩) (fun _ => True) (fun _ => 0) () ?_ ?_ ?_)); (try simp only [Lg.std, Alg.std, List.drop_zero, List.take_length] at *); (try refine ⟨(_, _), rfl, ?_, ?_⟩); (all_goals (subst hR0 hg_F_i_within hg_Q_i_within hg_F_i_Disk_has hg_Q_i_Disk_has hg_F_i_DiskFault_1 hg_Q_i_DiskFault_1 hg_F_sl_ContainsFunc_Lbyte__i_DiskFault_1 hg_Q_sl_ContainsFunc_Lbyte__i_DiskFault_1 hg_F_i_Disk_putFor hg_Q_i_Disk_putFor; (try simp only [Lg.std, Alg.std, List.drop_zero, List.take_length, F_i_within, F_i_Disk_has, F_i_DiskFault_1, F_sl_ContainsFunc_Lbyte__i_DiskFault_1, F_i_Disk_putFor, Q_i_within, Q_i_Disk_has, Q_i_DiskFault_1, Q_sl_ContainsFunc_Lbyte__i_DiskFault_1, Q_i_Disk_putFor, F_i_DiskFault] at *); first | done | ((try generalize d_1.getD i.toNat ((0, [], PUnit.unit) : (Int) × (List (Int)) × Unit) = xa at *); (try obtain ⟨xa0, xa1, ⟨⟩⟩ := xa); (try dsimp only at *); grind [diskFault])))) | skip
def con_i_DiskFault : Con := ⟨true, g1 (pD (.pair (.sl (.sl (.int .u8))) (.pair (.sl (.pair (.int .i64) (.pair (.sl (.int .u8)) .unit))) .unit))) fun d => ⟨[Q_i_DiskFault d], [⟨(.int .i64), .sh, F_i_DiskFault d⟩], []⟩, [], false, 0⟩
theorem ok_i_DiskFault : ConOk pg 58 con_i_DiskFault := ConOk.g1 (Enters.of (by kernel_rfl)) ct_i_DiskFault

def F_s_DiskFault (d : (List (List (Int))) × (List ((Int) × (List (Int)) × Unit)) × Unit) : Int := diskFault d
def Q_s_DiskFault (d : (List (List (Int))) × (List ((Int) × (List (Int)) × Unit)) × Unit) : Prop := True
def O_s_DiskFault : Opt := ⟨fun i => (match decide (i = 24) with | true => true | false => false), fun i => (match decide (i = 22) with | true => [false, true, false, false, false, false, true, true, false, false, false, false, false, false, false, false, false, false, false, false, false, false, false, false, false, false, false, false, false, false, false, false, false, false, false, false, false, false, false, false, false, false, false, false, false, false, false, false, false, false, false, false, false, false, false, false, false, false, false, false, false, false, false, false, false, false, false, false, false, false, false, false, false, false, false, false, false, false, false, false, false, false, false] | false => (match decide (i = 19) with | true => [false, true, false, false, false, false, true, false, false, false, false, false, false, false, false, false, false, false, false, false, false, false, false, false, false, false, false, false, false, false, false, false, false, false, false, false, false, false, false, false, false, false, false, false, false, false, false, false, false, false, false, false, false, false, false, false, false, false, false, false, false, false, false, false, false, false, false, false, false, false, false, false, false, false, false, false, false, false, false, false, false, false, false] | false => (match decide (i = 12) with | true => [false, true, false, true, false, true, false, false, false, false, false, false, false, false, false, false, false, false, false, false, false, false, false, false, false, false, false, false, false, false, false, false, false, false, false, false, false, false, false, false, false, false, false, false, false, false, false, false, false, false, false, false, false, false, false, false, false, false, false, false, false, false, false, false, false, false, false, false, false, false, false, false, false, false, false, false, false, false, false, false, false, false, false] | false => (match decide (i = 5) with | true => [false, true, false, true, true, false, false, false, false, false, false, false, false, false, false, false, false, false, false, false, false, false, false, false, false, false, false, false, false, false, false, false, false, false, false, false, false, false, false, false, false, false, false, false, false, false, false, false, false, false, false, false, false, false, false, false, false, false, false, false, false, false, false, false, false, false, false, false, false, false, false, false, false, false, false, false, false, false, false, false, false, false, false] | false => [])))), fun i => .done, fun i => none, fun i => false, fun i => [], fun i => false, fun i => none⟩
def τ_s_DiskFault : Env := Env.of [(2, (.int .i64)), (3, (.int .i64)), (4, .bool), (22, (.sl (.sl (.int .u8)))), (27, (.sl (.int .u8))), (36, (.sl (.pair (.int .i64) (.pair (.sl (.int .u8)) .unit)))), (38, (.pair (.sl (.sl (.int .u8))) (.pair (.sl (.pair (.int .i64) (.pair (.sl (.int .u8)) .unit))) .unit))), (156, (.pair (.int .i64) (.pair (.sl (.int .u8)) .unit)))] [] []

theorem ct_s_DiskFault (d : (List (List (Int))) × (List ((Int) × (List (Int)) × Unit)) × Unit) : Ct pg 54 [.dat (.pair (.sl (.sl (.int .u8))) (.pair (.sl (.pair (.int .i64) (.pair (.sl (.int .u8)) .unit))) .unit)) d] ⟨[Q_s_DiskFault d], [⟨(.int .i64), .sh, F_s_DiskFault d⟩], []⟩ := by
  refine ct_claim (O := O_s_DiskFault) (τ := τ_s_DiskFault) (EnvOk.of (by kernel_rfl) (by kernel_rfl)) (GOk.of (.cons ok_s_l1In .nil : AllOk pg [(100, con_s_l1In)])) mixed (Enters.of (by kernel_rfl)) (fn := Go.Proofs.Tryz.f54) (by kernel_rfl) rfl (by kernel_rfl) ?_
  intro hp hw
  have hq : Q_s_DiskFault d := hp _ (List.mem_singleton.2 rfl)
  clear hp
  change claim Lg.std Alg.std τ_s_DiskFault (Gam.of [(100, ⟨true, g3 (pD (.int .i64)) (pD (.int .i64)) (pD (.int .i64)) fun n lo hi => ⟨[Q_s_l1In n lo hi], [⟨.bool, .sh, F_s_l1In n lo hi⟩], []⟩, [], false, 0⟩)]) O_s_DiskFault Go.Proofs.Tryz.f54 [.dat (.pair (.sl (.sl (.int .u8))) (.pair (.sl (.pair (.int .i64) (.pair (.sl (.int .u8)) .unit))) .unit)) d] ⟨[Q_s_DiskFault d], [⟨(.int .i64), .sh, F_s_DiskFault d⟩], []⟩
  generalize hg_F_s_l1In : F_s_l1In = g_F_s_l1In
  generalize hg_Q_s_l1In : Q_s_l1In = g_Q_s_l1In
  generalize hR0 : F_s_DiskFault d = R0
  generalize Q_s_DiskFault d = Q0
  generalize hL : Lg.std = L
  generalize hA : Alg.std = A
  cbv
  subst hL hA
  try dsimp only [Ty.den]
  obtain ⟨d_0, d_1, ⟨⟩⟩ := d
  have hl0 := hw.1.1.1
  have hl1 := hw.1.2.1.1
  repeat' (first | intro _ | apply And.intro)
  all_goals first | trivial | ((fail_if_success (refine lp_v (V := Unit) (fun _ => ⟨[], []⟩) (fun _ => True) (fun _ => 0) () ?_ ?_ ?_)); subst hR0 hg_F_s_l1In hg_Q_s_l1In; (try simp only [Alg.std, F_s_l1In, Q_s_l1In, F_s_DiskFault] at *); all_goals grind [diskFault]) | skip
  refine lp_v (V := (Int) × (Int)) (fun ((i, M) : (Int) × (Int)) => ⟨[.junk, .bptr 0 0, .junk, .dat (.int .i64) M, .dat (.int .i64) i, .junk, .junk, .junk, .junk, .junk, .junk, .junk, .junk, .junk, .junk, .junk, .junk, .junk, .junk, .junk, .junk, .junk, .junk, .junk, .junk, .junk, .junk, .junk, .junk, .junk, .junk, .junk, .junk, .junk, .junk, .junk, .junk, .junk, .junk, .junk, .junk, .junk, .junk, .junk, .junk, .junk, .junk, .junk, .junk, .junk, .junk, .junk, .junk, .junk, .junk, .junk, .junk, .junk, .junk, .junk, .junk, .junk, .junk, .junk, .junk, .junk, .junk, .junk, .junk, .junk, .junk, .junk, .junk, .junk, .junk, .junk, .junk, .junk, .junk, .junk, .junk, .junk, .junk], [some (.box [.dat (.sl (.sl (.int .u8))) d_0, .dat (.sl (.pair (.int .i64) (.pair (.sl (.int .u8)) .unit))) d_1])]⟩) (fun ((i, M) : (Int) × (Int)) => M = d_0.length ∧ 0 ≤ i ∧ i ≤ d_0.length ∧ d_0.any (fun b => !decide (b.length = 96)) = (d_0.drop i.toNat).any (fun b => !decide (b.length = 96))) (fun ((i, M) : (Int) × (Int)) => d_0.length - i.toNat) (0, _) rfl ?_ ?_
  · simp [Alg.std]
  rintro ⟨i, M⟩ hf I hI
  replace hf : M = d_0.length ∧ 0 ≤ i ∧ i ≤ d_0.length ∧ d_0.any (fun b => !decide (b.length = 96)) = (d_0.drop i.toNat).any (fun b => !decide (b.length = 96)) := hf
  generalize hL : Lg.std = L
  generalize hA : Alg.std = A
  cbv
  subst hL hA
  try dsimp only [Ty.den]
  subst hI
  obtain ⟨h1, h2, h3, h4⟩ := hf
  have hl := hl0
  have hdc := fun (h : i.toNat < d_0.length) => drop_cons d_0 ([] : List Int) i.toNat h
  have he := fun (h : d_0.length ≤ i.toNat) => drop_nil d_0 i.toNat h
  repeat' (first | intro _ | apply And.intro)
  all_goals first | (with_reducible exact True.intro) | ((fail_if_success (refine lp_v (V := Unit) (fun _ => ⟨[], []⟩) (fun _ => True) (fun _ => 0) () ?_ ?_ ?_)); (try simp only [Lg.std, Alg.std, List.drop_zero, List.take_length] at *); (try refine ⟨(_, _), rfl, ?_, ?_⟩); (all_goals (subst hR0 hg_F_s_l1In hg_Q_s_l1In; (try simp only [Lg.std, Alg.std, List.drop_zero, List.take_length, F_s_l1In, Q_s_l1In, F_s_DiskFault] at *); first | done | (grind [diskFault])))) | skip
  refine lp_v (V := (Int) × (Int)) (fun ((i, M) : (Int) × (Int)) => ⟨[.junk, .bptr 0 0, .junk, .dat (.int .i64) M, .junk, .dat (.int .i64) i, .junk, .junk, .junk, .junk, .junk, .junk, .junk, .junk, .junk, .junk, .junk, .junk, .junk, .junk, .junk, .junk, .junk, .junk, .junk, .junk, .junk, .junk, .junk, .junk, .junk, .junk, .junk, .junk, .junk, .junk, .junk, .junk, .junk, .junk, .junk, .junk, .junk, .junk, .junk, .junk, .junk, .junk, .junk, .junk, .junk, .junk, .junk, .junk, .junk, .junk, .junk, .junk, .junk, .junk, .junk, .junk, .junk, .junk, .junk, .junk, .junk, .junk, .junk, .junk, .junk, .junk, .junk, .junk, .junk, .junk, .junk, .junk, .junk, .junk, .junk, .junk, .junk], [some (.box [.dat (.sl (.sl (.int .u8))) d_0, .dat (.sl (.pair (.int .i64) (.pair (.sl (.int .u8)) .unit))) d_1])]⟩) (fun ((i, M) : (Int) × (Int)) => M = d_0.length ∧ 0 ≤ i ∧ i ≤ d_1.length ∧ putsBad d_0.length d_1 = putsBad d_0.length (d_1.drop i.toNat)) (fun ((i, M) : (Int) × (Int)) => d_1.length - i.toNat) (0, _) rfl ?_ ?_
  · simp [Alg.std, h1]
  rintro ⟨i, M⟩ hf I hI
  replace hf : M = d_0.length ∧ 0 ≤ i ∧ i ≤ d_1.length ∧ putsBad d_0.length d_1 = putsBad d_0.length (d_1.drop i.toNat) := hf
  generalize hL : Lg.std = L
  generalize hA : Alg.std = A
  cbv
  subst hL hA
  try dsimp only [Ty.den]
  subst hI
  obtain ⟨h1, h2, h3, h4⟩ := hf
  have hl := hw.1.2.1.1
  have hl0 := hw.1.1.1
  have hs := fun (h : i.toNat < d_1.length) => putsBad_step d_0.length d_1 i.toNat h
  have he := fun (h : d_1.length ≤ i.toNat) => putsBad_end d_0.length d_1 i.toNat h
  have hsu : (i + 1).toNat = i.toNat + 1 := by omega
  dsimp only [putD] at hs
  repeat' (first | intro _ | apply And.intro)
  all_goals first | (with_reducible exact True.intro) | ((fail_if_success (refine lp_v (V := Unit) (fun _ => ⟨[], []⟩) (fun _ => True) (fun _ => 0) () ?_ ?_ ?_)); (try simp only [Lg.std, Alg.std, List.drop_zero, List.take_length] at *); (try refine ⟨(_, _), rfl, ?_, ?_⟩); (all_goals (subst hR0 hg_F_s_l1In hg_Q_s_l1In; (try simp only [Lg.std, Alg.std, List.drop_zero, List.take_length, F_s_l1In, Q_s_l1In, F_s_DiskFault] at *); first | done | ((try generalize d_1.getD i.toNat ((0, [], PUnit.unit) : (Int) × (List (Int)) × Unit) = xa at *); (try obtain ⟨xa0, xa1, ⟨⟩⟩ := xa); (try dsimp only at *); grind [diskFault])))) | skip
  refine lp_v (V := (Int)) (fun (i : Int) => ⟨[.junk, .bptr 0 0, .junk, .junk, .junk, .junk, .dat (.int .i64) i, .junk, .junk, .junk, .junk, .junk, .junk, .junk, .junk, .junk, .junk, .junk, .junk, .junk, .junk, .junk, .junk, .junk, .junk, .junk, .junk, .junk, .junk, .junk, .junk, .junk, .junk, .junk, .junk, .junk, .junk, .junk, .junk, .junk, .junk, .junk, .junk, .junk, .junk, .junk, .junk, .junk, .junk, .junk, .junk, .junk, .junk, .junk, .junk, .junk, .junk, .junk, .junk, .junk, .junk, .junk, .junk, .junk, .junk, .junk, .junk, .junk, .junk, .junk, .junk, .junk, .junk, .junk, .junk, .junk, .junk, .junk, .junk, .junk, .junk, .junk, .junk], [some (.box [.dat (.sl (.sl (.int .u8))) d_0, .dat (.sl (.pair (.int .i64) (.pair (.sl (.int .u8)) .unit))) d_1])]⟩) (fun (i : Int) => 0 ≤ i ∧ i ≤ d_1.length ∧ dupTo d_1 i.toNat = false) (fun (i : Int) => d_1.length - i.toNat) (0) rfl ?_ ?_
  · simp [dupTo]
  rintro i hf I hI
  replace hf : 0 ≤ i ∧ i ≤ d_1.length ∧ dupTo d_1 i.toNat = false := hf
  generalize hL : Lg.std = L
  generalize hA : Alg.std = A
  cbv
  subst hL hA
  try dsimp only [Ty.den]
  subst hI
  obtain ⟨h1, h2, h3⟩ := hf
  have hl := hw.1.2.1.1
  have hz := seen_zero d_1 i.toNat
  have hsu : (i + 1).toNat = i.toNat + 1 := by omega
  repeat' (first | intro _ | apply And.intro)
  all_goals first | (with_reducible exact True.intro) | ((fail_if_success (refine lp_v (V := Unit) (fun _ => ⟨[], []⟩) (fun _ => True) (fun _ => 0) () ?_ ?_ ?_)); (try simp only [Lg.std, Alg.std, List.drop_zero, List.take_length] at *); (try refine ⟨_, rfl, ?_, ?_⟩); (all_goals (subst hR0 hg_F_s_l1In hg_Q_s_l1In; (try simp only [Lg.std, Alg.std, List.drop_zero, List.take_length, F_s_l1In, Q_s_l1In, F_s_DiskFault] at *); first | done | (grind [diskFault])))) | skip
  refine lp_v (V := (Int)) (fun (j : Int) => ⟨[.junk, .bptr 0 0, .junk, .junk, .junk, .junk, .dat (.int .i64) i, .dat (.int .i64) j, .junk, .junk, .junk, .junk, .junk, .junk, .junk, .junk, .junk, .junk, .junk, .junk, .junk, .junk, .junk, .junk, .junk, .junk, .junk, .junk, .junk, .junk, .junk, .junk, .junk, .junk, .junk, .junk, .junk, .junk, .junk, .junk, .junk, .junk, .junk, .junk, .junk, .junk, .junk, .junk, .junk, .junk, .junk, .junk, .junk, .junk, .junk, .junk, .junk, .junk, .junk, .junk, .junk, .junk, .junk, .junk, .junk, .junk, .junk, .junk, .junk, .junk, .junk, .junk, .junk, .junk, .junk, .junk, .junk, .junk, .junk, .junk, .junk, .junk, .junk], [some (.box [.dat (.sl (.sl (.int .u8))) d_0, .dat (.sl (.pair (.int .i64) (.pair (.sl (.int .u8)) .unit))) d_1])]⟩) (fun (j : Int) => 0 ≤ j ∧ j ≤ i ∧ seenP d_1 i.toNat j.toNat = false) (fun (j : Int) => i.toNat - j.toNat) (0) rfl ?_ ?_
  · simp only [Alg.std] at *
    grind
  rintro j hf I hI
  replace hf : 0 ≤ j ∧ j ≤ i ∧ seenP d_1 i.toNat j.toNat = false := hf
  generalize hL : Lg.std = L
  generalize hA : Alg.std = A
  cbv
  subst hL hA
  try dsimp only [Ty.den]
  subst hI
  obtain ⟨h1, h2, h3⟩ := hf
  have hss := fun (h : j.toNat < d_1.length) => seen_succ d_1 i.toNat j.toNat h
  have hh := fun (h : i.toNat < d_1.length) (g : j.toNat < i.toNat) => dup_hit d_1 i.toNat j.toNat h g
  have hds := dup_succ d_1 i.toNat
  have hsj : (j + 1).toNat = j.toNat + 1 := by omega
  dsimp only [putD] at hss hh
  repeat' (first | intro _ | apply And.intro)
  all_goals first | (with_reducible exact True.intro) | ((fail_if_success (refine lp_v (V := Unit) (fun _ => ⟨[], []⟩) (fun _ => True) (fun _ => 0) () ?_ ?_ ?_)); (try simp only [Lg.std, Alg.std, List.drop_zero, List.take_length] at *); (try refine ⟨_, rfl, ?_, ?_⟩); (all_goals (subst hR0 hg_F_s_l1In hg_Q_s_l1In; (try simp only [Lg.std, Alg.std, List.drop_zero, List.take_length, F_s_l1In, Q_s_l1In, F_s_DiskFault] at *); first | done | ((try generalize d_1.getD i.toNat ((0, [], PUnit.unit) : (Int) × (List (Int)) × Unit) = xa at *); (try obtain ⟨xa0, xa1, ⟨⟩⟩ := xa); (try dsimp only at *); (try generalize d_1.getD j.toNat ((0, [], PUnit.unit) : (Int) × (List (Int)) × Unit) = xb at *); (try obtain ⟨xb0, xb1, ⟨⟩⟩ := xb); (try dsimp only at *); grind [diskFault])))) | skip
def con_s_DiskFault : Con := ⟨true, g1 (pD (.pair (.sl (.sl (.int .u8))) (.pair (.sl (.pair (.int .i64) (.pair (.sl (.int .u8)) .unit))) .unit))) fun d => ⟨[Q_s_DiskFault d], [⟨(.int .i64), .sh, F_s_DiskFault d⟩], []⟩, [], false, 0⟩
theorem ok_s_DiskFault : ConOk pg 54 con_s_DiskFault := ConOk.g1 (Enters.of (by kernel_rfl)) ct_s_DiskFault

def F_i_DraftFault_1 (n : Int) (d : ((List (List (Int))) × (List ((Int) × (List (Int)) × Unit)) × Unit) × (List (Int)) × (List (Int)) × Unit) : Bool := d.2.2.1.contains n
def Q_i_DraftFault_1 (n : Int) (d : ((List (List (Int))) × (List ((Int) × (List (Int)) × Unit)) × Unit) × (List (Int)) × (List (Int)) × Unit) : Prop := True
def O_i_DraftFault_1 : Opt := ⟨fun i => false, fun i => [], fun i => .done, fun i => none, fun i => false, fun i => [], fun i => false, fun i => none⟩
def τ_i_DraftFault_1 : Env := Env.of [(2, (.int .i64)), (3, (.int .i64)), (4, .bool), (62, (.sl (.int .i64))), (74, (.pair (.pair (.sl (.sl (.int .u8))) (.pair (.sl (.pair (.int .i64) (.pair (.sl (.int .u8)) .unit))) .unit)) (.pair (.sl (.int .i64)) (.pair (.sl (.int .i64)) .unit))))] [] []

theorem ct_i_DraftFault_1 (n : Int) (d : ((List (List (Int))) × (List ((Int) × (List (Int)) × Unit)) × Unit) × (List (Int)) × (List (Int)) × Unit) : Ct pg 151 [.dat (.int .i64) n, .dptr (.pair (.pair (.sl (.sl (.int .u8))) (.pair (.sl (.pair (.int .i64) (.pair (.sl (.int .u8)) .unit))) .unit)) (.pair (.sl (.int .i64)) (.pair (.sl (.int .i64)) .unit))) d] ⟨[Q_i_DraftFault_1 n d], [⟨.bool, .sh, F_i_DraftFault_1 n d⟩], []⟩ := by
  refine ct_claim (O := O_i_DraftFault_1) (τ := τ_i_DraftFault_1) (EnvOk.of (by kernel_rfl) (by kernel_rfl)) (GOk.of (.cons ok_sl_Contains_int64 .nil : AllOk pg [(152, con_sl_Contains_int64)])) mixed (Enters.of (by kernel_rfl)) (fn := Go.Proofs.Tryz.f151) (by kernel_rfl) rfl (by kernel_rfl) ?_
  intro hp hw
  have hq : Q_i_DraftFault_1 n d := hp _ (List.mem_singleton.2 rfl)
  clear hp
  change claim Lg.std Alg.std τ_i_DraftFault_1 (Gam.of [(152, ⟨true, g2 (pD (.sl (.int .i64))) (pD (.int .i64)) fun a n => ⟨[Q_sl_Contains_int64 a n], [⟨.bool, .sh, F_sl_Contains_int64 a n⟩], []⟩, [], false, 0⟩)]) O_i_DraftFault_1 Go.Proofs.Tryz.f151 [.dat (.int .i64) n, .dptr (.pair (.pair (.sl (.sl (.int .u8))) (.pair (.sl (.pair (.int .i64) (.pair (.sl (.int .u8)) .unit))) .unit)) (.pair (.sl (.int .i64)) (.pair (.sl (.int .i64)) .unit))) d] ⟨[Q_i_DraftFault_1 n d], [⟨.bool, .sh, F_i_DraftFault_1 n d⟩], []⟩
  generalize hg_F_sl_Contains_int64 : F_sl_Contains_int64 = g_F_sl_Contains_int64
  generalize hg_Q_sl_Contains_int64 : Q_sl_Contains_int64 = g_Q_sl_Contains_int64
  generalize hR0 : F_i_DraftFault_1 n d = R0
  generalize Q_i_DraftFault_1 n d = Q0
  generalize hL : Lg.std = L
  generalize hA : Alg.std = A
  cbv
  subst hL hA
  try dsimp only [Ty.den]
  subst hR0 hg_F_sl_Contains_int64 hg_Q_sl_Contains_int64
  simp only [Q_i_DraftFault_1] at hq
  simp only [Lg.std, Alg.std, List.drop_zero, List.take_length, F_sl_Contains_int64, Q_sl_Contains_int64, F_i_DraftFault_1]
  all_goals grind
def con_i_DraftFault_1 : Con := ⟨true, g2 (pD (.int .i64)) (pP (.pair (.pair (.sl (.sl (.int .u8))) (.pair (.sl (.pair (.int .i64) (.pair (.sl (.int .u8)) .unit))) .unit)) (.pair (.sl (.int .i64)) (.pair (.sl (.int .i64)) .unit)))) fun n d => ⟨[Q_i_DraftFault_1 n d], [⟨.bool, .sh, F_i_DraftFault_1 n d⟩], []⟩, [], false, 0⟩
theorem ok_i_DraftFault_1 : ConOk pg 151 con_i_DraftFault_1 := ConOk.g2 (Enters.of (by kernel_rfl)) ct_i_DraftFault_1

def F_i_DraftFault_2 (p : (Int) × (List (Int)) × Unit) (d : ((List (List (Int))) × (List ((Int) × (List (Int)) × Unit)) × Unit) × (List (Int)) × (List (Int)) × Unit) : Bool := !d.2.2.1.contains p.1
def Q_i_DraftFault_2 (p : (Int) × (List (Int)) × Unit) (d : ((List (List (Int))) × (List ((Int) × (List (Int)) × Unit)) × Unit) × (List (Int)) × (List (Int)) × Unit) : Prop := True
def O_i_DraftFault_2 : Opt := ⟨fun i => false, fun i => [], fun i => .done, fun i => none, fun i => false, fun i => [], fun i => false, fun i => none⟩
def τ_i_DraftFault_2 : Env := Env.of [(2, (.int .i64)), (3, (.int .i64)), (4, .bool), (62, (.sl (.int .i64))), (74, (.pair (.pair (.sl (.sl (.int .u8))) (.pair (.sl (.pair (.int .i64) (.pair (.sl (.int .u8)) .unit))) .unit)) (.pair (.sl (.int .i64)) (.pair (.sl (.int .i64)) .unit)))), (156, (.pair (.int .i64) (.pair (.sl (.int .u8)) .unit)))] [] []

theorem ct_i_DraftFault_2 (p : (Int) × (List (Int)) × Unit) (d : ((List (List (Int))) × (List ((Int) × (List (Int)) × Unit)) × Unit) × (List (Int)) × (List (Int)) × Unit) : Ct pg 154 [.dat (.pair (.int .i64) (.pair (.sl (.int .u8)) .unit)) p, .dptr (.pair (.pair (.sl (.sl (.int .u8))) (.pair (.sl (.pair (.int .i64) (.pair (.sl (.int .u8)) .unit))) .unit)) (.pair (.sl (.int .i64)) (.pair (.sl (.int .i64)) .unit))) d] ⟨[Q_i_DraftFault_2 p d], [⟨.bool, .sh, F_i_DraftFault_2 p d⟩], []⟩ := by
  refine ct_claim (O := O_i_DraftFault_2) (τ := τ_i_DraftFault_2) (EnvOk.of (by kernel_rfl) (by kernel_rfl)) (GOk.of (.cons ok_sl_Contains_int64 .nil : AllOk pg [(152, con_sl_Contains_int64)])) mixed (Enters.of (by kernel_rfl)) (fn := Go.Proofs.Tryz.f154) (by kernel_rfl) rfl (by kernel_rfl) ?_
  intro hp hw
  have hq : Q_i_DraftFault_2 p d := hp _ (List.mem_singleton.2 rfl)
  clear hp
  change claim Lg.std Alg.std τ_i_DraftFault_2 (Gam.of [(152, ⟨true, g2 (pD (.sl (.int .i64))) (pD (.int .i64)) fun a n => ⟨[Q_sl_Contains_int64 a n], [⟨.bool, .sh, F_sl_Contains_int64 a n⟩], []⟩, [], false, 0⟩)]) O_i_DraftFault_2 Go.Proofs.Tryz.f154 [.dat (.pair (.int .i64) (.pair (.sl (.int .u8)) .unit)) p, .dptr (.pair (.pair (.sl (.sl (.int .u8))) (.pair (.sl (.pair (.int .i64) (.pair (.sl (.int .u8)) .unit))) .unit)) (.pair (.sl (.int .i64)) (.pair (.sl (.int .i64)) .unit))) d] ⟨[Q_i_DraftFault_2 p d], [⟨.bool, .sh, F_i_DraftFault_2 p d⟩], []⟩
  generalize hg_F_sl_Contains_int64 : F_sl_Contains_int64 = g_F_sl_Contains_int64
  generalize hg_Q_sl_Contains_int64 : Q_sl_Contains_int64 = g_Q_sl_Contains_int64
  generalize hR0 : F_i_DraftFault_2 p d = R0
  generalize Q_i_DraftFault_2 p d = Q0
  generalize hL : Lg.std = L
  generalize hA : Alg.std = A
  cbv
  subst hL hA
  try dsimp only [Ty.den]
  subst hR0 hg_F_sl_Contains_int64 hg_Q_sl_Contains_int64
  simp only [Q_i_DraftFault_2] at hq
  simp only [Lg.std, Alg.std, List.drop_zero, List.take_length, F_sl_Contains_int64, Q_sl_Contains_int64, F_i_DraftFault_2]
  all_goals grind
def con_i_DraftFault_2 : Con := ⟨true, g2 (pD (.pair (.int .i64) (.pair (.sl (.int .u8)) .unit))) (pP (.pair (.pair (.sl (.sl (.int .u8))) (.pair (.sl (.pair (.int .i64) (.pair (.sl (.int .u8)) .unit))) .unit)) (.pair (.sl (.int .i64)) (.pair (.sl (.int .i64)) .unit)))) fun p d => ⟨[Q_i_DraftFault_2 p d], [⟨.bool, .sh, F_i_DraftFault_2 p d⟩], []⟩, [], false, 0⟩
theorem ok_i_DraftFault_2 : ConOk pg 154 con_i_DraftFault_2 := ConOk.g2 (Enters.of (by kernel_rfl)) ct_i_DraftFault_2

def F_sl_IndexFunc_int64__i_DraftFault_1 (s : List (Int)) (d : ((List (List (Int))) × (List ((Int) × (List (Int)) × Unit)) × Unit) × (List (Int)) × (List (Int)) × Unit) : Int := findG (fun x => d.2.2.1.contains x) s 0
def Q_sl_IndexFunc_int64__i_DraftFault_1 (s : List (Int)) (d : ((List (List (Int))) × (List ((Int) × (List (Int)) × Unit)) × Unit) × (List (Int)) × (List (Int)) × Unit) : Prop := True
def O_sl_IndexFunc_int64__i_DraftFault_1 : Opt := ⟨fun i => false, fun i => (match decide (i = 2) with | true => [true, true, false, false, false, false, false, true, true, false, false, false, false, false, false, false, false, false, false] | false => []), fun i => .done, fun i => none, fun i => false, fun i => [], fun i => false, fun i => none⟩
def τ_sl_IndexFunc_int64__i_DraftFault_1 : Env := Env.of [(2, (.int .i64)), (3, (.int .i64)), (4, .bool), (62, (.sl (.int .i64)))] [] []

theorem ct_sl_IndexFunc_int64__i_DraftFault_1 (s : List (Int)) (d : ((List (List (Int))) × (List ((Int) × (List (Int)) × Unit)) × Unit) × (List (Int)) × (List (Int)) × Unit) : Ct pg 200 [.dat (.sl (.int .i64)) s, .clo 151 [.dptr (.pair (.pair (.sl (.sl (.int .u8))) (.pair (.sl (.pair (.int .i64) (.pair (.sl (.int .u8)) .unit))) .unit)) (.pair (.sl (.int .i64)) (.pair (.sl (.int .i64)) .unit))) d]] ⟨[Q_sl_IndexFunc_int64__i_DraftFault_1 s d], [⟨(.int .i64), .sh, F_sl_IndexFunc_int64__i_DraftFault_1 s d⟩], []⟩ := by
  refine ct_claim (O := O_sl_IndexFunc_int64__i_DraftFault_1) (τ := τ_sl_IndexFunc_int64__i_DraftFault_1) (EnvOk.of (by kernel_rfl) (by kernel_rfl)) (GOk.of (.cons ok_i_DraftFault_1 .nil : AllOk pg [(151, con_i_DraftFault_1)])) mixed (Enters.of (by kernel_rfl)) (fn := Go.Proofs.Tryz.f200) (by kernel_rfl) rfl (by kernel_rfl) ?_
  intro hp hw
  have hq : Q_sl_IndexFunc_int64__i_DraftFault_1 s d := hp _ (List.mem_singleton.2 rfl)
  clear hp
  change claim Lg.std Alg.std τ_sl_IndexFunc_int64__i_DraftFault_1 (Gam.of [(151, ⟨true, g2 (pD (.int .i64)) (pP (.pair (.pair (.sl (.sl (.int .u8))) (.pair (.sl (.pair (.int .i64) (.pair (.sl (.int .u8)) .unit))) .unit)) (.pair (.sl (.int .i64)) (.pair (.sl (.int .i64)) .unit)))) fun n d => ⟨[Q_i_DraftFault_1 n d], [⟨.bool, .sh, F_i_DraftFault_1 n d⟩], []⟩, [], false, 0⟩)]) O_sl_IndexFunc_int64__i_DraftFault_1 Go.Proofs.Tryz.f200 [.dat (.sl (.int .i64)) s, .clo 151 [.dptr (.pair (.pair (.sl (.sl (.int .u8))) (.pair (.sl (.pair (.int .i64) (.pair (.sl (.int .u8)) .unit))) .unit)) (.pair (.sl (.int .i64)) (.pair (.sl (.int .i64)) .unit))) d]] ⟨[Q_sl_IndexFunc_int64__i_DraftFault_1 s d], [⟨(.int .i64), .sh, F_sl_IndexFunc_int64__i_DraftFault_1 s d⟩], []⟩
  generalize hg_F_i_DraftFault_1 : F_i_DraftFault_1 = g_F_i_DraftFault_1
  generalize hg_Q_i_DraftFault_1 : Q_i_DraftFault_1 = g_Q_i_DraftFault_1
  generalize hR0 : F_sl_IndexFunc_int64__i_DraftFault_1 s d = R0
  generalize Q_sl_IndexFunc_int64__i_DraftFault_1 s d = Q0
  generalize hL : Lg.std = L
  generalize hA : Alg.std = A
  cbv
  subst hL hA
  try dsimp only [Ty.den]
  refine lp_v (V := (Int) × (Int)) (fun ((i, M) : (Int) × (Int)) => ⟨[.dat (.sl (.int .i64)) s, .clo 151 [.dptr (.pair (.pair (.sl (.sl (.int .u8))) (.pair (.sl (.pair (.int .i64) (.pair (.sl (.int .u8)) .unit))) .unit)) (.pair (.sl (.int .i64)) (.pair (.sl (.int .i64)) .unit))) d], .junk, .junk, .junk, .junk, .junk, .dat (.int .i64) M, .dat (.int .i64) i, .junk, .junk, .junk, .junk, .junk, .junk, .junk, .junk, .junk, .junk], []⟩) (fun ((i, M) : (Int) × (Int)) => M = s.length ∧ 0 ≤ i ∧ i ≤ s.length ∧ findG (fun x => d.2.2.1.contains x) s 0 = findG (fun x => d.2.2.1.contains x) (s.drop i.toNat) i) (fun ((i, M) : (Int) × (Int)) => s.length - i.toNat) (0, _) rfl ?_ ?_
  · simp [Alg.std]
  rintro ⟨i, M⟩ hf I hI
  replace hf : M = s.length ∧ 0 ≤ i ∧ i ≤ s.length ∧ findG (fun x => d.2.2.1.contains x) s 0 = findG (fun x => d.2.2.1.contains x) (s.drop i.toNat) i := hf
  generalize hL : Lg.std = L
  generalize hA : Alg.std = A
  cbv
  subst hL hA
  try dsimp only [Ty.den]
  subst hI
  simp only [Lg.std, Alg.std, List.drop_zero, List.take_length]
  obtain ⟨h1, h2, h3, h4⟩ := hf
  have hl := hw.1.1
  have hdc := fun (h : i.toNat < s.length) => drop_cons s 0 i.toNat h
  have he := fun (h : s.length ≤ i.toNat) => drop_nil s i.toNat h
  repeat' (first | intro _ | apply And.intro)
  all_goals (try refine ⟨(_, _), rfl, ?_, ?_⟩)
  all_goals subst hR0 hg_F_i_DraftFault_1 hg_Q_i_DraftFault_1
  all_goals (try simp only [F_i_DraftFault_1, Q_i_DraftFault_1, F_sl_IndexFunc_int64__i_DraftFault_1] at *)
  all_goals grind [findG_cons, findG_nil]
def con_sl_IndexFunc_int64__i_DraftFault_1 : Con := ⟨true, g2 (pD (.sl (.int .i64))) (pC1 151 (pP (.pair (.pair (.sl (.sl (.int .u8))) (.pair (.sl (.pair (.int .i64) (.pair (.sl (.int .u8)) .unit))) .unit)) (.pair (.sl (.int .i64)) (.pair (.sl (.int .i64)) .unit))))) fun s d => ⟨[Q_sl_IndexFunc_int64__i_DraftFault_1 s d], [⟨(.int .i64), .sh, F_sl_IndexFunc_int64__i_DraftFault_1 s d⟩], []⟩, [], false, 0⟩
theorem ok_sl_IndexFunc_int64__i_DraftFault_1 : ConOk pg 200 con_sl_IndexFunc_int64__i_DraftFault_1 := ConOk.g2 (Enters.of (by kernel_rfl)) ct_sl_IndexFunc_int64__i_DraftFault_1

def F_sl_ContainsFunc_int64__i_DraftFault_1 (s : List (Int)) (d : ((List (List (Int))) × (List ((Int) × (List (Int)) × Unit)) × Unit) × (List (Int)) × (List (Int)) × Unit) : Bool := s.any (fun x => d.2.2.1.contains x)
def Q_sl_ContainsFunc_int64__i_DraftFault_1 (s : List (Int)) (d : ((List (List (Int))) × (List ((Int) × (List (Int)) × Unit)) × Unit) × (List (Int)) × (List (Int)) × Unit) : Prop := True
def O_sl_ContainsFunc_int64__i_DraftFault_1 : Opt := ⟨fun i => false, fun i => [], fun i => .done, fun i => none, fun i => false, fun i => [], fun i => false, fun i => none⟩
def τ_sl_ContainsFunc_int64__i_DraftFault_1 : Env := Env.of [(3, (.int .i64)), (4, .bool), (62, (.sl (.int .i64)))] [] []

theorem ct_sl_ContainsFunc_int64__i_DraftFault_1 (s : List (Int)) (d : ((List (List (Int))) × (List ((Int) × (List (Int)) × Unit)) × Unit) × (List (Int)) × (List (Int)) × Unit) : Ct pg 150 [.dat (.sl (.int .i64)) s, .clo 151 [.dptr (.pair (.pair (.sl (.sl (.int .u8))) (.pair (.sl (.pair (.int .i64) (.pair (.sl (.int .u8)) .unit))) .unit)) (.pair (.sl (.int .i64)) (.pair (.sl (.int .i64)) .unit))) d]] ⟨[Q_sl_ContainsFunc_int64__i_DraftFault_1 s d], [⟨.bool, .sh, F_sl_ContainsFunc_int64__i_DraftFault_1 s d⟩], []⟩ := by
  refine ct_claim (O := O_sl_ContainsFunc_int64__i_DraftFault_1) (τ := τ_sl_ContainsFunc_int64__i_DraftFault_1) (EnvOk.of (by kernel_rfl) (by kernel_rfl)) (GOk.of (.cons ok_i_DraftFault_1 (.cons ok_sl_IndexFunc_int64__i_DraftFault_1 .nil) : AllOk pg [(151, con_i_DraftFault_1), (200, con_sl_IndexFunc_int64__i_DraftFault_1)])) mixed (Enters.of (by kernel_rfl)) (fn := Go.Proofs.Tryz.f150) (by kernel_rfl) rfl (by kernel_rfl) ?_
  intro hp hw
  have hq : Q_sl_ContainsFunc_int64__i_DraftFault_1 s d := hp _ (List.mem_singleton.2 rfl)
  clear hp
  change claim Lg.std Alg.std τ_sl_ContainsFunc_int64__i_DraftFault_1 (Gam.of [(151, ⟨true, g2 (pD (.int .i64)) (pP (.pair (.pair (.sl (.sl (.int .u8))) (.pair (.sl (.pair (.int .i64) (.pair (.sl (.int .u8)) .unit))) .unit)) (.pair (.sl (.int .i64)) (.pair (.sl (.int .i64)) .unit)))) fun n d => ⟨[Q_i_DraftFault_1 n d], [⟨.bool, .sh, F_i_DraftFault_1 n d⟩], []⟩, [], false, 0⟩), (200, ⟨true, g2 (pD (.sl (.int .i64))) (pC1 151 (pP (.pair (.pair (.sl (.sl (.int .u8))) (.pair (.sl (.pair (.int .i64) (.pair (.sl (.int .u8)) .unit))) .unit)) (.pair (.sl (.int .i64)) (.pair (.sl (.int .i64)) .unit))))) fun s d => ⟨[Q_sl_IndexFunc_int64__i_DraftFault_1 s d], [⟨(.int .i64), .sh, F_sl_IndexFunc_int64__i_DraftFault_1 s d⟩], []⟩, [], false, 0⟩)]) O_sl_ContainsFunc_int64__i_DraftFault_1 Go.Proofs.Tryz.f150 [.dat (.sl (.int .i64)) s, .clo 151 [.dptr (.pair (.pair (.sl (.sl (.int .u8))) (.pair (.sl (.pair (.int .i64) (.pair (.sl (.int .u8)) .unit))) .unit)) (.pair (.sl (.int .i64)) (.pair (.sl (.int .i64)) .unit))) d]] ⟨[Q_sl_ContainsFunc_int64__i_DraftFault_1 s d], [⟨.bool, .sh, F_sl_ContainsFunc_int64__i_DraftFault_1 s d⟩], []⟩
  generalize hg_F_i_DraftFault_1 : F_i_DraftFault_1 = g_F_i_DraftFault_1
  generalize hg_Q_i_DraftFault_1 : Q_i_DraftFault_1 = g_Q_i_DraftFault_1
  generalize hg_F_sl_IndexFunc_int64__i_DraftFault_1 : F_sl_IndexFunc_int64__i_DraftFault_1 = g_F_sl_IndexFunc_int64__i_DraftFault_1
  generalize hg_Q_sl_IndexFunc_int64__i_DraftFault_1 : Q_sl_IndexFunc_int64__i_DraftFault_1 = g_Q_sl_IndexFunc_int64__i_DraftFault_1
  generalize hR0 : F_sl_ContainsFunc_int64__i_DraftFault_1 s d = R0
  generalize Q_sl_ContainsFunc_int64__i_DraftFault_1 s d = Q0
  generalize hL : Lg.std = L
  generalize hA : Alg.std = A
  cbv
  subst hL hA
  try dsimp only [Ty.den]
  have hf := findG_any (fun x => d.2.2.1.contains x) s 0 (by omega)
  subst hR0 hg_F_i_DraftFault_1 hg_Q_i_DraftFault_1 hg_F_sl_IndexFunc_int64__i_DraftFault_1 hg_Q_sl_IndexFunc_int64__i_DraftFault_1
  simp only [Q_sl_ContainsFunc_int64__i_DraftFault_1] at hq
  simp only [Lg.std, Alg.std, List.drop_zero, List.take_length, F_i_DraftFault_1, F_sl_IndexFunc_int64__i_DraftFault_1, Q_i_DraftFault_1, Q_sl_IndexFunc_int64__i_DraftFault_1, F_sl_ContainsFunc_int64__i_DraftFault_1]
  all_goals grind
def con_sl_ContainsFunc_int64__i_DraftFault_1 : Con := ⟨true, g2 (pD (.sl (.int .i64))) (pC1 151 (pP (.pair (.pair (.sl (.sl (.int .u8))) (.pair (.sl (.pair (.int .i64) (.pair (.sl (.int .u8)) .unit))) .unit)) (.pair (.sl (.int .i64)) (.pair (.sl (.int .i64)) .unit))))) fun s d => ⟨[Q_sl_ContainsFunc_int64__i_DraftFault_1 s d], [⟨.bool, .sh, F_sl_ContainsFunc_int64__i_DraftFault_1 s d⟩], []⟩, [], false, 0⟩
theorem ok_sl_ContainsFunc_int64__i_DraftFault_1 : ConOk pg 150 con_sl_ContainsFunc_int64__i_DraftFault_1 := ConOk.g2 (Enters.of (by kernel_rfl)) ct_sl_ContainsFunc_int64__i_DraftFault_1

def F_sl_IndexFunc_Put__i_DraftFault_2 (s : List ((Int) × (List (Int)) × Unit)) (d : ((List (List (Int))) × (List ((Int) × (List (Int)) × Unit)) × Unit) × (List (Int)) × (List (Int)) × Unit) : Int := findG (fun p => !d.2.2.1.contains p.1) s 0
def Q_sl_IndexFunc_Put__i_DraftFault_2 (s : List ((Int) × (List (Int)) × Unit)) (d : ((List (List (Int))) × (List ((Int) × (List (Int)) × Unit)) × Unit) × (List (Int)) × (List (Int)) × Unit) : Prop := True
def O_sl_IndexFunc_Put__i_DraftFault_2 : Opt := ⟨fun i => false, fun i => (match decide (i = 2) with | true => [true, true, false, false, false, false, false, true, true, false, false, false, false, false, false, false, false, false, false] | false => []), fun i => .done, fun i => none, fun i => false, fun i => [], fun i => false, fun i => none⟩
def τ_sl_IndexFunc_Put__i_DraftFault_2 : Env := Env.of [(3, (.int .i64)), (4, .bool), (36, (.sl (.pair (.int .i64) (.pair (.sl (.int .u8)) .unit)))), (156, (.pair (.int .i64) (.pair (.sl (.int .u8)) .unit)))] [] []

theorem ct_sl_IndexFunc_Put__i_DraftFault_2 (s : List ((Int) × (List (Int)) × Unit)) (d : ((List (List (Int))) × (List ((Int) × (List (Int)) × Unit)) × Unit) × (List (Int)) × (List (Int)) × Unit) : Ct pg 184 [.dat (.sl (.pair (.int .i64) (.pair (.sl (.int .u8)) .unit))) s, .clo 154 [.dptr (.pair (.pair (.sl (.sl (.int .u8))) (.pair (.sl (.pair (.int .i64) (.pair (.sl (.int .u8)) .unit))) .unit)) (.pair (.sl (.int .i64)) (.pair (.sl (.int .i64)) .unit))) d]] ⟨[Q_sl_IndexFunc_Put__i_DraftFault_2 s d], [⟨(.int .i64), .sh, F_sl_IndexFunc_Put__i_DraftFault_2 s d⟩], []⟩ := by
  refine ct_claim (O := O_sl_IndexFunc_Put__i_DraftFault_2) (τ := τ_sl_IndexFunc_Put__i_DraftFault_2) (EnvOk.of (by kernel_rfl) (by kernel_rfl)) (GOk.of (.cons ok_i_DraftFault_2 .nil : AllOk pg [(154, con_i_DraftFault_2)])) mixed (Enters.of (by kernel_rfl)) (fn := Go.Proofs.Tryz.f184) (by kernel_rfl) rfl (by kernel_rfl) ?_
  intro hp hw
  have hq : Q_sl_IndexFunc_Put__i_DraftFault_2 s d := hp _ (List.mem_singleton.2 rfl)
  clear hp
  change claim Lg.std Alg.std τ_sl_IndexFunc_Put__i_DraftFault_2 (Gam.of [(154, ⟨true, g2 (pD (.pair (.int .i64) (.pair (.sl (.int .u8)) .unit))) (pP (.pair (.pair (.sl (.sl (.int .u8))) (.pair (.sl (.pair (.int .i64) (.pair (.sl (.int .u8)) .unit))) .unit)) (.pair (.sl (.int .i64)) (.pair (.sl (.int .i64)) .unit)))) fun p d => ⟨[Q_i_DraftFault_2 p d], [⟨.bool, .sh, F_i_DraftFault_2 p d⟩], []⟩, [], false, 0⟩)]) O_sl_IndexFunc_Put__i_DraftFault_2 Go.Proofs.Tryz.f184 [.dat (.sl (.pair (.int .i64) (.pair (.sl (.int .u8)) .unit))) s, .clo 154 [.dptr (.pair (.pair (.sl (.sl (.int .u8))) (.pair (.sl (.pair (.int .i64) (.pair (.sl (.int .u8)) .unit))) .unit)) (.pair (.sl (.int .i64)) (.pair (.sl (.int .i64)) .unit))) d]] ⟨[Q_sl_IndexFunc_Put__i_DraftFault_2 s d], [⟨(.int .i64), .sh, F_sl_IndexFunc_Put__i_DraftFault_2 s d⟩], []⟩
  generalize hg_F_i_DraftFault_2 : F_i_DraftFault_2 = g_F_i_DraftFault_2
  generalize hg_Q_i_DraftFault_2 : Q_i_DraftFault_2 = g_Q_i_DraftFault_2
  generalize hR0 : F_sl_IndexFunc_Put__i_DraftFault_2 s d = R0
  generalize Q_sl_IndexFunc_Put__i_DraftFault_2 s d = Q0
  generalize hL : Lg.std = L
  generalize hA : Alg.std = A
  cbv
  subst hL hA
  try dsimp only [Ty.den]
  refine lp_v (V := (Int) × (Int)) (fun ((i, M) : (Int) × (Int)) => ⟨[.dat (.sl (.pair (.int .i64) (.pair (.sl (.int .u8)) .unit))) s, .clo 154 [.dptr (.pair (.pair (.sl (.sl (.int .u8))) (.pair (.sl (.pair (.int .i64) (.pair (.sl (.int .u8)) .unit))) .unit)) (.pair (.sl (.int .i64)) (.pair (.sl (.int .i64)) .unit))) d], .junk, .junk, .junk, .junk, .junk, .dat (.int .i64) M, .dat (.int .i64) i, .junk, .junk, .junk, .junk, .junk, .junk, .junk, .junk, .junk, .junk], []⟩) (fun ((i, M) : (Int) × (Int)) => M = s.length ∧ 0 ≤ i ∧ i ≤ s.length ∧ findG (fun p => !d.2.2.1.contains p.1) s 0 = findG (fun p => !d.2.2.1.contains p.1) (s.drop i.toNat) i) (fun ((i, M) : (Int) × (Int)) => s.length - i.toNat) (0, _) rfl ?_ ?_
  · simp [Alg.std]
  rintro ⟨i, M⟩ hf I hI
  replace hf : M = s.length ∧ 0 ≤ i ∧ i ≤ s.length ∧ findG (fun p => !d.2.2.1.contains p.1) s 0 = findG (fun p => !d.2.2.1.contains p.1) (s.drop i.toNat) i := hf
  generalize hL : Lg.std = L
  generalize hA : Alg.std = A
  cbv
  subst hL hA
  try dsimp only [Ty.den]
  subst hI
  simp only [Lg.std, Alg.std, List.drop_zero, List.take_length]
  obtain ⟨h1, h2, h3, h4⟩ := hf
  have hl := hw.1.1
  have hdc := fun (h : i.toNat < s.length) => drop_cons s ((0, [], PUnit.unit) : (Int) × (List (Int)) × Unit) i.toNat h
  have he := fun (h : s.length ≤ i.toNat) => drop_nil s i.toNat h
  repeat' (first | intro _ | apply And.intro)
  all_goals (try refine ⟨(_, _), rfl, ?_, ?_⟩)
  all_goals subst hR0 hg_F_i_DraftFault_2 hg_Q_i_DraftFault_2
  all_goals (try simp only [F_i_DraftFault_2, Q_i_DraftFault_2, F_sl_IndexFunc_Put__i_DraftFault_2] at *)
  all_goals grind [findG_cons, findG_nil]
def con_sl_IndexFunc_Put__i_DraftFault_2 : Con := ⟨true, g2 (pD (.sl (.pair (.int .i64) (.pair (.sl (.int .u8)) .unit)))) (pC1 154 (pP (.pair (.pair (.sl (.sl (.int .u8))) (.pair (.sl (.pair (.int .i64) (.pair (.sl (.int .u8)) .unit))) .unit)) (.pair (.sl (.int .i64)) (.pair (.sl (.int .i64)) .unit))))) fun s d => ⟨[Q_sl_IndexFunc_Put__i_DraftFault_2 s d], [⟨(.int .i64), .sh, F_sl_IndexFunc_Put__i_DraftFault_2 s d⟩], []⟩, [], false, 0⟩
theorem ok_sl_IndexFunc_Put__i_DraftFault_2 : ConOk pg 184 con_sl_IndexFunc_Put__i_DraftFault_2 := ConOk.g2 (Enters.of (by kernel_rfl)) ct_sl_IndexFunc_Put__i_DraftFault_2

def F_sl_ContainsFunc_Put__i_DraftFault_2 (s : List ((Int) × (List (Int)) × Unit)) (d : ((List (List (Int))) × (List ((Int) × (List (Int)) × Unit)) × Unit) × (List (Int)) × (List (Int)) × Unit) : Bool := s.any (fun p => !d.2.2.1.contains p.1)
def Q_sl_ContainsFunc_Put__i_DraftFault_2 (s : List ((Int) × (List (Int)) × Unit)) (d : ((List (List (Int))) × (List ((Int) × (List (Int)) × Unit)) × Unit) × (List (Int)) × (List (Int)) × Unit) : Prop := True
def O_sl_ContainsFunc_Put__i_DraftFault_2 : Opt := ⟨fun i => false, fun i => [], fun i => .done, fun i => none, fun i => false, fun i => [], fun i => false, fun i => none⟩
def τ_sl_ContainsFunc_Put__i_DraftFault_2 : Env := Env.of [(3, (.int .i64)), (4, .bool), (36, (.sl (.pair (.int .i64) (.pair (.sl (.int .u8)) .unit))))] [] []

theorem ct_sl_ContainsFunc_Put__i_DraftFault_2 (s : List ((Int) × (List (Int)) × Unit)) (d : ((List (List (Int))) × (List ((Int) × (List (Int)) × Unit)) × Unit) × (List (Int)) × (List (Int)) × Unit) : Ct pg 153 [.dat (.sl (.pair (.int .i64) (.pair (.sl (.int .u8)) .unit))) s, .clo 154 [.dptr (.pair (.pair (.sl (.sl (.int .u8))) (.pair (.sl (.pair (.int .i64) (.pair (.sl (.int .u8)) .unit))) .unit)) (.pair (.sl (.int .i64)) (.pair (.sl (.int .i64)) .unit))) d]] ⟨[Q_sl_ContainsFunc_Put__i_DraftFault_2 s d], [⟨.bool, .sh, F_sl_ContainsFunc_Put__i_DraftFault_2 s d⟩], []⟩ := by
  refine ct_claim (O := O_sl_ContainsFunc_Put__i_DraftFault_2) (τ := τ_sl_ContainsFunc_Put__i_DraftFault_2) (EnvOk.of (by kernel_rfl) (by kernel_rfl)) (GOk.of (.cons (ConOk.or ok_sl_IndexFunc_Put__i_Disk_putFor_1 ok_sl_IndexFunc_Put__i_DraftFault_2) (.cons ok_i_DraftFault_2 .nil) : AllOk pg [(184, (Con.or con_sl_IndexFunc_Put__i_Disk_putFor_1 con_sl_IndexFunc_Put__i_DraftFault_2)), (154, con_i_DraftFault_2)])) mixed (Enters.of (by kernel_rfl)) (fn := Go.Proofs.Tryz.f153) (by kernel_rfl) rfl (by kernel_rfl) ?_
  intro hp hw
  have hq : Q_sl_ContainsFunc_Put__i_DraftFault_2 s d := hp _ (List.mem_singleton.2 rfl)
  clear hp
  change claim Lg.std Alg.std τ_sl_ContainsFunc_Put__i_DraftFault_2 (Gam.of [(184, Con.or (⟨true, g2 (pD (.sl (.pair (.int .i64) (.pair (.sl (.int .u8)) .unit)))) (pC1 185 (pP (.int .i64))) fun s n => ⟨[Q_sl_IndexFunc_Put__i_Disk_putFor_1 s n], [⟨(.int .i64), .sh, F_sl_IndexFunc_Put__i_Disk_putFor_1 s n⟩], []⟩, [], false, 0⟩ : Con) (⟨true, g2 (pD (.sl (.pair (.int .i64) (.pair (.sl (.int .u8)) .unit)))) (pC1 154 (pP (.pair (.pair (.sl (.sl (.int .u8))) (.pair (.sl (.pair (.int .i64) (.pair (.sl (.int .u8)) .unit))) .unit)) (.pair (.sl (.int .i64)) (.pair (.sl (.int .i64)) .unit))))) fun s d => ⟨[Q_sl_IndexFunc_Put__i_DraftFault_2 s d], [⟨(.int .i64), .sh, F_sl_IndexFunc_Put__i_DraftFault_2 s d⟩], []⟩, [], false, 0⟩)), (154, ⟨true, g2 (pD (.pair (.int .i64) (.pair (.sl (.int .u8)) .unit))) (pP (.pair (.pair (.sl (.sl (.int .u8))) (.pair (.sl (.pair (.int .i64) (.pair (.sl (.int .u8)) .unit))) .unit)) (.pair (.sl (.int .i64)) (.pair (.sl (.int .i64)) .unit)))) fun p d => ⟨[Q_i_DraftFault_2 p d], [⟨.bool, .sh, F_i_DraftFault_2 p d⟩], []⟩, [], false, 0⟩)]) O_sl_ContainsFunc_Put__i_DraftFault_2 Go.Proofs.Tryz.f153 [.dat (.sl (.pair (.int .i64) (.pair (.sl (.int .u8)) .unit))) s, .clo 154 [.dptr (.pair (.pair (.sl (.sl (.int .u8))) (.pair (.sl (.pair (.int .i64) (.pair (.sl (.int .u8)) .unit))) .unit)) (.pair (.sl (.int .i64)) (.pair (.sl (.int .i64)) .unit))) d]] ⟨[Q_sl_ContainsFunc_Put__i_DraftFault_2 s d], [⟨.bool, .sh, F_sl_ContainsFunc_Put__i_DraftFault_2 s d⟩], []⟩
  generalize hg_F_sl_IndexFunc_Put__i_Disk_putFor_1 : F_sl_IndexFunc_Put__i_Disk_putFor_1 = g_F_sl_IndexFunc_Put__i_Disk_putFor_1
  generalize hg_Q_sl_IndexFunc_Put__i_Disk_putFor_1 : Q_sl_IndexFunc_Put__i_Disk_putFor_1 = g_Q_sl_IndexFunc_Put__i_Disk_putFor_1
  generalize hg_F_i_DraftFault_2 : F_i_DraftFault_2 = g_F_i_DraftFault_2
  generalize hg_Q_i_DraftFault_2 : Q_i_DraftFault_2 = g_Q_i_DraftFault_2
  generalize hg_F_sl_IndexFunc_Put__i_DraftFault_2 : F_sl_IndexFunc_Put__i_DraftFault_2 = g_F_sl_IndexFunc_Put__i_DraftFault_2
  generalize hg_Q_sl_IndexFunc_Put__i_DraftFault_2 : Q_sl_IndexFunc_Put__i_DraftFault_2 = g_Q_sl_IndexFunc_Put__i_DraftFault_2
  generalize hR0 : F_sl_ContainsFunc_Put__i_DraftFault_2 s d = R0
  generalize Q_sl_ContainsFunc_Put__i_DraftFault_2 s d = Q0
  generalize hL : Lg.std = L
  generalize hA : Alg.std = A
  cbv
  subst hL hA
  try dsimp only [Ty.den]
  have hf := findG_any (fun p => !d.2.2.1.contains p.1) s 0 (by omega)
  subst hR0 hg_F_sl_IndexFunc_Put__i_Disk_putFor_1 hg_Q_sl_IndexFunc_Put__i_Disk_putFor_1 hg_F_i_DraftFault_2 hg_Q_i_DraftFault_2 hg_F_sl_IndexFunc_Put__i_DraftFault_2 hg_Q_sl_IndexFunc_Put__i_DraftFault_2
  simp only [Q_sl_ContainsFunc_Put__i_DraftFault_2] at hq
  simp only [Lg.std, Alg.std, List.drop_zero, List.take_length, F_sl_IndexFunc_Put__i_Disk_putFor_1, F_i_DraftFault_2, F_sl_IndexFunc_Put__i_DraftFault_2, Q_sl_IndexFunc_Put__i_Disk_putFor_1, Q_i_DraftFault_2, Q_sl_IndexFunc_Put__i_DraftFault_2, F_sl_ContainsFunc_Put__i_DraftFault_2]
  all_goals grind
def con_sl_ContainsFunc_Put__i_DraftFault_2 : Con := ⟨true, g2 (pD (.sl (.pair (.int .i64) (.pair (.sl (.int .u8)) .unit)))) (pC1 154 (pP (.pair (.pair (.sl (.sl (.int .u8))) (.pair (.sl (.pair (.int .i64) (.pair (.sl (.int .u8)) .unit))) .unit)) (.pair (.sl (.int .i64)) (.pair (.sl (.int .i64)) .unit))))) fun s d => ⟨[Q_sl_ContainsFunc_Put__i_DraftFault_2 s d], [⟨.bool, .sh, F_sl_ContainsFunc_Put__i_DraftFault_2 s d⟩], []⟩, [], false, 0⟩
theorem ok_sl_ContainsFunc_Put__i_DraftFault_2 : ConOk pg 153 con_sl_ContainsFunc_Put__i_DraftFault_2 := ConOk.g2 (Enters.of (by kernel_rfl)) ct_sl_ContainsFunc_Put__i_DraftFault_2

def F_i_DraftFault (d : ((List (List (Int))) × (List ((Int) × (List (Int)) × Unit)) × Unit) × (List (Int)) × (List (Int)) × Unit) : Int := draftFault d
def Q_i_DraftFault (d : ((List (List (Int))) × (List ((Int) × (List (Int)) × Unit)) × Unit) × (List (Int)) × (List (Int)) × Unit) : Prop := d.2.1.length ≤ 1048576 ∧ d.2.2.1.length ≤ 1048576
def O_i_DraftFault : Opt := ⟨fun i => false, fun i => (match decide (i = 7) with | true => [false, true, false, false, false, false, false, false, false, false, false, false, false, false, false, false, false, false, false, false, false, false, false, false, false, false, false, true, true, true, false, false, false, false, false, false, false, false, false, false, false, false, false, false, false, false, false, false, false, false, false, false] | false => []), fun i => (match decide (i = 6) with | true => (.take 0 (.take 3 (.take 7 (.alt 1 (.alt 2 (.alt 4 (.alt 5 (.take 6 .done) .no) .no) (.alt 4 (.alt 2 (.alt 5 (.take 6 .done) .no) .no) .no)) (.alt 4 (.alt 1 (.alt 2 (.alt 5 (.take 6 .done) .no) .no) .no) .no))))) | false => .done), fun i => (match decide (i = 6) with | true => some [false, true, false, false, false, false, false, false, false, false, false, false, false, false, false, false, false, false, false, false, false, false, false, false, false, false, false, true, true, true, false, false, false, false, false, false, false, false, false, false, false, false, false, false, false, false, false, false, false, false, false, false] | false => none), fun i => false, fun i => [], fun i => false, fun i => none⟩
def τ_i_DraftFault : Env := Env.of [(2, (.int .i64)), (3, (.int .i64)), (4, .bool), (36, (.sl (.pair (.int .i64) (.pair (.sl (.int .u8)) .unit)))), (38, (.pair (.sl (.sl (.int .u8))) (.pair (.sl (.pair (.int .i64) (.pair (.sl (.int .u8)) .unit))) .unit))), (62, (.sl (.int .i64))), (74, (.pair (.pair (.sl (.sl (.int .u8))) (.pair (.sl (.pair (.int .i64) (.pair (.sl (.int .u8)) .unit))) .unit)) (.pair (.sl (.int .i64)) (.pair (.sl (.int .i64)) .unit))))] [(161, (.pair (.pair (.sl (.sl (.int .u8))) (.pair (.sl (.pair (.int .i64) (.pair (.sl (.int .u8)) .unit))) .unit)) (.pair (.sl (.int .i64)) (.pair (.sl (.int .i64)) .unit)))), (200, (.pair (.pair (.sl (.sl (.int .u8))) (.pair (.sl (.pair (.int .i64) (.pair (.sl (.int .u8)) .unit))) .unit)) (.pair (.sl (.int .i64)) (.pair (.sl (.int .i64)) .unit))))] []

theorem ct_i_DraftFault (d : ((List (List (Int))) × (List ((Int) × (List (Int)) × Unit)) × Unit) × (List (Int)) × (List (Int)) × Unit) : Ct pg 86 [.dat (.pair (.pair (.sl (.sl (.int .u8))) (.pair (.sl (.pair (.int .i64) (.pair (.sl (.int .u8)) .unit))) .unit)) (.pair (.sl (.int .i64)) (.pair (.sl (.int .i64)) .unit))) d] ⟨[Q_i_DraftFault d], [⟨(.int .i64), .sh, F_i_DraftFault d⟩], []⟩ := by
  refine ct_claim (O := O_i_DraftFault) (τ := τ_i_DraftFault) (EnvOk.of (by kernel_rfl) (by kernel_rfl)) (GOk.of (.cons ok_i_isIncreasing (.cons ok_sl_Clone_int64 (.cons ok_i_Disk_has (.cons ok_i_DiskFault (.cons ok_i_DraftFault_1 (.cons ok_i_DraftFault_2 (.cons ok_sl_ContainsFunc_int64__i_DraftFault_1 (.cons ok_sl_ContainsFunc_Put__i_DraftFault_2 .nil))))))) : AllOk pg [(148, con_i_isIncreasing), (149, con_sl_Clone_int64), (114, con_i_Disk_has), (58, con_i_DiskFault), (151, con_i_DraftFault_1), (154, con_i_DraftFault_2), (150, con_sl_ContainsFunc_int64__i_DraftFault_1), (153, con_sl_ContainsFunc_Put__i_DraftFault_2)])) mixed (Enters.of (by kernel_rfl)) (fn := Go.Proofs.Tryz.f86) (by kernel_rfl) rfl (by kernel_rfl) ?_
  intro hp hw
  have hq : Q_i_DraftFault d := hp _ (List.mem_singleton.2 rfl)
  clear hp
  change claim Lg.std Alg.std τ_i_DraftFault (Gam.of [(148, ⟨true, g1 (pD (.sl (.int .i64))) fun a => ⟨[Q_i_isIncreasing a], [⟨.bool, .sh, F_i_isIncreasing a⟩], []⟩, [], false, 0⟩), (149, ⟨true, g1 (pD (.sl (.int .i64))) fun s => ⟨[Q_sl_Clone_int64 s], [⟨(.sl (.int .i64)), (.ow .sh), F_sl_Clone_int64 s⟩], []⟩, [], false, 0⟩), (114, ⟨true, g2 (pD (.pair (.sl (.sl (.int .u8))) (.pair (.sl (.pair (.int .i64) (.pair (.sl (.int .u8)) .unit))) .unit))) (pD (.int .i64)) fun d n => ⟨[Q_i_Disk_has d n], [⟨.bool, .sh, F_i_Disk_has d n⟩], []⟩, [], false, 0⟩), (58, ⟨true, g1 (pD (.pair (.sl (.sl (.int .u8))) (.pair (.sl (.pair (.int .i64) (.pair (.sl (.int .u8)) .unit))) .unit))) fun d => ⟨[Q_i_DiskFault d], [⟨(.int .i64), .sh, F_i_DiskFault d⟩], []⟩, [], false, 0⟩), (151, ⟨true, g2 (pD (.int .i64)) (pP (.pair (.pair (.sl (.sl (.int .u8))) (.pair (.sl (.pair (.int .i64) (.pair (.sl (.int .u8)) .unit))) .unit)) (.pair (.sl (.int .i64)) (.pair (.sl (.int .i64)) .unit)))) fun n d => ⟨[Q_i_DraftFault_1 n d], [⟨.bool, .sh, F_i_DraftFault_1 n d⟩], []⟩, [], false, 0⟩), (154, ⟨true, g2 (pD (.pair (.int .i64) (.pair (.sl (.int .u8)) .unit))) (pP (.pair (.pair (.sl (.sl (.int .u8))) (.pair (.sl (.pair (.int .i64) (.pair (.sl (.int .u8)) .unit))) .unit)) (.pair (.sl (.int .i64)) (.pair (.sl (.int .i64)) .unit)))) fun p d => ⟨[Q_i_DraftFault_2 p d], [⟨.bool, .sh, F_i_DraftFault_2 p d⟩], []⟩, [], false, 0⟩), (150, ⟨true, g2 (pD (.sl (.int .i64))) (pC1 151 (pP (.pair (.pair (.sl (.sl (.int .u8))) (.pair (.sl (.pair (.int .i64) (.pair (.sl (.int .u8)) .unit))) .unit)) (.pair (.sl (.int .i64)) (.pair (.sl (.int .i64)) .unit))))) fun s d => ⟨[Q_sl_ContainsFunc_int64__i_DraftFault_1 s d], [⟨.bool, .sh, F_sl_ContainsFunc_int64__i_DraftFault_1 s d⟩], []⟩, [], false, 0⟩), (153, ⟨true, g2 (pD (.sl (.pair (.int .i64) (.pair (.sl (.int .u8)) .unit)))) (pC1 154 (pP (.pair (.pair (.sl (.sl (.int .u8))) (.pair (.sl (.pair (.int .i64) (.pair (.sl (.int .u8)) .unit))) .unit)) (.pair (.sl (.int .i64)) (.pair (.sl (.int .i64)) .unit))))) fun s d => ⟨[Q_sl_ContainsFunc_Put__i_DraftFault_2 s d], [⟨.bool, .sh, F_sl_ContainsFunc_Put__i_DraftFault_2 s d⟩], []⟩, [], false, 0⟩)]) O_i_DraftFault Go.Proofs.Tryz.f86 [.dat (.pair (.pair (.sl (.sl (.int .u8))) (.pair (.sl (.pair (.int .i64) (.pair (.sl (.int .u8)) .unit))) .unit)) (.pair (.sl (.int .i64)) (.pair (.sl (.int .i64)) .unit))) d] ⟨[Q_i_DraftFault d], [⟨(.int .i64), .sh, F_i_DraftFault d⟩], []⟩
  generalize hg_F_i_isIncreasing : F_i_isIncreasing = g_F_i_isIncreasing
  generalize hg_Q_i_isIncreasing : Q_i_isIncreasing = g_Q_i_isIncreasing
  generalize hg_F_sl_Clone_int64 : F_sl_Clone_int64 = g_F_sl_Clone_int64
  generalize hg_Q_sl_Clone_int64 : Q_sl_Clone_int64 = g_Q_sl_Clone_int64
  generalize hg_F_i_Disk_has : F_i_Disk_has = g_F_i_Disk_has
  generalize hg_Q_i_Disk_has : Q_i_Disk_has = g_Q_i_Disk_has
  generalize hg_F_i_DiskFault : F_i_DiskFault = g_F_i_DiskFault
  generalize hg_Q_i_DiskFault : Q_i_DiskFault = g_Q_i_DiskFault
  generalize hg_F_i_DraftFault_1 : F_i_DraftFault_1 = g_F_i_DraftFault_1
  generalize hg_Q_i_DraftFault_1 : Q_i_DraftFault_1 = g_Q_i_DraftFault_1
  generalize hg_F_i_DraftFault_2 : F_i_DraftFault_2 = g_F_i_DraftFault_2
  generalize hg_Q_i_DraftFault_2 : Q_i_DraftFault_2 = g_Q_i_DraftFault_2
  generalize hg_F_sl_ContainsFunc_int64__i_DraftFault_1 : F_sl_ContainsFunc_int64__i_DraftFault_1 = g_F_sl_ContainsFunc_int64__i_DraftFault_1
  generalize hg_Q_sl_ContainsFunc_int64__i_DraftFault_1 : Q_sl_ContainsFunc_int64__i_DraftFault_1 = g_Q_sl_ContainsFunc_int64__i_DraftFault_1
  generalize hg_F_sl_ContainsFunc_Put__i_DraftFault_2 : F_sl_ContainsFunc_Put__i_DraftFault_2 = g_F_sl_ContainsFunc_Put__i_DraftFault_2
  generalize hg_Q_sl_ContainsFunc_Put__i_DraftFault_2 : Q_sl_ContainsFunc_Put__i_DraftFault_2 = g_Q_sl_ContainsFunc_Put__i_DraftFault_2
  generalize hR0 : F_i_DraftFault d = R0
  generalize Q_i_DraftFault d = Q0
  generalize hL : Lg.std = L
  generalize hA : Alg.std = A
  cbv
  subst hL hA
  try dsimp only [Ty.den]
  obtain ⟨⟨d_0_0, d_0_1, ⟨⟩⟩, d_1, d_2, ⟨⟩⟩ := d
  simp only [Q_i_DraftFault] at hq
  have hl0 := hw.1.1.1.1
  repeat' (first | intro _ | apply And.intro)
  all_goals first | trivial | ((fail_if_success (refine lp_v (V := Unit) (fun _ => ⟨[], []⟩) (fun _ => True) (fun _ => 0) () ?_ ?_ ?_)); subst hR0 hg_F_i_isIncreasing hg_Q_i_isIncreasing hg_F_sl_Clone_int64 hg_Q_sl_Clone_int64 hg_F_i_Disk_has hg_Q_i_Disk_has hg_F_i_DiskFault hg_Q_i_DiskFault hg_F_i_DraftFault_1 hg_Q_i_DraftFault_1 hg_F_i_DraftFault_2 hg_Q_i_DraftFault_2 hg_F_sl_ContainsFunc_int64__i_DraftFault_1 hg_Q_sl_ContainsFunc_int64__i_DraftFault_1 hg_F_sl_ContainsFunc_Put__i_DraftFault_2 hg_Q_sl_ContainsFunc_Put__i_DraftFault_2; (try simp only [Alg.std, F_i_isIncreasing, F_sl_Clone_int64, F_i_Disk_has, F_i_DiskFault, F_i_DraftFault_1, F_i_DraftFault_2, F_sl_ContainsFunc_int64__i_DraftFault_1, F_sl_ContainsFunc_Put__i_DraftFault_2, Q_i_isIncreasing, Q_sl_Clone_int64, Q_i_Disk_has, Q_i_DiskFault, Q_i_DraftFault_1, Q_i_DraftFault_2, Q_sl_ContainsFunc_int64__i_DraftFault_1, Q_sl_ContainsFunc_Put__i_DraftFault_2, F_i_DraftFault] at *); all_goals grind [draftFault, draftRest]) | skip
  refine lp_v (V := (Int) × (Int) × (Nat) × (List Int)) (fun ((i, M, N, xs) : (Int) × (Int) × (Nat) × (List Int)) => ⟨[.junk, .bptr 0 0, .junk, .junk, .junk, .junk, .junk, .junk, .junk, .junk, .junk, .junk, .junk, .junk, .junk, .junk, .junk, .junk, .junk, .junk, .junk, .junk, .junk, .junk, .junk, .junk, .junk, .ref (.int .i64) 1 0 [] 0 N, .dat (.int .i64) M, .dat (.int .i64) i, .junk, .junk, .junk, .junk, .junk, .junk, .junk, .junk, .junk, .junk, .junk, .junk, .junk, .junk, .junk, .junk, .junk, .junk, .junk, .junk, .junk, .junk], [some (.box [.dat (.sl (.sl (.int .u8))) d_0_0, .dat (.sl (.pair (.int .i64) (.pair (.sl (.int .u8)) .unit))) d_0_1, .dat (.sl (.int .i64)) d_1, .dat (.sl (.int .i64)) d_2]), some (.row 0 (.int .i64) .sh xs)]⟩) (fun ((i, M, N, xs) : (Int) × (Int) × (Nat) × (List Int)) => N = xs.length ∧ M = xs.length ∧ xs = d_1 ++ d_2 ∧ 0 ≤ i ∧ i ≤ xs.length ∧ xs.any (offPage d_0_0.length) = (xs.drop i.toNat).any (offPage d_0_0.length)) (fun ((i, M, N, xs) : (Int) × (Int) × (Nat) × (List Int)) => xs.length - i.toNat) (0, _, _, _) rfl ?_ ?_
  · subst hR0 hg_F_i_isIncreasing hg_Q_i_isIncreasing hg_F_sl_Clone_int64 hg_Q_sl_Clone_int64 hg_F_i_Disk_has hg_Q_i_Disk_has hg_F_i_DiskFault hg_Q_i_DiskFault hg_F_i_DraftFault_1 hg_Q_i_DraftFault_1 hg_F_i_DraftFault_2 hg_Q_i_DraftFault_2 hg_F_sl_ContainsFunc_int64__i_DraftFault_1 hg_Q_sl_ContainsFunc_int64__i_DraftFault_1 hg_F_sl_ContainsFunc_Put__i_DraftFault_2 hg_Q_sl_ContainsFunc_Put__i_DraftFault_2
    simp [Alg.std, F_i_isIncreasing, F_sl_Clone_int64, F_i_Disk_has, F_i_DiskFault, F_i_DraftFault_1, F_i_DraftFault_2, F_sl_ContainsFunc_int64__i_DraftFault_1, F_sl_ContainsFunc_Put__i_DraftFault_2, Q_i_isIncreasing, Q_sl_Clone_int64, Q_i_Disk_has, Q_i_DiskFault, Q_i_DraftFault_1, Q_i_DraftFault_2, Q_sl_ContainsFunc_int64__i_DraftFault_1, Q_sl_ContainsFunc_Put__i_DraftFault_2, F_i_DraftFault]
    all_goals omega
  rintro ⟨i, M, N, xs⟩ hf I hI
  replace hf : N = xs.length ∧ M = xs.length ∧ xs = d_1 ++ d_2 ∧ 0 ≤ i ∧ i ≤ xs.length ∧ xs.any (offPage d_0_0.length) = (xs.drop i.toNat).any (offPage d_0_0.length) := hf
  generalize hL : Lg.std = L
  generalize hA : Alg.std = A
  cbv
  subst hL hA
  try dsimp only [Ty.den]
  subst hI
  obtain ⟨h1, h2, h3, h4, h5, h6⟩ := hf
  have hla : xs.length = d_1.length + d_2.length := by rw [h3]; simp
  have haa : xs.any (offPage d_0_0.length) = (d_1.any (offPage d_0_0.length) || d_2.any (offPage d_0_0.length)) := by rw [h3]; simp
  have hsu : (i + 1).toNat = i.toNat + 1 := by omega
  have hdc := fun (h : i.toNat < xs.length) => drop_cons xs 0 i.toNat h
  have he := fun (h : xs.length ≤ i.toNat) => drop_nil xs i.toNat h
  repeat' (first | intro _ | apply And.intro)
  all_goals first | (with_reducible exact True.intro) | ((fail_if_success (refine lp_v (V := Unit) (fun _ => ⟨[], []⟩) (fun _ => True) (fun _ => 0) () ?_ ?_ ?_)); (try simp only [Lg.std, Alg.std, List.drop_zero, List.take_length] at *); (try refine ⟨(_, _, _, _), rfl, ?_, ?_⟩); (all_goals (subst hR0 hg_F_i_isIncreasing hg_Q_i_isIncreasing hg_F_sl_Clone_int64 hg_Q_sl_Clone_int64 hg_F_i_Disk_has hg_Q_i_Disk_has hg_F_i_DiskFault hg_Q_i_DiskFault hg_F_i_DraftFault_1 hg_Q_i_DraftFault_1 hg_F_i_DraftFault_2 hg_Q_i_DraftFault_2 hg_F_sl_ContainsFunc_int64__i_DraftFault_1 hg_Q_sl_ContainsFunc_int64__i_DraftFault_1 hg_F_sl_ContainsFunc_Put__i_DraftFault_2 hg_Q_sl_ContainsFunc_Put__i_DraftFault_2; (try simp only [Lg.std, Alg.std, List.drop_zero, List.take_length, F_i_isIncreasing, F_sl_Clone_int64, F_i_Disk_has, F_i_DiskFault, F_i_DraftFault_1, F_i_DraftFault_2, F_sl_ContainsFunc_int64__i_DraftFault_1, F_sl_ContainsFunc_Put__i_DraftFault_2, Q_i_isIncreasing, Q_sl_Clone_int64, Q_i_Disk_has, Q_i_DiskFault, Q_i_DraftFault_1, Q_i_DraftFault_2, Q_sl_ContainsFunc_int64__i_DraftFault_1, Q_sl_ContainsFunc_Put__i_DraftFault_2, F_i_DraftFault] at *); first | done | (grind [draftFault, draftRest, offPage])))) | skip
def con_i_DraftFault : Con := ⟨true, g1 (pD (.pair (.pair (.sl (.sl (.int .u8))) (.pair (.sl (.pair (.int .i64) (.pair (.sl (.int .u8)) .unit))) .unit)) (.pair (.sl (.int .i64)) (.pair (.sl (.int .i64)) .unit)))) fun d => ⟨[Q_i_DraftFault d], [⟨(.int .i64), .sh, F_i_DraftFault d⟩], []⟩, [], false, 0⟩
theorem ok_i_DraftFault : ConOk pg 86 con_i_DraftFault := ConOk.g1 (Enters.of (by kernel_rfl)) ct_i_DraftFault

def F_s_l16Fault (d : ((List (List (Int))) × (List ((Int) × (List (Int)) × Unit)) × Unit) × (List (Int)) × (List (Int)) × Unit) : Int := draftRest d
def Q_s_l16Fault (d : ((List (List (Int))) × (List ((Int) × (List (Int)) × Unit)) × Unit) × (List (Int)) × (List (Int)) × Unit) : Prop := True
def O_s_l16Fault : Opt := ⟨fun i => (match decide (i = 22) with | true => true | false => (match decide (i = 17) with | true => true | false => false)), fun i => (match decide (i = 20) with | true => [true, false, false, false, false, false, false, true, false, false, false, false, false, false, false, false, false, false, false, false, false, false, false, false, false, false, false, false, false, false, false, false, false, false, false, false, false, false, false, false, false, false, false, false, false, false, false, false, false, false, false, false, false, false, false, false, false, false, false, false, false, false, false, false, false, false, false, false, false, false, false, false, false, false, false, false, false, false, false, false, false, false, false, false, false, false, false, false, false, false, false, false, false, false, false, false, false, false, false, false, false, false, false, false, false, false, false, false, false, false, false, false, false] | false => (match decide (i = 15) with | true => [true, false, false, false, false, false, true, false, false, false, false, false, false, false, false, false, false, false, false, false, false, false, false, false, false, false, false, false, false, false, false, false, false, false, false, false, false, false, false, false, false, false, false, false, false, false, false, false, false, false, false, false, false, false, false, false, false, false, false, false, false, false, false, false, false, false, false, false, false, false, false, false, false, false, false, false, false, false, false, false, false, false, false, false, false, false, false, false, false, false, false, false, false, false, false, false, false, false, false, false, false, false, false, false, false, false, false, false, false, false, false, false, false] | false => (match decide (i = 10) with | true => [true, false, false, true, false, true, false, false, false, false, false, false, false, false, false, false, false, false, false, false, false, false, false, false, false, false, false, false, false, false, false, false, false, false, false, false, false, false, false, false, false, false, false, false, false, false, false, false, false, false, false, false, false, false, false, false, false, false, false, false, false, false, false, false, false, false, false, false, false, false, false, false, false, false, false, false, false, false, false, false, false, false, false, false, false, false, false, false, false, false, false, false, false, false, false, false, false, false, false, false, false, false, false, false, false, false, false, false, false, false, false, false, false] | false => (match decide (i = 5) with | true => [true, false, false, true, true, false, false, false, false, false, false, false, false, false, false, false, false, false, false, false, false, false, false, false, false, false, false, false, false, false, false, false, false, false, false, false, false, false, false, false, false, false, false, false, false, false, false, false, false, false, false, false, false, false, false, false, false, false, false, false, false, false, false, false, false, false, false, false, false, false, false, false, false, false, false, false, false, false, false, false, false, false, false, false, false, false, false, false, false, false, false, false, false, false, false, false, false, false, false, false, false, false, false, false, false, false, false, false, false, false, false, false, false] | false => [])))), fun i => .done, fun i => none, fun i => false, fun i => [], fun i => false, fun i => none⟩
def τ_s_l16Fault : Env := Env.of [(2, (.int .i64)), (3, (.int .i64)), (4, .bool), (22, (.sl (.sl (.int .u8)))), (36, (.sl (.pair (.int .i64) (.pair (.sl (.int .u8)) .unit)))), (38, (.pair (.sl (.sl (.int .u8))) (.pair (.sl (.pair (.int .i64) (.pair (.sl (.int .u8)) .unit))) .unit))), (62, (.sl (.int .i64))), (74, (.pair (.pair (.sl (.sl (.int .u8))) (.pair (.sl (.pair (.int .i64) (.pair (.sl (.int .u8)) .unit))) .unit)) (.pair (.sl (.int .i64)) (.pair (.sl (.int .i64)) .unit)))), (156, (.pair (.int .i64) (.pair (.sl (.int .u8)) .unit)))] [(129, (.pair (.pair (.sl (.sl (.int .u8))) (.pair (.sl (.pair (.int .i64) (.pair (.sl (.int .u8)) .unit))) .unit)) (.pair (.sl (.int .i64)) (.pair (.sl (.int .i64)) .unit))))] []

theorem ct_s_l16Fault (d : ((List (List (Int))) × (List ((Int) × (List (Int)) × Unit)) × Unit) × (List (Int)) × (List (Int)) × Unit) : Ct pg 142 [.dptr (.pair (.pair (.sl (.sl (.int .u8))) (.pair (.sl (.pair (.int .i64) (.pair (.sl (.int .u8)) .unit))) .unit)) (.pair (.sl (.int .i64)) (.pair (.sl (.int .i64)) .unit))) d] ⟨[Q_s_l16Fault d], [⟨(.int .i64), .sh, F_s_l16Fault d⟩], []⟩ := by
  refine ct_claim (O := O_s_l16Fault) (τ := τ_s_l16Fault) (EnvOk.of (by kernel_rfl) (by kernel_rfl)) (GOk.of (.cons ok_s_l1In (.cons ok_s_l1Rise (.cons ok_s_l1Has .nil)) : AllOk pg [(100, con_s_l1In), (197, con_s_l1Rise), (198, con_s_l1Has)])) mixed (Enters.of (by kernel_rfl)) (fn := Go.Proofs.Tryz.f142) (by kernel_rfl) rfl (by kernel_rfl) ?_
  intro hp hw
  have hq : Q_s_l16Fault d := hp _ (List.mem_singleton.2 rfl)
  clear hp
  change claim Lg.std Alg.std τ_s_l16Fault (Gam.of [(100, ⟨true, g3 (pD (.int .i64)) (pD (.int .i64)) (pD (.int .i64)) fun n lo hi => ⟨[Q_s_l1In n lo hi], [⟨.bool, .sh, F_s_l1In n lo hi⟩], []⟩, [], false, 0⟩), (197, ⟨true, g1 (pD (.sl (.int .i64))) fun a => ⟨[Q_s_l1Rise a], [⟨.bool, .sh, F_s_l1Rise a⟩], []⟩, [], false, 0⟩), (198, ⟨true, g2 (pD (.sl (.int .i64))) (pD (.int .i64)) fun a n => ⟨[Q_s_l1Has a n], [⟨.bool, .sh, F_s_l1Has a n⟩], []⟩, [], false, 0⟩)]) O_s_l16Fault Go.Proofs.Tryz.f142 [.dptr (.pair (.pair (.sl (.sl (.int .u8))) (.pair (.sl (.pair (.int .i64) (.pair (.sl (.int .u8)) .unit))) .unit)) (.pair (.sl (.int .i64)) (.pair (.sl (.int .i64)) .unit))) d] ⟨[Q_s_l16Fault d], [⟨(.int .i64), .sh, F_s_l16Fault d⟩], []⟩
  generalize hg_F_s_l1In : F_s_l1In = g_F_s_l1In
  generalize hg_Q_s_l1In : Q_s_l1In = g_Q_s_l1In
  generalize hg_F_s_l1Rise : F_s_l1Rise = g_F_s_l1Rise
  generalize hg_Q_s_l1Rise : Q_s_l1Rise = g_Q_s_l1Rise
  generalize hg_F_s_l1Has : F_s_l1Has = g_F_s_l1Has
  generalize hg_Q_s_l1Has : Q_s_l1Has = g_Q_s_l1Has
  generalize hR0 : F_s_l16Fault d = R0
  generalize Q_s_l16Fault d = Q0
  generalize hL : Lg.std = L
  generalize hA : Alg.std = A
  cbv
  subst hL hA
  try dsimp only [Ty.den]
  obtain ⟨⟨d_0_0, d_0_1, ⟨⟩⟩, d_1, d_2, ⟨⟩⟩ := d
  have hl0 := hw.1.1.1.1
  repeat' (first | intro _ | apply And.intro)
  all_goals first | trivial | ((fail_if_success (refine lp_v (V := Unit) (fun _ => ⟨[], []⟩) (fun _ => True) (fun _ => 0) () ?_ ?_ ?_)); subst hR0 hg_F_s_l1In hg_Q_s_l1In hg_F_s_l1Rise hg_Q_s_l1Rise hg_F_s_l1Has hg_Q_s_l1Has; (try simp only [Alg.std, F_s_l1In, F_s_l1Rise, F_s_l1Has, Q_s_l1In, Q_s_l1Rise, Q_s_l1Has, F_s_l16Fault] at *); all_goals grind [draftRest]) | skip
  refine lp_v (V := (Int) × (Int)) (fun ((i, M) : (Int) × (Int)) => ⟨[.dptr (.pair (.pair (.sl (.sl (.int .u8))) (.pair (.sl (.pair (.int .i64) (.pair (.sl (.int .u8)) .unit))) .unit)) (.pair (.sl (.int .i64)) (.pair (.sl (.int .i64)) .unit))) ((d_0_0, d_0_1, PUnit.unit), d_1, d_2, PUnit.unit), .junk, .junk, .dat (.int .i64) M, .dat (.int .i64) i, .junk, .junk, .junk, .junk, .junk, .junk, .junk, .junk, .junk, .junk, .junk, .junk, .junk, .junk, .junk, .junk, .junk, .junk, .junk, .junk, .junk, .junk, .junk, .junk, .junk, .junk, .junk, .junk, .junk, .junk, .junk, .junk, .junk, .junk, .junk, .junk, .junk, .junk, .junk, .junk, .junk, .junk, .junk, .junk, .junk, .junk, .junk, .junk, .junk, .junk, .junk, .junk, .junk, .junk, .junk, .junk, .junk, .junk, .junk, .junk, .junk, .junk, .junk, .junk, .junk, .junk, .junk, .junk, .junk, .junk, .junk, .junk, .junk, .junk, .junk, .junk, .junk, .junk, .junk, .junk, .junk, .junk, .junk, .junk, .junk, .junk, .junk, .junk, .junk, .junk, .junk, .junk, .junk, .junk, .junk, .junk, .junk, .junk, .junk, .junk, .junk, .junk, .junk, .junk, .junk, .junk, .junk, .junk], []⟩) (fun ((i, M) : (Int) × (Int)) => M = (d_0_0.length : Int) - 1 ∧ 0 ≤ i ∧ i ≤ d_1.length ∧ d_1.any (offPage d_0_0.length) = (d_1.drop i.toNat).any (offPage d_0_0.length)) (fun ((i, M) : (Int) × (Int)) => d_1.length - i.toNat) (0, _) rfl ?_ ?_
  · subst hR0 hg_F_s_l1In hg_Q_s_l1In hg_F_s_l1Rise hg_Q_s_l1Rise hg_F_s_l1Has hg_Q_s_l1Has
    (try simp only [Alg.std, F_s_l1In, F_s_l1Rise, F_s_l1Has, Q_s_l1In, Q_s_l1Rise, Q_s_l1Has, F_s_l16Fault] at *)
    all_goals (try simp)
    all_goals grind
  rintro ⟨i, M⟩ hf I hI
  replace hf : M = (d_0_0.length : Int) - 1 ∧ 0 ≤ i ∧ i ≤ d_1.length ∧ d_1.any (offPage d_0_0.length) = (d_1.drop i.toNat).any (offPage d_0_0.length) := hf
  generalize hL : Lg.std = L
  generalize hA : Alg.std = A
  cbv
  subst hL hA
  try dsimp only [Ty.den]
  subst hI
  obtain ⟨h1, h2, h3, h4⟩ := hf
  have hl := hw.1.2.1.1
  have hdc := fun (h : i.toNat < d_1.length) => drop_cons d_1 0 i.toNat h
  have he := fun (h : d_1.length ≤ i.toNat) => drop_nil d_1 i.toNat h
  have hsu : (i + 1).toNat = i.toNat + 1 := by omega
  repeat' (first | intro _ | apply And.intro)
  all_goals first | (with_reducible exact True.intro) | ((fail_if_success (refine lp_v (V := Unit) (fun _ => ⟨[], []⟩) (fun _ => True) (fun _ => 0) () ?_ ?_ ?_)); (try simp only [Lg.std, Alg.std, List.drop_zero, List.take_length] at *); (try refine ⟨(_, _), rfl, ?_, ?_⟩); (all_goals (subst hR0 hg_F_s_l1In hg_Q_s_l1In hg_F_s_l1Rise hg_Q_s_l1Rise hg_F_s_l1Has hg_Q_s_l1Has; (try simp only [Lg.std, Alg.std, List.drop_zero, List.take_length, F_s_l1In, F_s_l1Rise, F_s_l1Has, Q_s_l1In, Q_s_l1Rise, Q_s_l1Has, F_s_l16Fault] at *); first | done | (grind [draftRest, offPage])))) | skip
  refine lp_v (V := (Int) × (Int)) (fun ((i, M) : (Int) × (Int)) => ⟨[.dptr (.pair (.pair (.sl (.sl (.int .u8))) (.pair (.sl (.pair (.int .i64) (.pair (.sl (.int .u8)) .unit))) .unit)) (.pair (.sl (.int .i64)) (.pair (.sl (.int .i64)) .unit))) ((d_0_0, d_0_1, PUnit.unit), d_1, d_2, PUnit.unit), .junk, .junk, .dat (.int .i64) M, .junk, .dat (.int .i64) i, .junk, .junk, .junk, .junk, .junk, .junk, .junk, .junk, .junk, .junk, .junk, .junk, .junk, .junk, .junk, .junk, .junk, .junk, .junk, .junk, .junk, .junk, .junk, .junk, .junk, .junk, .junk, .junk, .junk, .junk, .junk, .junk, .junk, .junk, .junk, .junk, .junk, .junk, .junk, .junk, .junk, .junk, .junk, .junk, .junk, .junk, .junk, .junk, .junk, .junk, .junk, .junk, .junk, .junk, .junk, .junk, .junk, .junk, .junk, .junk, .junk, .junk, .junk, .junk, .junk, .junk, .junk, .junk, .junk, .junk, .junk, .junk, .junk, .junk, .junk, .junk, .junk, .junk, .junk, .junk, .junk, .junk, .junk, .junk, .junk, .junk, .junk, .junk, .junk, .junk, .junk, .junk, .junk, .junk, .junk, .junk, .junk, .junk, .junk, .junk, .junk, .junk, .junk, .junk, .junk, .junk, .junk], []⟩) (fun ((i, M) : (Int) × (Int)) => M = (d_0_0.length : Int) - 1 ∧ 0 ≤ i ∧ i ≤ d_2.length ∧ d_2.any (offPage d_0_0.length) = (d_2.drop i.toNat).any (offPage d_0_0.length)) (fun ((i, M) : (Int) × (Int)) => d_2.length - i.toNat) (0, _) rfl ?_ ?_
  · subst hR0 hg_F_s_l1In hg_Q_s_l1In hg_F_s_l1Rise hg_Q_s_l1Rise hg_F_s_l1Has hg_Q_s_l1Has
    (try simp only [Alg.std, F_s_l1In, F_s_l1Rise, F_s_l1Has, Q_s_l1In, Q_s_l1Rise, Q_s_l1Has, F_s_l16Fault] at *)
    all_goals (try simp)
    all_goals grind
  rintro ⟨i, M⟩ hf I hI
  replace hf : M = (d_0_0.length : Int) - 1 ∧ 0 ≤ i ∧ i ≤ d_2.length ∧ d_2.any (offPage d_0_0.length) = (d_2.drop i.toNat).any (offPage d_0_0.length) := hf
  generalize hL : Lg.std = L
  generalize hA : Alg.std = A
  cbv
  subst hL hA
  try dsimp only [Ty.den]
  subst hI
  obtain ⟨h1, h2, h3, h4⟩ := hf
  have hl := hw.1.2.2.1.1
  have hdc := fun (h : i.toNat < d_2.length) => drop_cons d_2 0 i.toNat h
  have he := fun (h : d_2.length ≤ i.toNat) => drop_nil d_2 i.toNat h
  have hsu : (i + 1).toNat = i.toNat + 1 := by omega
  repeat' (first | intro _ | apply And.intro)
  all_goals first | (with_reducible exact True.intro) | ((fail_if_success (refine lp_v (V := Unit) (fun _ => ⟨[], []⟩) (fun _ => True) (fun _ => 0) () ?_ ?_ ?_)); (try simp only [Lg.std, Alg.std, List.drop_zero, List.take_length] at *); (try refine ⟨(_, _), rfl, ?_, ?_⟩); (all_goals (subst hR0 hg_F_s_l1In hg_Q_s_l1In hg_F_s_l1Rise hg_Q_s_l1Rise hg_F_s_l1Has hg_Q_s_l1Has; (try simp only [Lg.std, Alg.std, List.drop_zero, List.take_length, F_s_l1In, F_s_l1Rise, F_s_l1Has, Q_s_l1In, Q_s_l1Rise, Q_s_l1Has, F_s_l16Fault] at *); first | done | (grind [draftRest, offPage])))) | skip
  refine lp_v (V := (Int)) (fun (i : Int) => ⟨[.dptr (.pair (.pair (.sl (.sl (.int .u8))) (.pair (.sl (.pair (.int .i64) (.pair (.sl (.int .u8)) .unit))) .unit)) (.pair (.sl (.int .i64)) (.pair (.sl (.int .i64)) .unit))) ((d_0_0, d_0_1, PUnit.unit), d_1, d_2, PUnit.unit), .junk, .junk, .junk, .junk, .junk, .dat (.int .i64) i, .junk, .junk, .junk, .junk, .junk, .junk, .junk, .junk, .junk, .junk, .junk, .junk, .junk, .junk, .junk, .junk, .junk, .junk, .junk, .junk, .junk, .junk, .junk, .junk, .junk, .junk, .junk, .junk, .junk, .junk, .junk, .junk, .junk, .junk, .junk, .junk, .junk, .junk, .junk, .junk, .junk, .junk, .junk, .junk, .junk, .junk, .junk, .junk, .junk, .junk, .junk, .junk, .junk, .junk, .junk, .junk, .junk, .junk, .junk, .junk, .junk, .junk, .junk, .junk, .junk, .junk, .junk, .junk, .junk, .junk, .junk, .junk, .junk, .junk, .junk, .junk, .junk, .junk, .junk, .junk, .junk, .junk, .junk, .junk, .junk, .junk, .junk, .junk, .junk, .junk, .junk, .junk, .junk, .junk, .junk, .junk, .junk, .junk, .junk, .junk, .junk, .junk, .junk, .junk, .junk, .junk], []⟩) (fun (i : Int) => 0 ≤ i ∧ i ≤ d_2.length ∧ d_2.any (fun n => d_1.contains n) = (d_2.drop i.toNat).any (fun n => d_1.contains n)) (fun (i : Int) => d_2.length - i.toNat) (0) rfl ?_ ?_
  · subst hR0 hg_F_s_l1In hg_Q_s_l1In hg_F_s_l1Rise hg_Q_s_l1Rise hg_F_s_l1Has hg_Q_s_l1Has
    (try simp only [Alg.std, F_s_l1In, F_s_l1Rise, F_s_l1Has, Q_s_l1In, Q_s_l1Rise, Q_s_l1Has, F_s_l16Fault] at *)
    all_goals (try simp)
    all_goals grind
  rintro i hf I hI
  replace hf : 0 ≤ i ∧ i ≤ d_2.length ∧ d_2.any (fun n => d_1.contains n) = (d_2.drop i.toNat).any (fun n => d_1.contains n) := hf
  generalize hL : Lg.std = L
  generalize hA : Alg.std = A
  cbv
  subst hL hA
  try dsimp only [Ty.den]
  subst hI
  obtain ⟨h1, h2, h3⟩ := hf
  have hl := hw.1.2.2.1.1
  have hdc := fun (h : i.toNat < d_2.length) => drop_cons d_2 0 i.toNat h
  have he := fun (h : d_2.length ≤ i.toNat) => drop_nil d_2 i.toNat h
  have hsu : (i + 1).toNat = i.toNat + 1 := by omega
  have hsy := any_sym d_1 d_2
  repeat' (first | intro _ | apply And.intro)
  all_goals first | (with_reducible exact True.intro) | ((fail_if_success (refine lp_v (V := Unit) (fun _ => ⟨[], []⟩) (fun _ => True) (fun _ => 0) () ?_ ?_ ?_)); (try simp only [Lg.std, Alg.std, List.drop_zero, List.take_length] at *); (try refine ⟨_, rfl, ?_, ?_⟩); (all_goals (subst hR0 hg_F_s_l1In hg_Q_s_l1In hg_F_s_l1Rise hg_Q_s_l1Rise hg_F_s_l1Has hg_Q_s_l1Has; (try simp only [Lg.std, Alg.std, List.drop_zero, List.take_length, F_s_l1In, F_s_l1Rise, F_s_l1Has, Q_s_l1In, Q_s_l1Rise, Q_s_l1Has, F_s_l16Fault] at *); first | done | (grind [draftRest, offPage])))) | skip
  refine lp_v (V := (Int)) (fun (i : Int) => ⟨[.dptr (.pair (.pair (.sl (.sl (.int .u8))) (.pair (.sl (.pair (.int .i64) (.pair (.sl (.int .u8)) .unit))) .unit)) (.pair (.sl (.int .i64)) (.pair (.sl (.int .i64)) .unit))) ((d_0_0, d_0_1, PUnit.unit), d_1, d_2, PUnit.unit), .junk, .junk, .junk, .junk, .junk, .junk, .dat (.int .i64) i, .junk, .junk, .junk, .junk, .junk, .junk, .junk, .junk, .junk, .junk, .junk, .junk, .junk, .junk, .junk, .junk, .junk, .junk, .junk, .junk, .junk, .junk, .junk, .junk, .junk, .junk, .junk, .junk, .junk, .junk, .junk, .junk, .junk, .junk, .junk, .junk, .junk, .junk, .junk, .junk, .junk, .junk, .junk, .junk, .junk, .junk, .junk, .junk, .junk, .junk, .junk, .junk, .junk, .junk, .junk, .junk, .junk, .junk, .junk, .junk, .junk, .junk, .junk, .junk, .junk, .junk, .junk, .junk, .junk, .junk, .junk, .junk, .junk, .junk, .junk, .junk, .junk, .junk, .junk, .junk, .junk, .junk, .junk, .junk, .junk, .junk, .junk, .junk, .junk, .junk, .junk, .junk, .junk, .junk, .junk, .junk, .junk, .junk, .junk, .junk, .junk, .junk, .junk, .junk, .junk], []⟩) (fun (i : Int) => 0 ≤ i ∧ i ≤ d_0_1.length ∧ d_0_1.any (fun p : PutT => !d_2.contains p.1) = (d_0_1.drop i.toNat).any (fun p : PutT => !d_2.contains p.1)) (fun (i : Int) => d_0_1.length - i.toNat) (0) rfl ?_ ?_
  · subst hR0 hg_F_s_l1In hg_Q_s_l1In hg_F_s_l1Rise hg_Q_s_l1Rise hg_F_s_l1Has hg_Q_s_l1Has
    (try simp only [Alg.std, F_s_l1In, F_s_l1Rise, F_s_l1Has, Q_s_l1In, Q_s_l1Rise, Q_s_l1Has, F_s_l16Fault] at *)
    all_goals (try simp)
    all_goals grind
  rintro i hf I hI
  replace hf : 0 ≤ i ∧ i ≤ d_0_1.length ∧ d_0_1.any (fun p : PutT => !d_2.contains p.1) = (d_0_1.drop i.toNat).any (fun p : PutT => !d_2.contains p.1) := hf
  generalize hL : Lg.std = L
  generalize hA : Alg.std = A
  cbv
  subst hL hA
  try dsimp only [Ty.den]
  subst hI
  obtain ⟨h1, h2, h3⟩ := hf
  have hl := hw.1.1.2.1.1
  have hdc := fun (h : i.toNat < d_0_1.length) => drop_cons d_0_1 ((0, [], PUnit.unit) : (Int) × (List (Int)) × Unit) i.toNat h
  have he := fun (h : d_0_1.length ≤ i.toNat) => drop_nil d_0_1 i.toNat h
  have hsu : (i + 1).toNat = i.toNat + 1 := by omega
  have hsy := any_sym d_1 d_2
  repeat' (first | intro _ | apply And.intro)
  all_goals first | (with_reducible exact True.intro) | ((fail_if_success (refine lp_v (V := Unit) (fun _ => ⟨[], []⟩) (fun _ => True) (fun _ => 0) () ?_ ?_ ?_)); (try simp only [Lg.std, Alg.std, List.drop_zero, List.take_length] at *); (try refine ⟨_, rfl, ?_, ?_⟩); (all_goals (subst hR0 hg_F_s_l1In hg_Q_s_l1In hg_F_s_l1Rise hg_Q_s_l1Rise hg_F_s_l1Has hg_Q_s_l1Has; (try simp only [Lg.std, Alg.std, List.drop_zero, List.take_length, F_s_l1In, F_s_l1Rise, F_s_l1Has, Q_s_l1In, Q_s_l1Rise, Q_s_l1Has, F_s_l16Fault] at *); first | done | ((try generalize d_0_1.getD i.toNat ((0, [], PUnit.unit) : (Int) × (List (Int)) × Unit) = xa at *); (try obtain ⟨xa0, xa1, ⟨⟩⟩ := xa); (try dsimp only at *); grind [draftRest, offPage])))) | skip
def con_s_l16Fault : Con := ⟨true, g1 (pP (.pair (.pair (.sl (.sl (.int .u8))) (.pair (.sl (.pair (.int .i64) (.pair (.sl (.int .u8)) .unit))) .unit)) (.pair (.sl (.int .i64)) (.pair (.sl (.int .i64)) .unit)))) fun d => ⟨[Q_s_l16Fault d], [⟨(.int .i64), .sh, F_s_l16Fault d⟩], []⟩, [], false, 0⟩
theorem ok_s_l16Fault : ConOk pg 142 con_s_l16Fault := ConOk.g1 (Enters.of (by kernel_rfl)) ct_s_l16Fault

def F_s_DraftFault (d : ((List (List (Int))) × (List ((Int) × (List (Int)) × Unit)) × Unit) × (List (Int)) × (List (Int)) × Unit) : Int := draftFault d
def Q_s_DraftFault (d : ((List (List (Int))) × (List ((Int) × (List (Int)) × Unit)) × Unit) × (List (Int)) × (List (Int)) × Unit) : Prop := True
def O_s_DraftFault : Opt := ⟨fun i => false, fun i => [], fun i => .done, fun i => none, fun i => false, fun i => [], fun i => false, fun i => none⟩
def τ_s_DraftFault : Env := Env.of [(2, (.int .i64)), (4, .bool), (38, (.pair (.sl (.sl (.int .u8))) (.pair (.sl (.pair (.int .i64) (.pair (.sl (.int .u8)) .unit))) .unit))), (74, (.pair (.pair (.sl (.sl (.int .u8))) (.pair (.sl (.pair (.int .i64) (.pair (.sl (.int .u8)) .unit))) .unit)) (.pair (.sl (.int .i64)) (.pair (.sl (.int .i64)) .unit))))] [(129, (.pair (.pair (.sl (.sl (.int .u8))) (.pair (.sl (.pair (.int .i64) (.pair (.sl (.int .u8)) .unit))) .unit)) (.pair (.sl (.int .i64)) (.pair (.sl (.int .i64)) .unit))))] []

theorem ct_s_DraftFault (d : ((List (List (Int))) × (List ((Int) × (List (Int)) × Unit)) × Unit) × (List (Int)) × (List (Int)) × Unit) : Ct pg 81 [.dat (.pair (.pair (.sl (.sl (.int .u8))) (.pair (.sl (.pair (.int .i64) (.pair (.sl (.int .u8)) .unit))) .unit)) (.pair (.sl (.int .i64)) (.pair (.sl (.int .i64)) .unit))) d] ⟨[Q_s_DraftFault d], [⟨(.int .i64), .sh, F_s_DraftFault d⟩], []⟩ := by
  refine ct_claim (O := O_s_DraftFault) (τ := τ_s_DraftFault) (EnvOk.of (by kernel_rfl) (by kernel_rfl)) (GOk.of (.cons ok_s_DiskFault (.cons ok_s_l16Fault .nil) : AllOk pg [(54, con_s_DiskFault), (142, con_s_l16Fault)])) mixed (Enters.of (by kernel_rfl)) (fn := Go.Proofs.Tryz.f81) (by kernel_rfl) rfl (by kernel_rfl) ?_
  intro hp hw
  have hq : Q_s_DraftFault d := hp _ (List.mem_singleton.2 rfl)
  clear hp
  change claim Lg.std Alg.std τ_s_DraftFault (Gam.of [(54, ⟨true, g1 (pD (.pair (.sl (.sl (.int .u8))) (.pair (.sl (.pair (.int .i64) (.pair (.sl (.int .u8)) .unit))) .unit))) fun d => ⟨[Q_s_DiskFault d], [⟨(.int .i64), .sh, F_s_DiskFault d⟩], []⟩, [], false, 0⟩), (142, ⟨true, g1 (pP (.pair (.pair (.sl (.sl (.int .u8))) (.pair (.sl (.pair (.int .i64) (.pair (.sl (.int .u8)) .unit))) .unit)) (.pair (.sl (.int .i64)) (.pair (.sl (.int .i64)) .unit)))) fun d => ⟨[Q_s_l16Fault d], [⟨(.int .i64), .sh, F_s_l16Fault d⟩], []⟩, [], false, 0⟩)]) O_s_DraftFault Go.Proofs.Tryz.f81 [.dat (.pair (.pair (.sl (.sl (.int .u8))) (.pair (.sl (.pair (.int .i64) (.pair (.sl (.int .u8)) .unit))) .unit)) (.pair (.sl (.int .i64)) (.pair (.sl (.int .i64)) .unit))) d] ⟨[Q_s_DraftFault d], [⟨(.int .i64), .sh, F_s_DraftFault d⟩], []⟩
  generalize hg_F_s_DiskFault : F_s_DiskFault = g_F_s_DiskFault
  generalize hg_Q_s_DiskFault : Q_s_DiskFault = g_Q_s_DiskFault
  generalize hg_F_s_l16Fault : F_s_l16Fault = g_F_s_l16Fault
  generalize hg_Q_s_l16Fault : Q_s_l16Fault = g_Q_s_l16Fault
  generalize hR0 : F_s_DraftFault d = R0
  generalize Q_s_DraftFault d = Q0
  generalize hL : Lg.std = L
  generalize hA : Alg.std = A
  cbv
  subst hL hA
  try dsimp only [Ty.den]
  subst hR0 hg_F_s_DiskFault hg_Q_s_DiskFault hg_F_s_l16Fault hg_Q_s_l16Fault
  simp only [Q_s_DraftFault] at hq
  simp only [Lg.std, Alg.std, List.drop_zero, List.take_length, F_s_DiskFault, F_s_l16Fault, Q_s_DiskFault, Q_s_l16Fault, F_s_DraftFault]
  all_goals grind [draftFault]
def con_s_DraftFault : Con := ⟨true, g1 (pD (.pair (.pair (.sl (.sl (.int .u8))) (.pair (.sl (.pair (.int .i64) (.pair (.sl (.int .u8)) .unit))) .unit)) (.pair (.sl (.int .i64)) (.pair (.sl (.int .i64)) .unit)))) fun d => ⟨[Q_s_DraftFault d], [⟨(.int .i64), .sh, F_s_DraftFault d⟩], []⟩, [], false, 0⟩
theorem ok_s_DraftFault : ConOk pg 81 con_s_DraftFault := ConOk.g1 (Enters.of (by kernel_rfl)) ct_s_DraftFault
end Go.Vee
