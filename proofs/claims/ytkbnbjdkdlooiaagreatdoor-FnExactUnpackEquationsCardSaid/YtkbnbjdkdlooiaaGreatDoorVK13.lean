/-
  Contracts of functions of the program: what each returns for all arguments that its precondition lets in.
-/
import Derived.Test.YtkbnbjdkdlooiaaGreatDoorVK12
set_option linter.unusedSimpArgs false
set_option linter.unusedVariables false
set_option maxRecDepth 100000
set_option maxHeartbeats 4000000
set_option synthInstance.maxHeartbeats 4000000
set_option synthInstance.maxSize 20000000
namespace Go.Vee
open Go
def ar (s : SigT) (n : Int) : Int := if n < 0 then 0 else (s.1.getD n.toNat symD).2.1
def isSym (s : SigT) (n : Int) : Bool := decide (0 ≤ n ∧ n ≤ (s.1.length : Int) - 1)
def nodeB (s : SigT) (n : Int) : Bool := isSym s n || decide (-12 ≤ n ∧ n ≤ -1)
theorem sig_ar (s : SigT) (h : sigFault s = 0) (i : Nat) (hi : i < s.1.length) : 0 ≤ (s.1.getD i symD).2.1 ∧ (s.1.getD i symD).2.1 ≤ 2 :=
  ((sig_good s h).2 _ (getD_mem s.1 symD i hi)).2
theorem ar_rng (s : SigT) (h : sigFault s = 0) (n : Int) (hn : nodeB s n = true) : 0 ≤ ar s n ∧ ar s n ≤ 2 := by
  unfold ar
  split
  · omega
  · refine sig_ar s h _ ?_
    simp only [nodeB, isSym, Bool.or_eq_true, decide_eq_true_eq] at hn
    omega
/-- How many terms are open behind a list's nodes, 'k' ahead of it. -/
def opn (s : SigT) : Nat → List Int → Option Nat
  | k, [] => some k
  | 0, _ :: _ => none
  | k + 1, n :: l => opn s (k + (ar s n).toNat) l
/-- What is left behind 'k' terms. -/
def skp (s : SigT) : Nat → List Int → Option (List Int)
  | 0, l => some l
  | _ + 1, [] => none
  | k + 1, n :: l => skp s (k + (ar s n).toNat) l
theorem skp_zero (s : SigT) (l : List Int) : skp s 0 l = some l := by cases l <;> rfl
theorem skp_nil (s : SigT) (k : Nat) : skp s (k + 1) [] = none := rfl
theorem skp_cons (s : SigT) (k : Nat) (n : Int) (l : List Int) : skp s (k + 1) (n :: l) = skp s (k + (ar s n).toNat) l := rfl
theorem skp_add (s : SigT) (b : Nat) : ∀ (l : List Int) (a : Nat), skp s (a + b) l = (skp s a l).bind (skp s b)
  | l, 0 => by rw [skp_zero, Nat.zero_add]; rfl
  | [], a + 1 => by rw [Nat.succ_add, skp_nil, skp_nil]; rfl
  | n :: l, a + 1 => by
    rw [Nat.succ_add, skp_cons, skp_cons, ← skp_add s b l]
    congr 1; omega
theorem skp_suf (s : SigT) : ∀ (l : List Int) (k : Nat) (r : List Int), skp s k l = some r → r.length + k ≤ l.length ∧ r = l.drop (l.length - r.length)
  | l, 0, r, h => by rw [skp_zero] at h; cases h; simp
  | [], k + 1, r, h => by rw [skp_nil] at h; cases h
  | n :: l, k + 1, r, h => by
    rw [skp_cons] at h
    have := skp_suf s l _ r h
    refine ⟨by simp; omega, ?_⟩
    have e : (n :: l).length - r.length = (l.length - r.length) + 1 := by simp; omega
    rw [e, List.drop_succ_cons]
    exact this.2
theorem opn_skp (s : SigT) : ∀ (l : List Int) (k : Nat), skp s k l = some [] ↔ opn s k l = some 0
  | [], 0 => by simp [skp, opn]
  | [], k + 1 => by simp [skp, opn]
  | n :: l, 0 => by simp [skp, opn]
  | n :: l, k + 1 => by rw [skp_cons]; exact opn_skp s l _
theorem opn_snoc (s : SigT) (n : Int) : ∀ (l : List Int) (k j : Nat), opn s k l = some (j + 1) → opn s k (l ++ [n]) = some (j + (ar s n).toNat)
  | [], k, j, h => by
    simp only [opn, Option.some.injEq] at h
    subst h
    rfl
  | x :: l, 0, j, h => by simp [opn] at h
  | x :: l, k + 1, j, h => by
    have h' : opn s (k + (ar s x).toNat) l = some (j + 1) := h
    exact opn_snoc s n l _ j h'
/-- The place behind the term at a place, or -1. -/
def endP (s : SigT) (t : List Int) (a : Int) : Int := match skp s 1 (t.drop a.toNat) with
  | some r => (t.length : Int) - r.length
  | none => -1
theorem endP_ge (s : SigT) (t : List Int) (a : Int) (h : (t.length : Int) ≤ a) : endP s t a = -1 := by
  unfold endP; rw [List.drop_of_length_le (by omega), skp_nil]
theorem endP_cases (s : SigT) (t : List Int) (e : Int) (h0 : 0 ≤ e) (h1 : e ≤ t.length) : (endP s t e = -1 ∧ skp s 1 (t.drop e.toNat) = none) ∨ (e + 1 ≤ endP s t e ∧ endP s t e ≤ t.length ∧ skp s 1 (t.drop e.toNat) = some (t.drop (endP s t e).toNat)) := by
  unfold endP
  cases h : skp s 1 (t.drop e.toNat) with
  | none => exact .inl ⟨rfl, rfl⟩
  | some r =>
    right
    have := skp_suf s _ _ _ h
    rw [List.length_drop] at this
    have e1 : ((t.length : Int) - r.length).toNat = e.toNat + (t.length - e.toNat - r.length) := by omega
    refine ⟨by dsimp only; omega, by dsimp only; omega, ?_⟩
    dsimp only
    rw [e1, ← List.drop_drop]
    exact congrArg some this.2
theorem endP_in (s : SigT) (t : List Int) (a : Int) (h0 : 0 ≤ a) (h1 : a < t.length) : endP s t a = match skp s (ar s (t.getD a.toNat 0)).toNat (t.drop (a.toNat + 1)) with
    | some r => (t.length : Int) - r.length
    | none => -1 := by
  unfold endP
  rw [drop_cons t 0 a.toNat (by omega), skp_cons, Nat.zero_add]
theorem endP_var (s : SigT) (t : List Int) (a : Int) (h0 : 0 ≤ a) (h1 : a < t.length) (h : t.getD a.toNat 0 < 0) : endP s t a = a + 1 := by
  have e : (ar s (t.getD a.toNat 0)).toNat = 0 := by unfold ar; rw [if_pos h]; rfl
  rw [endP_in s t a h0 h1, e, skp_zero]
  simp only [List.length_drop]; omega
/-- A round of the reference's way to an end. -/
theorem endP_round (s : SigT) (t : List Int) (a e k i : Int) (h0 : 0 ≤ a) (h1 : a < t.length) (hk : k = ar s (t.getD a.toNat 0)) (hi : 0 ≤ i ∧ i < k) (he : a + 1 ≤ e ∧ e ≤ t.length)
    (hI : skp s (k - i).toNat (t.drop e.toNat) = skp s k.toNat (t.drop (a.toNat + 1))) :
    (endP s t e = -1 → endP s t a = -1) ∧ (endP s t e ≠ -1 → a + 1 ≤ endP s t e ∧ endP s t e ≤ t.length ∧ skp s (k - (i + 1)).toNat (t.drop (endP s t e).toNat) = skp s k.toNat (t.drop (a.toNat + 1))) := by
  have e1 : (k - i).toNat = 1 + (k - (i + 1)).toNat := by omega
  rw [e1, skp_add] at hI
  rcases endP_cases s t e (by omega) he.2 with ⟨g1, g2⟩ | ⟨g1, g2, g3⟩
  · refine ⟨fun _ => ?_, fun h => absurd g1 h⟩
    rw [endP_in s t a h0 h1, ← hk, ← hI, g2]; rfl
  · refine ⟨fun h => by omega, fun _ => ⟨by omega, g2, ?_⟩⟩
    rw [g3] at hI
    exact hI
theorem endP_done (s : SigT) (t : List Int) (a e k : Int) (h0 : 0 ≤ a) (h1 : a < t.length) (hk : k = ar s (t.getD a.toNat 0)) (he : a + 1 ≤ e ∧ e ≤ t.length) (hI : skp s 0 (t.drop e.toNat) = skp s k.toNat (t.drop (a.toNat + 1))) : endP s t a = e := by
  rw [endP_in s t a h0 h1, ← hk, ← hI, skp_zero]
  simp only [List.length_drop]; omega
def l3F (s : SigT) (t : List Int) : Int := if t.length < 1 ∨ t.length > 24 then 2 else if t.all (nodeB s) = false then 3 else if endP s t 0 ≠ t.length then 1 else 0
theorem endP_full (s : SigT) (t : List Int) : endP s t 0 = t.length ↔ opn s 1 t = some 0 := by
  rw [← opn_skp]
  unfold endP
  simp only [Int.toNat_zero, List.drop_zero]
  cases h : skp s 1 t with
  | none => simp <;> omega
  | some r =>
    cases r with
    | nil => simp
    | cons x r => simp <;> omega
theorem l3F_zero (s : SigT) (t : List Int) (h1 : 1 ≤ t.length) (h2 : t.length ≤ 24) (h3 : t.all (nodeB s) = true) : l3F s t = 0 ↔ opn s 1 t = some 0 := by
  unfold l3F
  rw [if_neg (by omega), if_neg (by rw [h3]; decide), ← endP_full]
  split
  · rename_i h; simp [h]
  · rename_i h; exact ⟨fun _ => Decidable.not_not.1 h, fun _ => rfl⟩
theorem l3F_ok (s : SigT) (t : List Int) (h : l3F s t = 0) : (1 ≤ t.length ∧ t.length ≤ 24) ∧ t.all (nodeB s) = true ∧ opn s 1 t = some 0 := by
  unfold l3F at h
  split at h
  · cases h
  rename_i h1
  split at h
  · cases h
  rename_i h2
  split at h
  · cases h
  rename_i h3
  exact ⟨by omega, by simpa using h2, (endP_full s t).1 (Decidable.not_not.1 h3)⟩
def termFault (s : SigT) (t : List Int) : Int := if sigFault s ≠ 0 then sigFault s else l3F s t
def nodeOf (b : Int) : Int := if b < 32 then b - 1 else 31 - b
def okB (s : SigT) (b : Int) : Bool := if b < 32 then isSym s (b - 1) else nodeB s (31 - b)
theorem okB_node (s : SigT) (b : Int) (h : 0 ≤ b) : okB s b = true ↔ (b ≠ 0 ∧ nodeB s (nodeOf b) = true) := by
  unfold okB nodeOf nodeB isSym
  split
  · simp only [Bool.or_eq_true, decide_eq_true_eq]; omega
  · simp only [Bool.or_eq_true, decide_eq_true_eq]; omega
/-- The reference's way: a term at the beginning of bytes; [] where there is none. -/
def l5L (s : SigT) : List Int → List Int → List Int
  | [], _ => []
  | b :: l, out => if 24 ≤ out.length then [] else if okB s b = false then [] else if l3F s (out ++ [nodeOf b]) = 0 then out ++ [nodeOf b] else l5L s l (out ++ [nodeOf b])
def l5R (s : SigT) (d : List Int) : List Int := l5L s d []
/-- The program's way. -/
def tL (s : SigT) : Nat → Int → RdT → List Int → List Int × RdT
  | 0, _, r, out => (out, r)
  | f + 1, o, r, out => if ¬ 0 < o ∨ r.2.1 = true then (out, r) else
    if rdOne r = 0 ∨ nodeB s (nodeOf (rdOne r)) = false ∨ out.length = 24 then (out, ((rdNext r 1).1, true, ()))
    else tL s f (o + (ar s (nodeOf (rdOne r)) - 1)) (rdNext r 1) (out ++ [nodeOf (rdOne r)])
def termRd (s : SigT) (r : RdT) : List Int × RdT := tL s 26 1 r []
theorem tL_step (s : SigT) (f : Nat) (o : Int) (r : RdT) (out : List Int) (h : 0 < f) : tL s f o r out = if ¬ 0 < o ∨ r.2.1 = true then (out, r) else
    if rdOne r = 0 ∨ nodeB s (nodeOf (rdOne r)) = false ∨ out.length = 24 then (out, ((rdNext r 1).1, true, ()))
    else tL s (f - 1) (o + (ar s (nodeOf (rdOne r)) - 1)) (rdNext r 1) (out ++ [nodeOf (rdOne r)]) := by
  cases f with
  | zero => omega
  | succ f => rfl
theorem rdOne_end : rdOne ([], false, ()) = 0 := rfl
theorem term_main (s : SigT) (hs : sigFault s = 0) : ∀ (l out : List Int) (o f : Nat), (∀ x ∈ l, 0 ≤ x ∧ x ≤ 255) → opn s 1 out = some (o + 1) → out.all (nodeB s) = true → out.length ≤ 24 → 26 ≤ f + out.length →
    (l5L s l out = [] → (tL s f ((o + 1 : Nat) : Int) (l, false, ()) out).2.2.1 = true) ∧
    (l5L s l out ≠ [] → out.length < (l5L s l out).length ∧ (l5L s l out).length ≤ out.length + l.length ∧ l3F s (l5L s l out) = 0 ∧ tL s f ((o + 1 : Nat) : Int) (l, false, ()) out = (l5L s l out, (l.drop ((l5L s l out).length - out.length), false, ())))
  | [], out, o, f, hb, ho, ha, hl, hf => by
    refine ⟨fun _ => ?_, fun h => absurd rfl h⟩
    rw [tL_step s f _ _ _ (by omega), if_neg (by simp), if_pos (.inl rdOne_end)]
  | b :: l, out, o, f, hb, ho, ha, hl, hf => by
    have hb0 := hb b (by simp)
    have e1 := rdOne_cons b l
    have e2 := rdNext_cons b l
    rw [tL_step s f _ _ _ (by omega), if_neg (by simp), e1, e2]
    have hok := okB_node s b hb0.1
    unfold l5L
    by_cases c1 : 24 ≤ out.length
    · rw [if_pos c1, if_pos (.inr (.inr (by omega)))]
      exact ⟨fun _ => rfl, fun h => absurd rfl h⟩
    rw [if_neg c1]
    by_cases c2 : okB s b = false
    · have hc : b = 0 ∨ nodeB s (nodeOf b) = false ∨ out.length = 24 := by
        by_cases c3 : b = 0
        · exact .inl c3
        · right; left
          cases hn : nodeB s (nodeOf b) with
          | false => rfl
          | true => rw [hok.2 ⟨c3, hn⟩] at c2; cases c2
      rw [if_pos c2, if_pos hc]
      exact ⟨fun _ => rfl, fun h => absurd rfl h⟩
    rw [if_neg c2]
    have hg := hok.1 (by simpa using c2)
    have hc : ¬ (b = 0 ∨ nodeB s (nodeOf b) = false ∨ out.length = 24) := by
      rintro (h | h | h)
      · exact hg.1 h
      · rw [hg.2] at h; cases h
      · omega
    rw [if_neg hc]
    have har := ar_rng s hs _ hg.2
    have ho2 := opn_snoc s (nodeOf b) out 1 o ho
    have ha2 : (out ++ [nodeOf b]).all (nodeB s) = true := by rw [List.all_append, ha]; simp [hg.2]
    have hl2 : (out ++ [nodeOf b]).length = out.length + 1 := by simp
    have hz := l3F_zero s (out ++ [nodeOf b]) (by omega) (by omega) ha2
    have eo : ((o + 1 : Nat) : Int) + (ar s (nodeOf b) - 1) = ((o + (ar s (nodeOf b)).toNat : Nat) : Int) := by omega
    rw [eo]
    by_cases c3 : l3F s (out ++ [nodeOf b]) = 0
    · rw [if_pos c3]
      have h0 := hz.1 c3
      rw [ho2] at h0
      have h1 : o + (ar s (nodeOf b)).toNat = 0 := by simpa using h0
      refine ⟨fun h => by simp at h, fun _ => ⟨by omega, by simp, c3, ?_⟩⟩
      rw [h1, tL_step s (f - 1) _ _ _ (by omega), if_pos (.inl (by simp)), hl2]
      simp
    · rw [if_neg c3]
      have h1 : o + (ar s (nodeOf b)).toNat ≠ 0 := fun h => c3 (hz.2 (by rw [ho2, h]))
      obtain ⟨o', ho'⟩ : ∃ o', o + (ar s (nodeOf b)).toNat = o' + 1 := ⟨o + (ar s (nodeOf b)).toNat - 1, by omega⟩
      rw [ho'] at ho2 ⊢
      have ih := term_main s hs l (out ++ [nodeOf b]) o' (f - 1) (fun x hx => hb x (by simp [hx])) ho2 ha2 (by omega) (by omega)
      refine ⟨ih.1, fun h => ?_⟩
      obtain ⟨g1, g2, g3, g4⟩ := ih.2 h
      rw [hl2] at g1 g2
      refine ⟨by omega, by rw [List.length_cons]; omega, g3, ?_⟩
      rw [g4, hl2]
      have e : (l5L s l (out ++ [nodeOf b])).length - out.length = ((l5L s l (out ++ [nodeOf b])).length - (out.length + 1)) + 1 := by omega
      rw [e, List.drop_succ_cons]
theorem term_same (s : SigT) (hs : sigFault s = 0) (x : List Int) (hx : ∀ y ∈ x, 0 ≤ y ∧ y ≤ 255) : (l5R s x = [] → (termRd s (x, false, ())).2.2.1 = true) ∧
    (l5R s x ≠ [] → (1 ≤ (l5R s x).length ∧ (l5R s x).length ≤ x.length) ∧ l3F s (l5R s x) = 0 ∧ termRd s (x, false, ()) = (l5R s x, (x.drop (l5R s x).length, false, ()))) := by
  have h := term_main s hs x [] 0 26 hx rfl rfl (by simp) (by simp)
  refine ⟨h.1, fun hh => ?_⟩
  obtain ⟨g1, g2, g3, g4⟩ := h.2 hh
  exact ⟨⟨g1, by simpa [l5R] using g2⟩, g3, g4⟩
theorem termRd_failed (s : SigT) (x : List Int) : termRd s (x, true, ()) = ([], (x, true, ())) := by
  unfold termRd
  rw [tL_step _ _ _ _ _ (by decide), if_pos (.inr rfl)]
theorem l5R_len (s : SigT) (x : List Int) (hs : sigFault s = 0) (hx : ∀ y ∈ x, 0 ≤ y ∧ y ≤ 255) : (l5R s x).length ≤ 24 := by
  by_cases h : l5R s x = []
  · simp [h]
  · exact (l3F_ok s _ ((term_same s hs x hx).2 h).2.1).1.2
def allN (s : SigT) (t : List Int) : Prop := ∀ n ∈ t, nodeB s n = true
theorem allp_step (p : Int → Bool) (t : List Int) (i : Nat) (h : i < t.length) : (t.drop i).all p = (p (t.getD i 0) && (t.drop (i + 1)).all p) := by
  rw [drop_cons t 0 i h, List.all_cons]
theorem all_allN (s : SigT) (t : List Int) (h : t.all (nodeB s) = true) : allN s t := fun n hn => List.all_eq_true.1 h n hn
theorem l3F_2 (s : SigT) (t : List Int) (h : t.length < 1 ∨ t.length > 24) : l3F s t = 2 := by unfold l3F; exact if_pos h
theorem l3F_3 (s : SigT) (t : List Int) (h : ¬ (t.length < 1 ∨ t.length > 24)) (h2 : t.all (nodeB s) = false) : l3F s t = 3 := by unfold l3F; rw [if_neg h, if_pos h2]
theorem l3F_r (s : SigT) (t : List Int) (h : ¬ (t.length < 1 ∨ t.length > 24)) (h2 : t.all (nodeB s) = true) : l3F s t = if endP s t 0 ≠ t.length then 1 else 0 := by
  unfold l3F; rw [if_neg h, if_neg (by rw [h2]; decide)]
theorem l5L_step (s : SigT) (d : List Int) (i : Nat) (out : List Int) (h : i < d.length) : l5L s (d.drop i) out = if 24 ≤ out.length then [] else if okB s (d.getD i 0) = false then [] else if l3F s (out ++ [nodeOf (d.getD i 0)]) = 0 then out ++ [nodeOf (d.getD i 0)] else l5L s (d.drop (i + 1)) (out ++ [nodeOf (d.getD i 0)]) := by
  rw [drop_cons d 0 i h]; rfl
theorem l5L_end (s : SigT) (d : List Int) (i : Nat) (out : List Int) (h : d.length ≤ i) : l5L s (d.drop i) out = [] := by rw [List.drop_of_length_le h]; rfl
theorem l5L_full (s : SigT) (d out : List Int) (h : 24 ≤ out.length) : l5L s d out = [] := by
  cases d with
  | nil => rfl
  | cons b l => unfold l5L; exact if_pos h
/-- The place behind the term at a place, as the program tells it. -/
def endI (s : SigT) (t : List Int) (a : Int) : Int := match skp s 1 (t.drop a.toNat) with
  | some r => (t.length : Int) - r.length
  | none => t.length + 1
theorem endI_step (s : SigT) (t : List Int) (o b : Int) (hb : 0 ≤ b ∧ b < t.length) (ho : 0 < o) (hr : 0 ≤ ar s (t.getD b.toNat 0)) : skp s o.toNat (t.drop b.toNat) = skp s (o + (ar s (t.getD b.toNat 0) - 1)).toNat (t.drop (b.toNat + 1)) := by
  obtain ⟨k, hk⟩ : ∃ k, o.toNat = k + 1 := ⟨o.toNat - 1, by omega⟩
  rw [hk, drop_cons t 0 b.toNat (by omega), skp_cons]
  congr 1
  omega
theorem endI_out (s : SigT) (t : List Int) (a o b : Int) (ho : 0 < o) (hb : (t.length : Int) ≤ b) (h : skp s o.toNat (t.drop b.toNat) = skp s 1 (t.drop a.toNat)) : endI s t a = t.length + 1 := by
  obtain ⟨k, hk⟩ : ∃ k, o.toNat = k + 1 := ⟨o.toNat - 1, by omega⟩
  rw [hk, List.drop_of_length_le (by omega), skp_nil] at h
  unfold endI
  rw [← h]
theorem endI_done (s : SigT) (t : List Int) (a o b : Int) (ho : o ≤ 0) (hb : 0 ≤ b ∧ b ≤ t.length) (h : skp s o.toNat (t.drop b.toNat) = skp s 1 (t.drop a.toNat)) : endI s t a = b := by
  have e : o.toNat = 0 := by omega
  rw [e, skp_zero] at h
  unfold endI
  rw [← h]
  simp only [List.length_drop]
  omega
theorem endI_full (s : SigT) (t : List Int) : endI s t 0 = t.length ↔ endP s t 0 = t.length := by
  unfold endI endP
  cases skp s 1 (t.drop (0 : Int).toNat) with
  | none => simp <;> omega
  | some r => exact Iff.rfl
theorem l3F_I (s : SigT) (t : List Int) (h : ¬ (t.length < 1 ∨ t.length > 24)) (h2 : t.all (nodeB s) = true) : l3F s t = if endI s t 0 = t.length then 0 else 1 := by
  rw [l3F_r s t h h2]
  by_cases c : endP s t 0 = t.length
  · rw [if_neg (by simpa using c), if_pos ((endI_full s t).2 c)]
  · rw [if_pos c, if_neg (fun k => c ((endI_full s t).1 k))]
theorem any_not (s : SigT) (t : List Int) : t.any (fun n => !nodeB s n) = !t.all (nodeB s) := by
  induction t with
  | nil => rfl
  | cons x t ih => simp only [List.any_cons, List.all_cons, ih, Bool.not_and]

def F_i_isNode (s : (List ((List Int) × (Int) × Unit)) × Unit) (n : Int) : Bool := nodeB s n
def Q_i_isNode (s : (List ((List Int) × (Int) × Unit)) × Unit) (n : Int) : Prop := True
def O_i_isNode : Opt := ⟨fun i => false, fun i => [], fun i => .done, fun i => none, fun i => false, fun i => [], fun i => false, fun i => none⟩
def τ_i_isNode : Env := Env.of [(2, (.int .i64)), (4, .bool), (30, (.pair (.sl (.pair .str (.pair (.int .i64) .unit))) .unit))] [] []

theorem ct_i_isNode (s : (List ((List Int) × (Int) × Unit)) × Unit) (n : Int) : Ct pg 194 [.dat (.pair (.sl (.pair .str (.pair (.int .i64) .unit))) .unit) s, .dat (.int .i64) n] ⟨[Q_i_isNode s n], [⟨.bool, .sh, F_i_isNode s n⟩], []⟩ := by
  refine ct_claim (O := O_i_isNode) (τ := τ_i_isNode) (EnvOk.of (by kernel_rfl) (by kernel_rfl)) (GOk.of (.cons ok_i_within (.cons ok_i_isSymbol .nil) : AllOk pg [(102, con_i_within), (232, con_i_isSymbol)])) mixed (Enters.of (by kernel_rfl)) (fn := Go.Proofs.Tryz.f194) (by kernel_rfl) rfl (by kernel_rfl) ?_
  intro hp hw
  have hq : Q_i_isNode s n := hp _ (List.mem_singleton.2 rfl)
  clear hp
  change claim Lg.std Alg.std τ_i_isNode (Gam.of [(102, ⟨true, g3 (pD (.int .i64)) (pD (.int .i64)) (pD (.int .i64)) fun n lo hi => .one ⟨[Q_i_within n lo hi], [⟨.bool, .sh, F_i_within n lo hi⟩], []⟩, [], false, 0⟩), (232, ⟨true, g2 (pD (.pair (.sl (.pair .str (.pair (.int .i64) .unit))) .unit)) (pD (.int .i64)) fun s n => .one ⟨[Q_i_isSymbol s n], [⟨.bool, .sh, F_i_isSymbol s n⟩], []⟩, [], false, 0⟩)]) O_i_isNode Go.Proofs.Tryz.f194 [.dat (.pair (.sl (.pair .str (.pair (.int .i64) .unit))) .unit) s, .dat (.int .i64) n] ⟨[Q_i_isNode s n], [⟨.bool, .sh, F_i_isNode s n⟩], []⟩
  generalize hg_F_i_within : F_i_within = g_F_i_within
  generalize hg_Q_i_within : Q_i_within = g_Q_i_within
  generalize hg_F_i_isSymbol : F_i_isSymbol = g_F_i_isSymbol
  generalize hg_Q_i_isSymbol : Q_i_isSymbol = g_Q_i_isSymbol
  generalize hR0 : F_i_isNode s n = R0
  generalize Q_i_isNode s n = Q0
  generalize hL : Lg.std = L
  generalize hA : Alg.std = A
  cbv
  subst hL hA
  try dsimp only [Ty.den]
  obtain ⟨s_0, ⟨⟩⟩ := s
  subst hR0 hg_F_i_within hg_Q_i_within hg_F_i_isSymbol hg_Q_i_isSymbol
  simp only [Lg.std, Alg.std, List.drop_zero, List.take_length, F_i_within, F_i_isSymbol, Q_i_within, Q_i_isSymbol, F_i_isNode, nodeB, isSym] at *
  all_goals grind
def con_i_isNode : Con := ⟨true, g2 (pD (.pair (.sl (.pair .str (.pair (.int .i64) .unit))) .unit)) (pD (.int .i64)) fun s n => .one ⟨[Q_i_isNode s n], [⟨.bool, .sh, F_i_isNode s n⟩], []⟩, [], false, 0⟩
theorem ok_i_isNode : ConOk pg 194 con_i_isNode := ConOk.g2 (Enters.of (by kernel_rfl)) ct_i_isNode

def F_i_arityOf (s : (List ((List Int) × (Int) × Unit)) × Unit) (n : Int) : Int := ar s n
def Q_i_arityOf (s : (List ((List Int) × (Int) × Unit)) × Unit) (n : Int) : Prop := n < s.1.length
def O_i_arityOf : Opt := ⟨fun i => false, fun i => [], fun i => .done, fun i => none, fun i => false, fun i => [], fun i => false, fun i => none⟩
def τ_i_arityOf : Env := Env.of [(2, (.int .i64)), (4, .bool), (28, (.sl (.pair .str (.pair (.int .i64) .unit)))), (30, (.pair (.sl (.pair .str (.pair (.int .i64) .unit))) .unit)), (175, (.pair .str (.pair (.int .i64) .unit)))] [] []

theorem ct_i_arityOf (s : (List ((List Int) × (Int) × Unit)) × Unit) (n : Int) : Ct pg 195 [.dat (.pair (.sl (.pair .str (.pair (.int .i64) .unit))) .unit) s, .dat (.int .i64) n] ⟨[Q_i_arityOf s n], [⟨(.int .i64), .sh, F_i_arityOf s n⟩], []⟩ := by
  refine ct_claim (O := O_i_arityOf) (τ := τ_i_arityOf) (EnvOk.of (by kernel_rfl) (by kernel_rfl)) (GOk.of (.nil : AllOk pg [])) mixed (Enters.of (by kernel_rfl)) (fn := Go.Proofs.Tryz.f195) (by kernel_rfl) rfl (by kernel_rfl) ?_
  intro hp hw
  have hq : Q_i_arityOf s n := hp _ (List.mem_singleton.2 rfl)
  clear hp
  change claim Lg.std Alg.std τ_i_arityOf (Gam.of []) O_i_arityOf Go.Proofs.Tryz.f195 [.dat (.pair (.sl (.pair .str (.pair (.int .i64) .unit))) .unit) s, .dat (.int .i64) n] ⟨[Q_i_arityOf s n], [⟨(.int .i64), .sh, F_i_arityOf s n⟩], []⟩
  generalize hR0 : F_i_arityOf s n = R0
  generalize Q_i_arityOf s n = Q0
  generalize hL : Lg.std = L
  generalize hA : Alg.std = A
  cbv
  subst hL hA
  try dsimp only [Ty.den]
  obtain ⟨s_0, ⟨⟩⟩ := s
  subst hR0
  simp only [Q_i_arityOf] at hq
  simp only [Lg.std, Alg.std, List.drop_zero, List.take_length, F_i_arityOf, ar, symD] at *
  all_goals grind
def con_i_arityOf : Con := ⟨true, g2 (pD (.pair (.sl (.pair .str (.pair (.int .i64) .unit))) .unit)) (pD (.int .i64)) fun s n => .one ⟨[Q_i_arityOf s n], [⟨(.int .i64), .sh, F_i_arityOf s n⟩], []⟩, [], false, 0⟩
theorem ok_i_arityOf : ConOk pg 195 con_i_arityOf := ConOk.g2 (Enters.of (by kernel_rfl)) ct_i_arityOf

def F_s_l2Symbol (s : (List ((List Int) × (Int) × Unit)) × Unit) (n : Int) : Bool := isSym s n
def Q_s_l2Symbol (s : (List ((List Int) × (Int) × Unit)) × Unit) (n : Int) : Prop := True
def O_s_l2Symbol : Opt := ⟨fun i => false, fun i => [], fun i => .done, fun i => none, fun i => false, fun i => [], fun i => false, fun i => none⟩
def τ_s_l2Symbol : Env := Env.of [(2, (.int .i64)), (3, (.int .i64)), (4, .bool), (28, (.sl (.pair .str (.pair (.int .i64) .unit)))), (30, (.pair (.sl (.pair .str (.pair (.int .i64) .unit))) .unit))] [(113, (.pair (.sl (.pair .str (.pair (.int .i64) .unit))) .unit))] []

theorem ct_s_l2Symbol (s : (List ((List Int) × (Int) × Unit)) × Unit) (n : Int) : Ct pg 222 [.dptr (.pair (.sl (.pair .str (.pair (.int .i64) .unit))) .unit) s, .dat (.int .i64) n] ⟨[Q_s_l2Symbol s n], [⟨.bool, .sh, F_s_l2Symbol s n⟩], []⟩ := by
  refine ct_claim (O := O_s_l2Symbol) (τ := τ_s_l2Symbol) (EnvOk.of (by kernel_rfl) (by kernel_rfl)) (GOk.of (.cons ok_s_l1In .nil : AllOk pg [(100, con_s_l1In)])) mixed (Enters.of (by kernel_rfl)) (fn := Go.Proofs.Tryz.f222) (by kernel_rfl) rfl (by kernel_rfl) ?_
  intro hp hw
  have hq : Q_s_l2Symbol s n := hp _ (List.mem_singleton.2 rfl)
  clear hp
  change claim Lg.std Alg.std τ_s_l2Symbol (Gam.of [(100, ⟨true, g3 (pD (.int .i64)) (pD (.int .i64)) (pD (.int .i64)) fun n lo hi => .one ⟨[Q_s_l1In n lo hi], [⟨.bool, .sh, F_s_l1In n lo hi⟩], []⟩, [], false, 0⟩)]) O_s_l2Symbol Go.Proofs.Tryz.f222 [.dptr (.pair (.sl (.pair .str (.pair (.int .i64) .unit))) .unit) s, .dat (.int .i64) n] ⟨[Q_s_l2Symbol s n], [⟨.bool, .sh, F_s_l2Symbol s n⟩], []⟩
  generalize hg_F_s_l1In : F_s_l1In = g_F_s_l1In
  generalize hg_Q_s_l1In : Q_s_l1In = g_Q_s_l1In
  generalize hR0 : F_s_l2Symbol s n = R0
  generalize Q_s_l2Symbol s n = Q0
  generalize hL : Lg.std = L
  generalize hA : Alg.std = A
  cbv
  subst hL hA
  try dsimp only [Ty.den]
  obtain ⟨s_0, ⟨⟩⟩ := s
  have hl := hw.1.1.1
  subst hR0 hg_F_s_l1In hg_Q_s_l1In
  simp only [Q_s_l2Symbol] at hq
  simp only [Lg.std, Alg.std, List.drop_zero, List.take_length, F_s_l1In, Q_s_l1In, F_s_l2Symbol, isSym]
  all_goals grind
def con_s_l2Symbol : Con := ⟨true, g2 (pP (.pair (.sl (.pair .str (.pair (.int .i64) .unit))) .unit)) (pD (.int .i64)) fun s n => .one ⟨[Q_s_l2Symbol s n], [⟨.bool, .sh, F_s_l2Symbol s n⟩], []⟩, [], false, 0⟩
theorem ok_s_l2Symbol : ConOk pg 222 con_s_l2Symbol := ConOk.g2 (Enters.of (by kernel_rfl)) ct_s_l2Symbol

def F_s_l3Node (s : (List ((List Int) × (Int) × Unit)) × Unit) (n : Int) : Bool := nodeB s n
def Q_s_l3Node (s : (List ((List Int) × (Int) × Unit)) × Unit) (n : Int) : Prop := True
def O_s_l3Node : Opt := ⟨fun i => false, fun i => [], fun i => .done, fun i => none, fun i => false, fun i => [], fun i => false, fun i => none⟩
def τ_s_l3Node : Env := Env.of [(2, (.int .i64)), (4, .bool)] [(113, (.pair (.sl (.pair .str (.pair (.int .i64) .unit))) .unit))] []

theorem ct_s_l3Node (s : (List ((List Int) × (Int) × Unit)) × Unit) (n : Int) : Ct pg 223 [.dptr (.pair (.sl (.pair .str (.pair (.int .i64) .unit))) .unit) s, .dat (.int .i64) n] ⟨[Q_s_l3Node s n], [⟨.bool, .sh, F_s_l3Node s n⟩], []⟩ := by
  refine ct_claim (O := O_s_l3Node) (τ := τ_s_l3Node) (EnvOk.of (by kernel_rfl) (by kernel_rfl)) (GOk.of (.cons ok_s_l1In (.cons ok_s_l2Symbol .nil) : AllOk pg [(100, con_s_l1In), (222, con_s_l2Symbol)])) mixed (Enters.of (by kernel_rfl)) (fn := Go.Proofs.Tryz.f223) (by kernel_rfl) rfl (by kernel_rfl) ?_
  intro hp hw
  have hq : Q_s_l3Node s n := hp _ (List.mem_singleton.2 rfl)
  clear hp
  change claim Lg.std Alg.std τ_s_l3Node (Gam.of [(100, ⟨true, g3 (pD (.int .i64)) (pD (.int .i64)) (pD (.int .i64)) fun n lo hi => .one ⟨[Q_s_l1In n lo hi], [⟨.bool, .sh, F_s_l1In n lo hi⟩], []⟩, [], false, 0⟩), (222, ⟨true, g2 (pP (.pair (.sl (.pair .str (.pair (.int .i64) .unit))) .unit)) (pD (.int .i64)) fun s n => .one ⟨[Q_s_l2Symbol s n], [⟨.bool, .sh, F_s_l2Symbol s n⟩], []⟩, [], false, 0⟩)]) O_s_l3Node Go.Proofs.Tryz.f223 [.dptr (.pair (.sl (.pair .str (.pair (.int .i64) .unit))) .unit) s, .dat (.int .i64) n] ⟨[Q_s_l3Node s n], [⟨.bool, .sh, F_s_l3Node s n⟩], []⟩
  generalize hg_F_s_l1In : F_s_l1In = g_F_s_l1In
  generalize hg_Q_s_l1In : Q_s_l1In = g_Q_s_l1In
  generalize hg_F_s_l2Symbol : F_s_l2Symbol = g_F_s_l2Symbol
  generalize hg_Q_s_l2Symbol : Q_s_l2Symbol = g_Q_s_l2Symbol
  generalize hR0 : F_s_l3Node s n = R0
  generalize Q_s_l3Node s n = Q0
  generalize hL : Lg.std = L
  generalize hA : Alg.std = A
  cbv
  subst hL hA
  try dsimp only [Ty.den]
  subst hR0 hg_F_s_l1In hg_Q_s_l1In hg_F_s_l2Symbol hg_Q_s_l2Symbol
  simp only [Q_s_l3Node] at hq
  simp only [Lg.std, Alg.std, List.drop_zero, List.take_length, F_s_l1In, F_s_l2Symbol, Q_s_l1In, Q_s_l2Symbol, F_s_l3Node]
  all_goals grind [nodeB]
def con_s_l3Node : Con := ⟨true, g2 (pP (.pair (.sl (.pair .str (.pair (.int .i64) .unit))) .unit)) (pD (.int .i64)) fun s n => .one ⟨[Q_s_l3Node s n], [⟨.bool, .sh, F_s_l3Node s n⟩], []⟩, [], false, 0⟩
theorem ok_s_l3Node : ConOk pg 223 con_s_l3Node := ConOk.g2 (Enters.of (by kernel_rfl)) ct_s_l3Node

def F_s_l5Node (s : (List ((List Int) × (Int) × Unit)) × Unit) (b : Int) : Int := nodeOf b
def F_s_l5Node_1 (s : (List ((List Int) × (Int) × Unit)) × Unit) (b : Int) : Bool := okB s b
def Q_s_l5Node (s : (List ((List Int) × (Int) × Unit)) × Unit) (b : Int) : Prop := True
def O_s_l5Node : Opt := ⟨fun i => false, fun i => [], fun i => .done, fun i => none, fun i => false, fun i => [], fun i => false, fun i => none⟩
def τ_s_l5Node : Env := Env.of [(2, (.int .i64)), (4, .bool), (5, (.int .u8))] [(113, (.pair (.sl (.pair .str (.pair (.int .i64) .unit))) .unit))] []

theorem ct_s_l5Node (s : (List ((List Int) × (Int) × Unit)) × Unit) (b : Int) : Ct pg 188 [.dptr (.pair (.sl (.pair .str (.pair (.int .i64) .unit))) .unit) s, .dat (.int .u8) b] ⟨[Q_s_l5Node s b], [⟨(.int .i64), .sh, F_s_l5Node s b⟩, ⟨.bool, .sh, F_s_l5Node_1 s b⟩], []⟩ := by
  refine ct_claim (O := O_s_l5Node) (τ := τ_s_l5Node) (EnvOk.of (by kernel_rfl) (by kernel_rfl)) (GOk.of (.cons ok_s_l2Symbol (.cons ok_s_l3Node .nil) : AllOk pg [(222, con_s_l2Symbol), (223, con_s_l3Node)])) mixed (Enters.of (by kernel_rfl)) (fn := Go.Proofs.Tryz.f188) (by kernel_rfl) rfl (by kernel_rfl) ?_
  intro hp hw
  have hq : Q_s_l5Node s b := hp _ (List.mem_singleton.2 rfl)
  clear hp
  change claim Lg.std Alg.std τ_s_l5Node (Gam.of [(222, ⟨true, g2 (pP (.pair (.sl (.pair .str (.pair (.int .i64) .unit))) .unit)) (pD (.int .i64)) fun s n => .one ⟨[Q_s_l2Symbol s n], [⟨.bool, .sh, F_s_l2Symbol s n⟩], []⟩, [], false, 0⟩), (223, ⟨true, g2 (pP (.pair (.sl (.pair .str (.pair (.int .i64) .unit))) .unit)) (pD (.int .i64)) fun s n => .one ⟨[Q_s_l3Node s n], [⟨.bool, .sh, F_s_l3Node s n⟩], []⟩, [], false, 0⟩)]) O_s_l5Node Go.Proofs.Tryz.f188 [.dptr (.pair (.sl (.pair .str (.pair (.int .i64) .unit))) .unit) s, .dat (.int .u8) b] ⟨[Q_s_l5Node s b], [⟨(.int .i64), .sh, F_s_l5Node s b⟩, ⟨.bool, .sh, F_s_l5Node_1 s b⟩], []⟩
  generalize hg_F_s_l2Symbol : F_s_l2Symbol = g_F_s_l2Symbol
  generalize hg_Q_s_l2Symbol : Q_s_l2Symbol = g_Q_s_l2Symbol
  generalize hg_F_s_l3Node : F_s_l3Node = g_F_s_l3Node
  generalize hg_Q_s_l3Node : Q_s_l3Node = g_Q_s_l3Node
  generalize hR0 : F_s_l5Node s b = R0
  generalize hR1 : F_s_l5Node_1 s b = R1
  generalize Q_s_l5Node s b = Q0
  generalize hL : Lg.std = L
  generalize hA : Alg.std = A
  cbv
  subst hL hA
  try dsimp only [Ty.den]
  have hb : 0 ≤ b ∧ b ≤ 255 := u8s (a := [b]) (fun x hx => by rw [List.mem_singleton.1 hx]; exact hw.2.1) b (by simp)
  subst hR0 hR1 hg_F_s_l2Symbol hg_Q_s_l2Symbol hg_F_s_l3Node hg_Q_s_l3Node
  simp only [Lg.std, Alg.std, List.drop_zero, List.take_length, F_s_l2Symbol, F_s_l3Node, Q_s_l2Symbol, Q_s_l3Node, F_s_l5Node, F_s_l5Node_1, nodeOf, okB] at *
  all_goals grind
def con_s_l5Node : Con := ⟨true, g2 (pP (.pair (.sl (.pair .str (.pair (.int .i64) .unit))) .unit)) (pD (.int .u8)) fun s b => .one ⟨[Q_s_l5Node s b], [⟨(.int .i64), .sh, F_s_l5Node s b⟩, ⟨.bool, .sh, F_s_l5Node_1 s b⟩], []⟩, [], false, 0⟩
theorem ok_s_l5Node : ConOk pg 188 con_s_l5Node := ConOk.g2 (Enters.of (by kernel_rfl)) ct_s_l5Node

def F_i_byteReader_term (r : (List (Int)) × (Bool) × Unit) (s : (List ((List Int) × (Int) × Unit)) × Unit) : List (Int) := (termRd s r).1
def B_i_byteReader_term_r (r : (List (Int)) × (Bool) × Unit) (s : (List ((List Int) × (Int) × Unit)) × Unit) : (List (Int)) × (Bool) × Unit := (termRd s r).2
def Q_i_byteReader_term (r : (List (Int)) × (Bool) × Unit) (s : (List ((List Int) × (Int) × Unit)) × Unit) : Prop := sigFault s = 0
def O_i_byteReader_term : Opt := ⟨fun i => false, fun i => (match decide (i = 3) with | true => [true, false, false, true, false, true, true, false, false, false, false, false, false, false, false, false, false, false, false, false, false, false, false, false, false, false, false, false, false, false, false, false, false, false, false, false, false, false, false, false, false, false, false, false, false, false, false, false, false, false, false, false, false, false] | false => []), fun i => .done, fun i => none, fun i => (match decide (i = 3) with | true => true | false => false), fun i => [], fun i => false, fun i => none⟩
def τ_i_byteReader_term : Env := Env.of [(2, (.int .i64)), (3, (.int .i64)), (4, .bool), (30, (.pair (.sl (.pair .str (.pair (.int .i64) .unit))) .unit)), (62, (.sl (.int .i64))), (117, (.pair (.sl (.int .u8)) (.pair .bool .unit)))] [(115, (.pair (.sl (.int .u8)) (.pair .bool .unit)))] []

theorem ct_i_byteReader_term (r : (List (Int)) × (Bool) × Unit) (s : (List ((List Int) × (Int) × Unit)) × Unit) : Ct pg 135 [.mp (.pair (.sl (.int .u8)) (.pair .bool .unit)) .sh r, .dat (.pair (.sl (.pair .str (.pair (.int .i64) .unit))) .unit) s] ⟨[Q_i_byteReader_term r s], [⟨(.sl (.int .i64)), (.ow .sh), F_i_byteReader_term r s⟩], [.mp (.pair (.sl (.int .u8)) (.pair .bool .unit)) .sh (B_i_byteReader_term_r r s)]⟩ := by
  refine ct_claim (O := O_i_byteReader_term) (τ := τ_i_byteReader_term) (EnvOk.of (by kernel_rfl) (by kernel_rfl)) (GOk.of (.cons ok_i_byteReader_one (.cons ok_i_isNode (.cons ok_i_arityOf .nil)) : AllOk pg [(95, con_i_byteReader_one), (194, con_i_isNode), (195, con_i_arityOf)])) mixed (Enters.of (by kernel_rfl)) (fn := Go.Proofs.Tryz.f135) (by kernel_rfl) rfl (by kernel_rfl) ?_
  intro hp hw
  have hq : Q_i_byteReader_term r s := hp _ (List.mem_singleton.2 rfl)
  clear hp
  change claim Lg.std Alg.std τ_i_byteReader_term (Gam.of [(95, ⟨true, g1 (pW (.pair (.sl (.int .u8)) (.pair .bool .unit)) .sh) fun r => .one ⟨[Q_i_byteReader_one r], [⟨(.int .i64), .sh, F_i_byteReader_one r⟩], [.mp (.pair (.sl (.int .u8)) (.pair .bool .unit)) .sh (B_i_byteReader_one_r r)]⟩, [.sh], false, 0⟩), (194, ⟨true, g2 (pD (.pair (.sl (.pair .str (.pair (.int .i64) .unit))) .unit)) (pD (.int .i64)) fun s n => .one ⟨[Q_i_isNode s n], [⟨.bool, .sh, F_i_isNode s n⟩], []⟩, [], false, 0⟩), (195, ⟨true, g2 (pD (.pair (.sl (.pair .str (.pair (.int .i64) .unit))) .unit)) (pD (.int .i64)) fun s n => .one ⟨[Q_i_arityOf s n], [⟨(.int .i64), .sh, F_i_arityOf s n⟩], []⟩, [], false, 0⟩)]) O_i_byteReader_term Go.Proofs.Tryz.f135 [.mp (.pair (.sl (.int .u8)) (.pair .bool .unit)) .sh r, .dat (.pair (.sl (.pair .str (.pair (.int .i64) .unit))) .unit) s] ⟨[Q_i_byteReader_term r s], [⟨(.sl (.int .i64)), (.ow .sh), F_i_byteReader_term r s⟩], [.mp (.pair (.sl (.int .u8)) (.pair .bool .unit)) .sh (B_i_byteReader_term_r r s)]⟩
  generalize hg_F_i_byteReader_one : F_i_byteReader_one = g_F_i_byteReader_one
  generalize hg_B_i_byteReader_one_r : B_i_byteReader_one_r = g_B_i_byteReader_one_r
  generalize hg_Q_i_byteReader_one : Q_i_byteReader_one = g_Q_i_byteReader_one
  generalize hg_F_i_isNode : F_i_isNode = g_F_i_isNode
  generalize hg_Q_i_isNode : Q_i_isNode = g_Q_i_isNode
  generalize hg_F_i_arityOf : F_i_arityOf = g_F_i_arityOf
  generalize hg_Q_i_arityOf : Q_i_arityOf = g_Q_i_arityOf
  generalize hR0 : F_i_byteReader_term r s = R0
  generalize hB_r : B_i_byteReader_term_r r s = B_r
  generalize Q_i_byteReader_term r s = Q0
  generalize hL : Lg.std = L
  generalize hA : Alg.std = A
  cbv
  subst hL hA
  try dsimp only [Ty.den]
  obtain ⟨r_0, r_1, ⟨⟩⟩ := r
  obtain ⟨s_0, ⟨⟩⟩ := s
  simp only [Q_i_byteReader_term] at hq
  have hby := u8s hw.1.1.2
  refine lp_v (V := (Nat) × (Int) × (List Int) × (Bool) × (Nat) × (List Int)) (fun ((g, o, x, f, N, out) : (Nat) × (Int) × (List Int) × (Bool) × (Nat) × (List Int)) => ⟨[.bptr 0 0, .junk, .junk, .bptr 1 0, .junk, .ref (.int .i64) 2 0 [] 0 N, .dat (.int .i64) o, .junk, .junk, .junk, .junk, .junk, .junk, .junk, .junk, .junk, .junk, .junk, .junk, .junk, .junk, .junk, .junk, .junk, .junk, .junk, .junk, .junk, .junk, .junk, .junk, .junk, .junk, .junk, .junk, .junk, .junk, .junk, .junk, .junk, .junk, .junk, .junk, .junk, .junk, .junk, .junk, .junk, .junk, .junk, .junk, .junk, .junk, .junk], [some (.box [.dat (.sl (.int .u8)) x, .dat .bool f]), some (.box [.dat (.sl (.pair .str (.pair (.int .i64) .unit))) s_0]), some (.row 0 (.int .i64) .sh out), some (.gh [.bptr 0 0])]⟩) (fun ((g, o, x, f, N, out) : (Nat) × (Int) × (List Int) × (Bool) × (Nat) × (List Int)) => sigFault (s_0, PUnit.unit) = 0 ∧ N = out.length ∧ out.length ≤ 24 ∧ g + out.length = 26 ∧ 0 ≤ o ∧ o ≤ 1 + out.length ∧ (∀ y ∈ x, 0 ≤ y ∧ y ≤ 255) ∧ tL (s_0, PUnit.unit) g o (x, f, ()) out = termRd (s_0, PUnit.unit) (r_0, r_1, ())) (fun ((g, o, x, f, N, out) : (Nat) × (Int) × (List Int) × (Bool) × (Nat) × (List Int)) => g) (26, 1, _, _, _, _) rfl ?_ ?_
  · (subst hR0 hB_r hg_F_i_byteReader_one hg_B_i_byteReader_one_r hg_Q_i_byteReader_one hg_F_i_isNode hg_Q_i_isNode hg_F_i_arityOf hg_Q_i_arityOf; simp only [Alg.std] at *; exact ⟨hq, rfl, by simp, by simp, by simp, by simp, hby, rfl⟩)
  rintro ⟨g, o, x, f, N, out⟩ hf I hI
  replace hf : sigFault (s_0, PUnit.unit) = 0 ∧ N = out.length ∧ out.length ≤ 24 ∧ g + out.length = 26 ∧ 0 ≤ o ∧ o ≤ 1 + out.length ∧ (∀ y ∈ x, 0 ≤ y ∧ y ≤ 255) ∧ tL (s_0, PUnit.unit) g o (x, f, ()) out = termRd (s_0, PUnit.unit) (r_0, r_1, ()) := hf
  generalize hL : Lg.std = L
  generalize hA : Alg.std = A
  cbv
  subst hL hA
  try dsimp only [Ty.den]
  subst hI
  generalize g1 : g_B_i_byteReader_one_r (x, f, PUnit.unit) = r1 at *
  obtain ⟨x1, f1, ⟨⟩⟩ := r1
  try dsimp only
  have by1 := rdOne_byte x f hf.2.2.2.2.2.2.1
  have by2 := fun (e : rdNext (x, f, ()) 1 = (x1, f1, ())) => rdNext_bytes x f 1 x1 f1 e hf.2.2.2.2.2.2.1
  have st := tL_step (s_0, PUnit.unit) g o (x, f, ()) out (by have := hf.2.2.1; have := hf.2.2.2.1; omega)
  have ha := ar_rng (s_0, PUnit.unit) hf.1 (nodeOf (rdOne (x, f, ())))
  have hn : nodeB (s_0, PUnit.unit) (nodeOf (rdOne (x, f, ()))) = true → nodeOf (rdOne (x, f, ())) < s_0.length := fun h => by simp only [nodeB, isSym, Bool.or_eq_true, decide_eq_true_eq] at h; omega
  have hno : nodeOf (rdOne (x, f, ())) = if rdOne (x, f, ()) < 32 then rdOne (x, f, ()) - 1 else 31 - rdOne (x, f, ()) := rfl
  obtain ⟨h1, h2, h3, h4, h5, h6, h7, h8⟩ := hf
  repeat' (first | intro _ | apply And.intro)
  all_goals first | (with_reducible exact True.intro) | ((fail_if_success (refine lp_v (V := Unit) (fun _ => ⟨[], []⟩) (fun _ => True) (fun _ => 0) () ?_ ?_ ?_)); (try simp only [Lg.std, Alg.std, List.drop_zero, List.take_length] at *); (try refine ⟨(g - 1, _, _, _, _, _), rfl, ?_, ?_⟩); (all_goals (subst hR0 hB_r hg_F_i_byteReader_one hg_B_i_byteReader_one_r hg_Q_i_byteReader_one hg_F_i_isNode hg_Q_i_isNode hg_F_i_arityOf hg_Q_i_arityOf; (try simp only [Lg.std, Alg.std, List.drop_zero, List.take_length, F_i_byteReader_one, F_i_isNode, F_i_arityOf, B_i_byteReader_one_r, Q_i_byteReader_one, Q_i_isNode, Q_i_arityOf, F_i_byteReader_term, B_i_byteReader_term_r] at *); first | done | ((try simp only [g1, decide_eq_true_eq, decide_eq_false_iff_not, Bool.not_eq_eq_eq_not, Bool.not_true, Bool.not_false] at *); grind)))) | skip
def con_i_byteReader_term : Con := ⟨true, g2 (pW (.pair (.sl (.int .u8)) (.pair .bool .unit)) .sh) (pD (.pair (.sl (.pair .str (.pair (.int .i64) .unit))) .unit)) fun r s => .one ⟨[Q_i_byteReader_term r s], [⟨(.sl (.int .i64)), (.ow .sh), F_i_byteReader_term r s⟩], [.mp (.pair (.sl (.int .u8)) (.pair .bool .unit)) .sh (B_i_byteReader_term_r r s)]⟩, [.sh], false, 0⟩
theorem ok_i_byteReader_term : ConOk pg 135 con_i_byteReader_term := ConOk.g2 (Enters.of (by kernel_rfl)) ct_i_byteReader_term

def F_s_l3End (s : (List ((List Int) × (Int) × Unit)) × Unit) (t : List (Int)) (a : Int) : Int := endP s t a
def Q_s_l3End (s : (List ((List Int) × (Int) × Unit)) × Unit) (t : List (Int)) (a : Int) : Prop := sigFault s = 0 ∧ allN s t ∧ 0 ≤ a ∧ t.length ≤ 1048576
def O_s_l3End : Opt := ⟨fun i => (match decide (i = 7) with | true => true | false => false), fun i => (match decide (i = 7) with | true => [true, true, true, false, false, false, false, true, true, false, false, false, false, false, false, false, false, false, false, false, false, false, false, false, false, false, false, false, false, false, false, false, false, false, false, false, false, false, false, false, false, false, false, false] | false => []), fun i => .done, fun i => none, fun i => false, fun i => [], fun i => false, fun i => none⟩
def τ_s_l3End : Env := Env.of [(2, (.int .i64)), (3, (.int .i64)), (4, .bool), (28, (.sl (.pair .str (.pair (.int .i64) .unit)))), (30, (.pair (.sl (.pair .str (.pair (.int .i64) .unit))) .unit)), (62, (.sl (.int .i64))), (175, (.pair .str (.pair (.int .i64) .unit)))] [(113, (.pair (.sl (.pair .str (.pair (.int .i64) .unit))) .unit))] []

def Qr_s_l3End (n : Nat) (s : (List ((List Int) × (Int) × Unit)) × Unit) (t : List (Int)) (a : Int) : Prop := Q_s_l3End s t a ∧ (t.length - a.toNat) < n
def conr_s_l3End (n : Nat) : Con := ⟨true, g3 (pP (.pair (.sl (.pair .str (.pair (.int .i64) .unit))) .unit)) (pD (.sl (.int .i64))) (pD (.int .i64)) fun s t a => .one ⟨[Qr_s_l3End n s t a], [⟨(.int .i64), .sh, F_s_l3End s t a⟩], []⟩, [], false, 0⟩
theorem ctr_s_l3End (n : Nat) : ∀ (s : (List ((List Int) × (Int) × Unit)) × Unit) (t : List (Int)) (a : Int), Ct pg 224 [.dptr (.pair (.sl (.pair .str (.pair (.int .i64) .unit))) .unit) s, .dat (.sl (.int .i64)) t, .dat (.int .i64) a] ⟨[Qr_s_l3End n s t a], [⟨(.int .i64), .sh, F_s_l3End s t a⟩], []⟩ := by
  induction n with
  | zero => exact fun s t a => Ct.never (fun hp => Nat.not_lt_zero _ (hp _ (List.mem_singleton.2 rfl)).2)
  | succ n ih =>
    have okr : ConOk pg 224 (conr_s_l3End n) := ConOk.g3 (Enters.of (by kernel_rfl)) ih
    intro s t a
    refine ct_claim (O := O_s_l3End) (τ := τ_s_l3End) (EnvOk.of (by kernel_rfl) (by kernel_rfl)) (GOk.of (.cons okr .nil : AllOk pg [(224, conr_s_l3End n)])) mixed (Enters.of (by kernel_rfl)) (fn := Go.Proofs.Tryz.f224) (by kernel_rfl) rfl (by kernel_rfl) ?_
    intro hp hw
    clear okr ih
    have hq : (Qr_s_l3End (n + 1)) s t a := hp _ (List.mem_singleton.2 rfl)
    clear hp
    change claim Lg.std Alg.std τ_s_l3End (Gam.of [(224, ⟨true, g3 (pP (.pair (.sl (.pair .str (.pair (.int .i64) .unit))) .unit)) (pD (.sl (.int .i64))) (pD (.int .i64)) fun s t a => .one ⟨[Qr_s_l3End n s t a], [⟨(.int .i64), .sh, F_s_l3End s t a⟩], []⟩, [], false, 0⟩)]) O_s_l3End Go.Proofs.Tryz.f224 [.dptr (.pair (.sl (.pair .str (.pair (.int .i64) .unit))) .unit) s, .dat (.sl (.int .i64)) t, .dat (.int .i64) a] ⟨[Qr_s_l3End (n + 1) s t a], [⟨(.int .i64), .sh, F_s_l3End s t a⟩], []⟩
    generalize hR0 : F_s_l3End s t a = R0
    generalize (Qr_s_l3End (n + 1)) s t a = Q0
    generalize hg_F_s_l3End : F_s_l3End = g_F_s_l3End
    generalize hg_Qr_s_l3End : Qr_s_l3End n = g_Qr_s_l3End
    generalize hL : Lg.std = L
    generalize hA : Alg.std = A
    cbv
    subst hL hA
    try dsimp only [Ty.den]
    obtain ⟨s_0, ⟨⟩⟩ := s
    simp only [Qr_s_l3End, Q_s_l3End] at hq
    obtain ⟨⟨hqs, hqt, hk0, hql⟩, hqm⟩ := hq
    have key : a < t.length → (t.getD a.toNat 0 < s_0.length ∧ 0 ≤ ar (s_0, PUnit.unit) (t.getD a.toNat 0) ∧ ar (s_0, PUnit.unit) (t.getD a.toNat 0) ≤ 2 ∧ (0 ≤ t.getD a.toNat 0 → ar (s_0, PUnit.unit) (t.getD a.toNat 0) = (s_0.getD (t.getD a.toNat 0).toNat ([], 0, PUnit.unit)).2.1)) := fun h => by
      have hn := hqt _ (getD_mem t 0 a.toNat (by omega))
      have hr := ar_rng _ hqs _ hn
      simp only [nodeB, isSym, Bool.or_eq_true, decide_eq_true_eq] at hn
      have hs1 := (sig_good _ hqs).1
      dsimp only at hs1
      exact ⟨by omega, hr.1, hr.2, fun h => by unfold ar; rw [if_neg (by omega)]⟩
    have w1 := endP_ge (s_0, PUnit.unit) t a
    have w2 := endP_var (s_0, PUnit.unit) t a hk0
    repeat' (first | intro _ | apply And.intro)
    all_goals first | trivial | ((fail_if_success (refine lp_v (V := Unit) (fun _ => ⟨[], []⟩) (fun _ => True) (fun _ => 0) () ?_ ?_ ?_)); subst hR0 hg_F_s_l3End hg_Qr_s_l3End; (try simp only [Alg.std, F_s_l3End, Qr_s_l3End, Q_s_l3End] at *); all_goals grind) | skip
    all_goals (
      refine lp_v (V := (Int) × (Int)) (fun ((i, e) : (Int) × (Int)) => ⟨[.dptr (.pair (.sl (.pair .str (.pair (.int .i64) .unit))) .unit) (s_0, PUnit.unit), .dat (.sl (.int .i64)) t, .dat (.int .i64) a, .junk, .junk, .junk, .junk, .dat (.int .i64) e, .dat (.int .i64) i, .junk, .junk, .junk, .junk, .junk, .junk, .junk, .junk, .junk, .junk, .junk, .junk, .junk, .junk, .junk, .junk, .junk, .junk, .junk, .junk, .junk, .junk, .junk, .junk, .junk, .junk, .junk, .junk, .junk, .junk, .junk, .junk, .junk, .junk, .junk], []⟩) (fun ((i, e) : (Int) × (Int)) => a < t.length ∧ 0 ≤ t.getD a.toNat 0 ∧ 0 ≤ i ∧ i ≤ ar (s_0, PUnit.unit) (t.getD a.toNat 0) ∧ a + 1 ≤ e ∧ e ≤ t.length ∧ skp (s_0, PUnit.unit) (ar (s_0, PUnit.unit) (t.getD a.toNat 0) - i).toNat (t.drop e.toNat) = skp (s_0, PUnit.unit) (ar (s_0, PUnit.unit) (t.getD a.toNat 0)).toNat (t.drop (a.toNat + 1))) (fun ((i, e) : (Int) × (Int)) => (ar (s_0, PUnit.unit) (t.getD a.toNat 0) - i).toNat) (0, _) rfl ?_ ?_
      · (subst hR0 hg_F_s_l3End hg_Qr_s_l3End; simp only [Alg.std, decide_eq_true_eq, decide_eq_false_iff_not] at *; have ea : (a + 1).toNat = a.toNat + 1 := (by omega); have key := key (by omega); refine ⟨by omega, by omega, by omega, by omega, by omega, by omega, ?_⟩; rw [ea, Int.sub_zero])
      rintro ⟨i, e⟩ hf I hI
      replace hf : a < t.length ∧ 0 ≤ t.getD a.toNat 0 ∧ 0 ≤ i ∧ i ≤ ar (s_0, PUnit.unit) (t.getD a.toNat 0) ∧ a + 1 ≤ e ∧ e ≤ t.length ∧ skp (s_0, PUnit.unit) (ar (s_0, PUnit.unit) (t.getD a.toNat 0) - i).toNat (t.drop e.toNat) = skp (s_0, PUnit.unit) (ar (s_0, PUnit.unit) (t.getD a.toNat 0)).toNat (t.drop (a.toNat + 1)) := hf
      generalize hL : Lg.std = L
      generalize hA : Alg.std = A
      cbv
      subst hL hA
      try dsimp only [Ty.den]
      subst hI
      obtain ⟨h1, h2, h3, h4, h5, h6, h7⟩ := hf
      have rr := fun (hik : i < ar (s_0, PUnit.unit) (t.getD a.toNat 0)) => endP_round (s_0, PUnit.unit) t a e _ i hk0 h1 rfl ⟨h3, hik⟩ ⟨h5, h6⟩ h7
      have dd := fun (hik : ¬ i < ar (s_0, PUnit.unit) (t.getD a.toNat 0)) => endP_done (s_0, PUnit.unit) t a e _ hk0 h1 rfl ⟨h5, h6⟩ ((show (ar (s_0, PUnit.unit) (t.getD a.toNat 0) - i).toNat = 0 by omega) ▸ h7)
      have ec := endP_cases (s_0, PUnit.unit) t e (by omega) h6
      replace key := key h1
      repeat' (first | intro _ | apply And.intro)
      all_goals first | (with_reducible exact True.intro) | ((fail_if_success (refine lp_v (V := Unit) (fun _ => ⟨[], []⟩) (fun _ => True) (fun _ => 0) () ?_ ?_ ?_)); (try simp only [Lg.std, Alg.std, List.drop_zero, List.take_length] at *); (try refine ⟨(_, _), rfl, ?_, ?_⟩); (all_goals (subst hR0 hg_F_s_l3End hg_Qr_s_l3End; (try simp only [Lg.std, Alg.std, List.drop_zero, List.take_length, F_s_l3End, Qr_s_l3End, Q_s_l3End] at *); first | done | (grind)))) | skip)
theorem ct_s_l3End (s : (List ((List Int) × (Int) × Unit)) × Unit) (t : List (Int)) (a : Int) : Ct pg 224 [.dptr (.pair (.sl (.pair .str (.pair (.int .i64) .unit))) .unit) s, .dat (.sl (.int .i64)) t, .dat (.int .i64) a] ⟨[Q_s_l3End s t a], [⟨(.int .i64), .sh, F_s_l3End s t a⟩], []⟩ := (ctr_s_l3End ((t.length - a.toNat) + 1) s t a).pre (fun h p hp => by rw [List.mem_singleton.1 hp]; exact ⟨h _ (List.mem_singleton.2 rfl), Nat.lt_succ_self _⟩)
def con_s_l3End : Con := ⟨true, g3 (pP (.pair (.sl (.pair .str (.pair (.int .i64) .unit))) .unit)) (pD (.sl (.int .i64))) (pD (.int .i64)) fun s t a => .one ⟨[Q_s_l3End s t a], [⟨(.int .i64), .sh, F_s_l3End s t a⟩], []⟩, [], false, 0⟩
theorem ok_s_l3End : ConOk pg 224 con_s_l3End := ConOk.g3 (Enters.of (by kernel_rfl)) ct_s_l3End

def F_s_l3Fault (s : (List ((List Int) × (Int) × Unit)) × Unit) (t : List (Int)) : Int := l3F s t
def Q_s_l3Fault (s : (List ((List Int) × (Int) × Unit)) × Unit) (t : List (Int)) : Prop := sigFault s = 0
def O_s_l3Fault : Opt := ⟨fun i => false, fun i => (match decide (i = 4) with | true => [true, true, false, false, false, true, false, false, false, false, false, false, false, false, false, false, false, false, false, false, false, false, false, false, false, false, false, false, false, false, false, false, false] | false => []), fun i => .done, fun i => none, fun i => false, fun i => [], fun i => false, fun i => none⟩
def τ_s_l3Fault : Env := Env.of [(2, (.int .i64)), (3, (.int .i64)), (4, .bool), (62, (.sl (.int .i64)))] [(113, (.pair (.sl (.pair .str (.pair (.int .i64) .unit))) .unit))] []

theorem ct_s_l3Fault (s : (List ((List Int) × (Int) × Unit)) × Unit) (t : List (Int)) : Ct pg 189 [.dptr (.pair (.sl (.pair .str (.pair (.int .i64) .unit))) .unit) s, .dat (.sl (.int .i64)) t] ⟨[Q_s_l3Fault s t], [⟨(.int .i64), .sh, F_s_l3Fault s t⟩], []⟩ := by
  refine ct_claim (O := O_s_l3Fault) (τ := τ_s_l3Fault) (EnvOk.of (by kernel_rfl) (by kernel_rfl)) (GOk.of (.cons ok_s_l3Node (.cons ok_s_l3End .nil) : AllOk pg [(223, con_s_l3Node), (224, con_s_l3End)])) mixed (Enters.of (by kernel_rfl)) (fn := Go.Proofs.Tryz.f189) (by kernel_rfl) rfl (by kernel_rfl) ?_
  intro hp hw
  have hq : Q_s_l3Fault s t := hp _ (List.mem_singleton.2 rfl)
  clear hp
  change claim Lg.std Alg.std τ_s_l3Fault (Gam.of [(223, ⟨true, g2 (pP (.pair (.sl (.pair .str (.pair (.int .i64) .unit))) .unit)) (pD (.int .i64)) fun s n => .one ⟨[Q_s_l3Node s n], [⟨.bool, .sh, F_s_l3Node s n⟩], []⟩, [], false, 0⟩), (224, ⟨true, g3 (pP (.pair (.sl (.pair .str (.pair (.int .i64) .unit))) .unit)) (pD (.sl (.int .i64))) (pD (.int .i64)) fun s t a => .one ⟨[Q_s_l3End s t a], [⟨(.int .i64), .sh, F_s_l3End s t a⟩], []⟩, [], false, 0⟩)]) O_s_l3Fault Go.Proofs.Tryz.f189 [.dptr (.pair (.sl (.pair .str (.pair (.int .i64) .unit))) .unit) s, .dat (.sl (.int .i64)) t] ⟨[Q_s_l3Fault s t], [⟨(.int .i64), .sh, F_s_l3Fault s t⟩], []⟩
  generalize hg_F_s_l3Node : F_s_l3Node = g_F_s_l3Node
  generalize hg_Q_s_l3Node : Q_s_l3Node = g_Q_s_l3Node
  generalize hg_F_s_l3End : F_s_l3End = g_F_s_l3End
  generalize hg_Q_s_l3End : Q_s_l3End = g_Q_s_l3End
  generalize hR0 : F_s_l3Fault s t = R0
  generalize Q_s_l3Fault s t = Q0
  generalize hL : Lg.std = L
  generalize hA : Alg.std = A
  cbv
  subst hL hA
  try dsimp only [Ty.den]
  obtain ⟨s_0, ⟨⟩⟩ := s
  simp only [Q_s_l3Fault] at hq
  have a2 := l3F_2 (s_0, PUnit.unit) t
  have a3 := l3F_3 (s_0, PUnit.unit) t
  have ar3 := l3F_r (s_0, PUnit.unit) t
  have an := all_allN (s_0, PUnit.unit) t
  repeat' (first | intro _ | apply And.intro)
  all_goals first | trivial | ((fail_if_success (refine lp_v (V := Unit) (fun _ => ⟨[], []⟩) (fun _ => True) (fun _ => 0) () ?_ ?_ ?_)); subst hR0 hg_F_s_l3Node hg_Q_s_l3Node hg_F_s_l3End hg_Q_s_l3End; (try simp only [Alg.std, F_s_l3Node, F_s_l3End, Q_s_l3Node, Q_s_l3End, F_s_l3Fault] at *); all_goals grind) | skip
  all_goals (
    refine lp_v (V := (Int)) (fun (i : Int) => ⟨[.dptr (.pair (.sl (.pair .str (.pair (.int .i64) .unit))) .unit) (s_0, PUnit.unit), .dat (.sl (.int .i64)) t, .junk, .junk, .junk, .dat (.int .i64) i, .junk, .junk, .junk, .junk, .junk, .junk, .junk, .junk, .junk, .junk, .junk, .junk, .junk, .junk, .junk, .junk, .junk, .junk, .junk, .junk, .junk, .junk, .junk, .junk, .junk, .junk, .junk], []⟩) (fun (i : Int) => ¬ (t.length < 1 ∨ t.length > 24) ∧ 0 ≤ i ∧ i ≤ t.length ∧ t.all (nodeB (s_0, PUnit.unit)) = (t.drop i.toNat).all (nodeB (s_0, PUnit.unit))) (fun (i : Int) => t.length - i.toNat) (0) rfl ?_ ?_
    · (subst hR0 hg_F_s_l3Node hg_Q_s_l3Node hg_F_s_l3End hg_Q_s_l3End; simp only [Alg.std, decide_eq_true_eq, decide_eq_false_iff_not] at *; refine ⟨by omega, by omega, by omega, rfl⟩)
    rintro i hf I hI
    replace hf : ¬ (t.length < 1 ∨ t.length > 24) ∧ 0 ≤ i ∧ i ≤ t.length ∧ t.all (nodeB (s_0, PUnit.unit)) = (t.drop i.toNat).all (nodeB (s_0, PUnit.unit)) := hf
    generalize hL : Lg.std = L
    generalize hA : Alg.std = A
    cbv
    subst hL hA
    try dsimp only [Ty.den]
    subst hI
    obtain ⟨h1, h2, h3, h4⟩ := hf
    have st := fun (h : i.toNat < t.length) => allp_step (nodeB (s_0, PUnit.unit)) t i.toNat h
    have es : (i + 1).toNat = i.toNat + 1 := by omega
    have en := fun (h : t.length ≤ i.toNat) => (by rw [List.drop_of_length_le h]; rfl : (t.drop i.toNat).all (nodeB (s_0, PUnit.unit)) = true)
    repeat' (first | intro _ | apply And.intro)
    all_goals first | (with_reducible exact True.intro) | ((fail_if_success (refine lp_v (V := Unit) (fun _ => ⟨[], []⟩) (fun _ => True) (fun _ => 0) () ?_ ?_ ?_)); (try simp only [Lg.std, Alg.std, List.drop_zero, List.take_length] at *); (try refine ⟨_, rfl, ?_, ?_⟩); (all_goals (subst hR0 hg_F_s_l3Node hg_Q_s_l3Node hg_F_s_l3End hg_Q_s_l3End; (try simp only [Lg.std, Alg.std, List.drop_zero, List.take_length, F_s_l3Node, F_s_l3End, Q_s_l3Node, Q_s_l3End, F_s_l3Fault] at *); first | done | (grind)))) | skip)
def con_s_l3Fault : Con := ⟨true, g2 (pP (.pair (.sl (.pair .str (.pair (.int .i64) .unit))) .unit)) (pD (.sl (.int .i64))) fun s t => .one ⟨[Q_s_l3Fault s t], [⟨(.int .i64), .sh, F_s_l3Fault s t⟩], []⟩, [], false, 0⟩
theorem ok_s_l3Fault : ConOk pg 189 con_s_l3Fault := ConOk.g2 (Enters.of (by kernel_rfl)) ct_s_l3Fault

def F_s_l5Read (s : (List ((List Int) × (Int) × Unit)) × Unit) (d : List (Int)) : List (Int) := l5R s d
def Q_s_l5Read (s : (List ((List Int) × (Int) × Unit)) × Unit) (d : List (Int)) : Prop := sigFault s = 0
def O_s_l5Read : Opt := ⟨fun i => false, fun i => (match decide (i = 3) with | true => [true, true, false, false, false, true, true, false, false, false, false, false, false, false, false, false, false, false, false, false, false, false, false, false, false, false, false, false, false, false, false, false, false, false, false, false, false, false, false, false] | false => []), fun i => .done, fun i => none, fun i => false, fun i => [], fun i => false, fun i => none⟩
def τ_s_l5Read : Env := Env.of [(2, (.int .i64)), (3, (.int .i64)), (4, .bool), (5, (.int .u8)), (27, (.sl (.int .u8))), (62, (.sl (.int .i64)))] [(113, (.pair (.sl (.pair .str (.pair (.int .i64) .unit))) .unit))] []

theorem ct_s_l5Read (s : (List ((List Int) × (Int) × Unit)) × Unit) (d : List (Int)) : Ct pg 128 [.dptr (.pair (.sl (.pair .str (.pair (.int .i64) .unit))) .unit) s, .dat (.sl (.int .u8)) d] ⟨[Q_s_l5Read s d], [⟨(.sl (.int .i64)), (.ow .sh), F_s_l5Read s d⟩], []⟩ := by
  refine ct_claim (O := O_s_l5Read) (τ := τ_s_l5Read) (EnvOk.of (by kernel_rfl) (by kernel_rfl)) (GOk.of (.cons ok_s_l5Node (.cons ok_s_l3Fault .nil) : AllOk pg [(188, con_s_l5Node), (189, con_s_l3Fault)])) mixed (Enters.of (by kernel_rfl)) (fn := Go.Proofs.Tryz.f128) (by kernel_rfl) rfl (by kernel_rfl) ?_
  intro hp hw
  have hq : Q_s_l5Read s d := hp _ (List.mem_singleton.2 rfl)
  clear hp
  change claim Lg.std Alg.std τ_s_l5Read (Gam.of [(188, ⟨true, g2 (pP (.pair (.sl (.pair .str (.pair (.int .i64) .unit))) .unit)) (pD (.int .u8)) fun s b => .one ⟨[Q_s_l5Node s b], [⟨(.int .i64), .sh, F_s_l5Node s b⟩, ⟨.bool, .sh, F_s_l5Node_1 s b⟩], []⟩, [], false, 0⟩), (189, ⟨true, g2 (pP (.pair (.sl (.pair .str (.pair (.int .i64) .unit))) .unit)) (pD (.sl (.int .i64))) fun s t => .one ⟨[Q_s_l3Fault s t], [⟨(.int .i64), .sh, F_s_l3Fault s t⟩], []⟩, [], false, 0⟩)]) O_s_l5Read Go.Proofs.Tryz.f128 [.dptr (.pair (.sl (.pair .str (.pair (.int .i64) .unit))) .unit) s, .dat (.sl (.int .u8)) d] ⟨[Q_s_l5Read s d], [⟨(.sl (.int .i64)), (.ow .sh), F_s_l5Read s d⟩], []⟩
  generalize hg_F_s_l5Node : F_s_l5Node = g_F_s_l5Node
  generalize hg_F_s_l5Node_1 : F_s_l5Node_1 = g_F_s_l5Node_1
  generalize hg_Q_s_l5Node : Q_s_l5Node = g_Q_s_l5Node
  generalize hg_F_s_l3Fault : F_s_l3Fault = g_F_s_l3Fault
  generalize hg_Q_s_l3Fault : Q_s_l3Fault = g_Q_s_l3Fault
  generalize hR0 : F_s_l5Read s d = R0
  generalize Q_s_l5Read s d = Q0
  generalize hL : Lg.std = L
  generalize hA : Alg.std = A
  cbv
  subst hL hA
  try dsimp only [Ty.den]
  obtain ⟨s_0, ⟨⟩⟩ := s
  simp only [Q_s_l5Read] at hq
  have hby := u8s hw.2.1.2
  refine lp_v (V := (Int) × (Nat) × (List Int)) (fun ((i, N, out) : (Int) × (Nat) × (List Int)) => ⟨[.dptr (.pair (.sl (.pair .str (.pair (.int .i64) .unit))) .unit) (s_0, PUnit.unit), .dat (.sl (.int .u8)) d, .junk, .junk, .junk, .ref (.int .i64) 0 0 [] 0 N, .dat (.int .i64) i, .junk, .junk, .junk, .junk, .junk, .junk, .junk, .junk, .junk, .junk, .junk, .junk, .junk, .junk, .junk, .junk, .junk, .junk, .junk, .junk, .junk, .junk, .junk, .junk, .junk, .junk, .junk, .junk, .junk, .junk, .junk, .junk, .junk], [some (.row 0 (.int .i64) .sh out)]⟩) (fun ((i, N, out) : (Int) × (Nat) × (List Int)) => 0 ≤ i ∧ i ≤ 24 ∧ N = out.length ∧ i.toNat = out.length ∧ l5L (s_0, PUnit.unit) (d.drop i.toNat) out = l5R (s_0, PUnit.unit) d) (fun ((i, N, out) : (Int) × (Nat) × (List Int)) => 24 - i.toNat) (0, _, _) rfl ?_ ?_
  · (subst hR0 hg_F_s_l5Node hg_F_s_l5Node_1 hg_Q_s_l5Node hg_F_s_l3Fault hg_Q_s_l3Fault; simp only [Alg.std] at *; exact ⟨by decide, by decide, rfl, rfl, rfl⟩)
  rintro ⟨i, N, out⟩ hf I hI
  replace hf : 0 ≤ i ∧ i ≤ 24 ∧ N = out.length ∧ i.toNat = out.length ∧ l5L (s_0, PUnit.unit) (d.drop i.toNat) out = l5R (s_0, PUnit.unit) d := hf
  generalize hL : Lg.std = L
  generalize hA : Alg.std = A
  cbv
  subst hL hA
  try dsimp only [Ty.den]
  subst hI
  obtain ⟨h1, h2, h3, h4, h5⟩ := hf
  have st := fun (h : i.toNat < d.length) => l5L_step (s_0, PUnit.unit) d i.toNat out h
  have en := fun (h : d.length ≤ i.toNat) => l5L_end (s_0, PUnit.unit) d i.toNat out h
  have fu := fun (h : 24 ≤ out.length) => l5L_full (s_0, PUnit.unit) (d.drop i.toNat) out h
  have es : (i + 1).toNat = i.toNat + 1 := by omega
  have hla : ∀ y, (out ++ [y]).length = out.length + 1 := by simp
  repeat' (first | intro _ | apply And.intro)
  all_goals first | (with_reducible exact True.intro) | ((fail_if_success (refine lp_v (V := Unit) (fun _ => ⟨[], []⟩) (fun _ => True) (fun _ => 0) () ?_ ?_ ?_)); (try simp only [Lg.std, Alg.std, List.drop_zero, List.take_length] at *); (try refine ⟨(_, _, _), rfl, ?_, ?_⟩); (all_goals (subst hR0 hg_F_s_l5Node hg_F_s_l5Node_1 hg_Q_s_l5Node hg_F_s_l3Fault hg_Q_s_l3Fault; (try simp only [Lg.std, Alg.std, List.drop_zero, List.take_length, F_s_l5Node, F_s_l3Fault, F_s_l5Node_1, Q_s_l5Node, Q_s_l3Fault, F_s_l5Read] at *); first | done | (grind)))) | skip
def con_s_l5Read : Con := ⟨true, g2 (pP (.pair (.sl (.pair .str (.pair (.int .i64) .unit))) .unit)) (pD (.sl (.int .u8))) fun s d => .one ⟨[Q_s_l5Read s d], [⟨(.sl (.int .i64)), (.ow .sh), F_s_l5Read s d⟩], []⟩, [], false, 0⟩
theorem ok_s_l5Read : ConOk pg 128 con_s_l5Read := ConOk.g2 (Enters.of (by kernel_rfl)) ct_s_l5Read

def F_i_TermFault_1 (n : Int) (g : (List ((List Int) × (Int) × Unit)) × Unit) : Bool := !nodeB g n
def Q_i_TermFault_1 (n : Int) (g : (List ((List Int) × (Int) × Unit)) × Unit) : Prop := True
def O_i_TermFault_1 : Opt := ⟨fun i => false, fun i => [], fun i => .done, fun i => none, fun i => false, fun i => [], fun i => false, fun i => none⟩
def τ_i_TermFault_1 : Env := Env.of [(2, (.int .i64)), (3, (.int .i64)), (4, .bool), (30, (.pair (.sl (.pair .str (.pair (.int .i64) .unit))) .unit))] [] []

theorem ct_i_TermFault_1 (n : Int) (g : (List ((List Int) × (Int) × Unit)) × Unit) : Ct pg 255 [.dat (.int .i64) n, .dptr (.pair (.sl (.pair .str (.pair (.int .i64) .unit))) .unit) g] ⟨[Q_i_TermFault_1 n g], [⟨.bool, .sh, F_i_TermFault_1 n g⟩], []⟩ := by
  refine ct_claim (O := O_i_TermFault_1) (τ := τ_i_TermFault_1) (EnvOk.of (by kernel_rfl) (by kernel_rfl)) (GOk.of (.cons ok_i_isNode .nil : AllOk pg [(194, con_i_isNode)])) mixed (Enters.of (by kernel_rfl)) (fn := Go.Proofs.Tryz.f255) (by kernel_rfl) rfl (by kernel_rfl) ?_
  intro hp hw
  have hq : Q_i_TermFault_1 n g := hp _ (List.mem_singleton.2 rfl)
  clear hp
  change claim Lg.std Alg.std τ_i_TermFault_1 (Gam.of [(194, ⟨true, g2 (pD (.pair (.sl (.pair .str (.pair (.int .i64) .unit))) .unit)) (pD (.int .i64)) fun s n => .one ⟨[Q_i_isNode s n], [⟨.bool, .sh, F_i_isNode s n⟩], []⟩, [], false, 0⟩)]) O_i_TermFault_1 Go.Proofs.Tryz.f255 [.dat (.int .i64) n, .dptr (.pair (.sl (.pair .str (.pair (.int .i64) .unit))) .unit) g] ⟨[Q_i_TermFault_1 n g], [⟨.bool, .sh, F_i_TermFault_1 n g⟩], []⟩
  generalize hg_F_i_isNode : F_i_isNode = g_F_i_isNode
  generalize hg_Q_i_isNode : Q_i_isNode = g_Q_i_isNode
  generalize hR0 : F_i_TermFault_1 n g = R0
  generalize Q_i_TermFault_1 n g = Q0
  generalize hL : Lg.std = L
  generalize hA : Alg.std = A
  cbv
  subst hL hA
  try dsimp only [Ty.den]
  subst hR0 hg_F_i_isNode hg_Q_i_isNode
  simp only [Q_i_TermFault_1] at hq
  simp only [Lg.std, Alg.std, List.drop_zero, List.take_length, F_i_isNode, Q_i_isNode, F_i_TermFault_1]
  all_goals grind
def con_i_TermFault_1 : Con := ⟨true, g2 (pD (.int .i64)) (pP (.pair (.sl (.pair .str (.pair (.int .i64) .unit))) .unit)) fun n g => .one ⟨[Q_i_TermFault_1 n g], [⟨.bool, .sh, F_i_TermFault_1 n g⟩], []⟩, [], false, 0⟩
theorem ok_i_TermFault_1 : ConOk pg 255 con_i_TermFault_1 := ConOk.g2 (Enters.of (by kernel_rfl)) ct_i_TermFault_1

def F_sl_IndexFunc_int64__i_TermFault_1 (s : List (Int)) (g : (List ((List Int) × (Int) × Unit)) × Unit) : Int := findG (fun n => !nodeB g n) s 0
def Q_sl_IndexFunc_int64__i_TermFault_1 (s : List (Int)) (g : (List ((List Int) × (Int) × Unit)) × Unit) : Prop := True
def O_sl_IndexFunc_int64__i_TermFault_1 : Opt := ⟨fun i => false, fun i => (match decide (i = 2) with | true => [true, true, false, false, false, false, false, true, true, false, false, false, false, false, false, false, false, false, false] | false => []), fun i => .done, fun i => none, fun i => false, fun i => [], fun i => false, fun i => none⟩
def τ_sl_IndexFunc_int64__i_TermFault_1 : Env := Env.of [(2, (.int .i64)), (3, (.int .i64)), (4, .bool), (62, (.sl (.int .i64)))] [] []

theorem ct_sl_IndexFunc_int64__i_TermFault_1 (s : List (Int)) (g : (List ((List Int) × (Int) × Unit)) × Unit) : Ct pg 200 [.dat (.sl (.int .i64)) s, .clo 255 [.dptr (.pair (.sl (.pair .str (.pair (.int .i64) .unit))) .unit) g]] ⟨[Q_sl_IndexFunc_int64__i_TermFault_1 s g], [⟨(.int .i64), .sh, F_sl_IndexFunc_int64__i_TermFault_1 s g⟩], []⟩ := by
  refine ct_claim (O := O_sl_IndexFunc_int64__i_TermFault_1) (τ := τ_sl_IndexFunc_int64__i_TermFault_1) (EnvOk.of (by kernel_rfl) (by kernel_rfl)) (GOk.of (.cons ok_i_TermFault_1 .nil : AllOk pg [(255, con_i_TermFault_1)])) mixed (Enters.of (by kernel_rfl)) (fn := Go.Proofs.Tryz.f200) (by kernel_rfl) rfl (by kernel_rfl) ?_
  intro hp hw
  have hq : Q_sl_IndexFunc_int64__i_TermFault_1 s g := hp _ (List.mem_singleton.2 rfl)
  clear hp
  change claim Lg.std Alg.std τ_sl_IndexFunc_int64__i_TermFault_1 (Gam.of [(255, ⟨true, g2 (pD (.int .i64)) (pP (.pair (.sl (.pair .str (.pair (.int .i64) .unit))) .unit)) fun n g => .one ⟨[Q_i_TermFault_1 n g], [⟨.bool, .sh, F_i_TermFault_1 n g⟩], []⟩, [], false, 0⟩)]) O_sl_IndexFunc_int64__i_TermFault_1 Go.Proofs.Tryz.f200 [.dat (.sl (.int .i64)) s, .clo 255 [.dptr (.pair (.sl (.pair .str (.pair (.int .i64) .unit))) .unit) g]] ⟨[Q_sl_IndexFunc_int64__i_TermFault_1 s g], [⟨(.int .i64), .sh, F_sl_IndexFunc_int64__i_TermFault_1 s g⟩], []⟩
  generalize hg_F_i_TermFault_1 : F_i_TermFault_1 = g_F_i_TermFault_1
  generalize hg_Q_i_TermFault_1 : Q_i_TermFault_1 = g_Q_i_TermFault_1
  generalize hR0 : F_sl_IndexFunc_int64__i_TermFault_1 s g = R0
  generalize Q_sl_IndexFunc_int64__i_TermFault_1 s g = Q0
  generalize hL : Lg.std = L
  generalize hA : Alg.std = A
  cbv
  subst hL hA
  try dsimp only [Ty.den]
  refine lp_v (V := (Int) × (Int)) (fun ((i, M) : (Int) × (Int)) => ⟨[.dat (.sl (.int .i64)) s, .clo 255 [.dptr (.pair (.sl (.pair .str (.pair (.int .i64) .unit))) .unit) g], .junk, .junk, .junk, .junk, .junk, .dat (.int .i64) M, .dat (.int .i64) i, .junk, .junk, .junk, .junk, .junk, .junk, .junk, .junk, .junk, .junk], []⟩) (fun ((i, M) : (Int) × (Int)) => M = s.length ∧ 0 ≤ i ∧ i ≤ s.length ∧ findG (fun n => !nodeB g n) s 0 = findG (fun n => !nodeB g n) (s.drop i.toNat) i) (fun ((i, M) : (Int) × (Int)) => s.length - i.toNat) (0, _) rfl ?_ ?_
  · simp [Alg.std]
  rintro ⟨i, M⟩ hf I hI
  replace hf : M = s.length ∧ 0 ≤ i ∧ i ≤ s.length ∧ findG (fun n => !nodeB g n) s 0 = findG (fun n => !nodeB g n) (s.drop i.toNat) i := hf
  generalize hL : Lg.std = L
  generalize hA : Alg.std = A
  cbv
  subst hL hA
  try dsimp only [Ty.den]
  subst hI
  simp only [Lg.std, Alg.std, List.drop_zero, List.take_length]
  obtain ⟨h1, h2, h3, h4⟩ := hf
  have hl := hw.1.1
  have hdc := fun (h : i.toNat < s.length) => drop_cons s (0 : Int) i.toNat h
  have he := fun (h : s.length ≤ i.toNat) => drop_nil s i.toNat h
  repeat' (first | intro _ | apply And.intro)
  all_goals (try refine ⟨(_, _), rfl, ?_, ?_⟩)
  all_goals subst hR0 hg_F_i_TermFault_1 hg_Q_i_TermFault_1
  all_goals (try simp only [F_i_TermFault_1, Q_i_TermFault_1, F_sl_IndexFunc_int64__i_TermFault_1] at *)
  all_goals grind [findG_cons, findG_nil]
def con_sl_IndexFunc_int64__i_TermFault_1 : Con := ⟨true, g2 (pD (.sl (.int .i64))) (pC1 255 (pP (.pair (.sl (.pair .str (.pair (.int .i64) .unit))) .unit))) fun s g => .one ⟨[Q_sl_IndexFunc_int64__i_TermFault_1 s g], [⟨(.int .i64), .sh, F_sl_IndexFunc_int64__i_TermFault_1 s g⟩], []⟩, [], false, 0⟩
theorem ok_sl_IndexFunc_int64__i_TermFault_1 : ConOk pg 200 con_sl_IndexFunc_int64__i_TermFault_1 := ConOk.g2 (Enters.of (by kernel_rfl)) ct_sl_IndexFunc_int64__i_TermFault_1

def F_sl_ContainsFunc_int64__i_TermFault_1 (s : List (Int)) (g : (List ((List Int) × (Int) × Unit)) × Unit) : Bool := s.any (fun n => !nodeB g n)
def Q_sl_ContainsFunc_int64__i_TermFault_1 (s : List (Int)) (g : (List ((List Int) × (Int) × Unit)) × Unit) : Prop := True
def O_sl_ContainsFunc_int64__i_TermFault_1 : Opt := ⟨fun i => false, fun i => [], fun i => .done, fun i => none, fun i => false, fun i => [], fun i => false, fun i => none⟩
def τ_sl_ContainsFunc_int64__i_TermFault_1 : Env := Env.of [(3, (.int .i64)), (4, .bool), (62, (.sl (.int .i64)))] [] []

theorem ct_sl_ContainsFunc_int64__i_TermFault_1 (s : List (Int)) (g : (List ((List Int) × (Int) × Unit)) × Unit) : Ct pg 150 [.dat (.sl (.int .i64)) s, .clo 255 [.dptr (.pair (.sl (.pair .str (.pair (.int .i64) .unit))) .unit) g]] ⟨[Q_sl_ContainsFunc_int64__i_TermFault_1 s g], [⟨.bool, .sh, F_sl_ContainsFunc_int64__i_TermFault_1 s g⟩], []⟩ := by
  refine ct_claim (O := O_sl_ContainsFunc_int64__i_TermFault_1) (τ := τ_sl_ContainsFunc_int64__i_TermFault_1) (EnvOk.of (by kernel_rfl) (by kernel_rfl)) (GOk.of (.cons (ConOk.or ok_sl_IndexFunc_int64__i_DraftFault_1 ok_sl_IndexFunc_int64__i_TermFault_1) (.cons ok_i_TermFault_1 .nil) : AllOk pg [(200, (Con.or con_sl_IndexFunc_int64__i_DraftFault_1 con_sl_IndexFunc_int64__i_TermFault_1)), (255, con_i_TermFault_1)])) mixed (Enters.of (by kernel_rfl)) (fn := Go.Proofs.Tryz.f150) (by kernel_rfl) rfl (by kernel_rfl) ?_
  intro hp hw
  have hq : Q_sl_ContainsFunc_int64__i_TermFault_1 s g := hp _ (List.mem_singleton.2 rfl)
  clear hp
  change claim Lg.std Alg.std τ_sl_ContainsFunc_int64__i_TermFault_1 (Gam.of [(200, Con.or (⟨true, g2 (pD (.sl (.int .i64))) (pC1 151 (pP (.pair (.pair (.sl (.sl (.int .u8))) (.pair (.sl (.pair (.int .i64) (.pair (.sl (.int .u8)) .unit))) .unit)) (.pair (.sl (.int .i64)) (.pair (.sl (.int .i64)) .unit))))) fun s d => .one ⟨[Q_sl_IndexFunc_int64__i_DraftFault_1 s d], [⟨(.int .i64), .sh, F_sl_IndexFunc_int64__i_DraftFault_1 s d⟩], []⟩, [], false, 0⟩ : Con) (⟨true, g2 (pD (.sl (.int .i64))) (pC1 255 (pP (.pair (.sl (.pair .str (.pair (.int .i64) .unit))) .unit))) fun s g => .one ⟨[Q_sl_IndexFunc_int64__i_TermFault_1 s g], [⟨(.int .i64), .sh, F_sl_IndexFunc_int64__i_TermFault_1 s g⟩], []⟩, [], false, 0⟩)), (255, ⟨true, g2 (pD (.int .i64)) (pP (.pair (.sl (.pair .str (.pair (.int .i64) .unit))) .unit)) fun n g => .one ⟨[Q_i_TermFault_1 n g], [⟨.bool, .sh, F_i_TermFault_1 n g⟩], []⟩, [], false, 0⟩)]) O_sl_ContainsFunc_int64__i_TermFault_1 Go.Proofs.Tryz.f150 [.dat (.sl (.int .i64)) s, .clo 255 [.dptr (.pair (.sl (.pair .str (.pair (.int .i64) .unit))) .unit) g]] ⟨[Q_sl_ContainsFunc_int64__i_TermFault_1 s g], [⟨.bool, .sh, F_sl_ContainsFunc_int64__i_TermFault_1 s g⟩], []⟩
  generalize hg_F_sl_IndexFunc_int64__i_DraftFault_1 : F_sl_IndexFunc_int64__i_DraftFault_1 = g_F_sl_IndexFunc_int64__i_DraftFault_1
  generalize hg_Q_sl_IndexFunc_int64__i_DraftFault_1 : Q_sl_IndexFunc_int64__i_DraftFault_1 = g_Q_sl_IndexFunc_int64__i_DraftFault_1
  generalize hg_F_i_TermFault_1 : F_i_TermFault_1 = g_F_i_TermFault_1
  generalize hg_Q_i_TermFault_1 : Q_i_TermFault_1 = g_Q_i_TermFault_1
  generalize hg_F_sl_IndexFunc_int64__i_TermFault_1 : F_sl_IndexFunc_int64__i_TermFault_1 = g_F_sl_IndexFunc_int64__i_TermFault_1
  generalize hg_Q_sl_IndexFunc_int64__i_TermFault_1 : Q_sl_IndexFunc_int64__i_TermFault_1 = g_Q_sl_IndexFunc_int64__i_TermFault_1
  generalize hR0 : F_sl_ContainsFunc_int64__i_TermFault_1 s g = R0
  generalize Q_sl_ContainsFunc_int64__i_TermFault_1 s g = Q0
  generalize hL : Lg.std = L
  generalize hA : Alg.std = A
  cbv
  subst hL hA
  try dsimp only [Ty.den]
  have hf := findG_any (fun n => !nodeB g n) s 0 (by omega)
  subst hR0 hg_F_sl_IndexFunc_int64__i_DraftFault_1 hg_Q_sl_IndexFunc_int64__i_DraftFault_1 hg_F_i_TermFault_1 hg_Q_i_TermFault_1 hg_F_sl_IndexFunc_int64__i_TermFault_1 hg_Q_sl_IndexFunc_int64__i_TermFault_1
  simp only [Q_sl_ContainsFunc_int64__i_TermFault_1] at hq
  simp only [Lg.std, Alg.std, List.drop_zero, List.take_length, F_sl_IndexFunc_int64__i_DraftFault_1, F_i_TermFault_1, F_sl_IndexFunc_int64__i_TermFault_1, Q_sl_IndexFunc_int64__i_DraftFault_1, Q_i_TermFault_1, Q_sl_IndexFunc_int64__i_TermFault_1, F_sl_ContainsFunc_int64__i_TermFault_1]
  all_goals grind
def con_sl_ContainsFunc_int64__i_TermFault_1 : Con := ⟨true, g2 (pD (.sl (.int .i64))) (pC1 255 (pP (.pair (.sl (.pair .str (.pair (.int .i64) .unit))) .unit))) fun s g => .one ⟨[Q_sl_ContainsFunc_int64__i_TermFault_1 s g], [⟨.bool, .sh, F_sl_ContainsFunc_int64__i_TermFault_1 s g⟩], []⟩, [], false, 0⟩
theorem ok_sl_ContainsFunc_int64__i_TermFault_1 : ConOk pg 150 con_sl_ContainsFunc_int64__i_TermFault_1 := ConOk.g2 (Enters.of (by kernel_rfl)) ct_sl_ContainsFunc_int64__i_TermFault_1

def F_i_endOf (s : (List ((List Int) × (Int) × Unit)) × Unit) (t : List (Int)) (a : Int) : Int := endI s t a
def Q_i_endOf (s : (List ((List Int) × (Int) × Unit)) × Unit) (t : List (Int)) (a : Int) : Prop := sigFault s = 0 ∧ allN s t ∧ 0 ≤ a ∧ t.length ≤ 1048576
def O_i_endOf : Opt := ⟨fun i => (match decide (i = 6) with | true => true | false => false), fun i => (match decide (i = 2) with | true => [false, true, true, true, false, false, false, true, false, false, false, false, false, false, false, false, false, false, false, false, false, false, false, false, false, false, false, false, false] | false => []), fun i => .done, fun i => none, fun i => false, fun i => [], fun i => false, fun i => none⟩
def τ_i_endOf : Env := Env.of [(2, (.int .i64)), (3, (.int .i64)), (4, .bool), (30, (.pair (.sl (.pair .str (.pair (.int .i64) .unit))) .unit)), (62, (.sl (.int .i64)))] [] []

theorem ct_i_endOf (s : (List ((List Int) × (Int) × Unit)) × Unit) (t : List (Int)) (a : Int) : Ct pg 256 [.dat (.pair (.sl (.pair .str (.pair (.int .i64) .unit))) .unit) s, .dat (.sl (.int .i64)) t, .dat (.int .i64) a] ⟨[Q_i_endOf s t a], [⟨(.int .i64), .sh, F_i_endOf s t a⟩], []⟩ := by
  refine ct_claim (O := O_i_endOf) (τ := τ_i_endOf) (EnvOk.of (by kernel_rfl) (by kernel_rfl)) (GOk.of (.cons ok_i_arityOf .nil : AllOk pg [(195, con_i_arityOf)])) mixed (Enters.of (by kernel_rfl)) (fn := Go.Proofs.Tryz.f256) (by kernel_rfl) rfl (by kernel_rfl) ?_
  intro hp hw
  have hq : Q_i_endOf s t a := hp _ (List.mem_singleton.2 rfl)
  clear hp
  change claim Lg.std Alg.std τ_i_endOf (Gam.of [(195, ⟨true, g2 (pD (.pair (.sl (.pair .str (.pair (.int .i64) .unit))) .unit)) (pD (.int .i64)) fun s n => .one ⟨[Q_i_arityOf s n], [⟨(.int .i64), .sh, F_i_arityOf s n⟩], []⟩, [], false, 0⟩)]) O_i_endOf Go.Proofs.Tryz.f256 [.dat (.pair (.sl (.pair .str (.pair (.int .i64) .unit))) .unit) s, .dat (.sl (.int .i64)) t, .dat (.int .i64) a] ⟨[Q_i_endOf s t a], [⟨(.int .i64), .sh, F_i_endOf s t a⟩], []⟩
  generalize hg_F_i_arityOf : F_i_arityOf = g_F_i_arityOf
  generalize hg_Q_i_arityOf : Q_i_arityOf = g_Q_i_arityOf
  generalize hR0 : F_i_endOf s t a = R0
  generalize Q_i_endOf s t a = Q0
  generalize hL : Lg.std = L
  generalize hA : Alg.std = A
  cbv
  subst hL hA
  try dsimp only [Ty.den]
  obtain ⟨s_0, ⟨⟩⟩ := s
  simp only [Q_i_endOf] at hq
  obtain ⟨hqs, hqt, hk0, hql⟩ := hq
  have key : ∀ b : Int, 0 ≤ b → b < t.length → (t.getD b.toNat 0 < s_0.length ∧ 0 ≤ ar (s_0, PUnit.unit) (t.getD b.toNat 0) ∧ ar (s_0, PUnit.unit) (t.getD b.toNat 0) ≤ 2) := fun b h0 h => by
    have hn := hqt _ (getD_mem t 0 b.toNat (by omega))
    have hr := ar_rng _ hqs _ hn
    simp only [nodeB, isSym, Bool.or_eq_true, decide_eq_true_eq] at hn
    have hs1 := (sig_good _ hqs).1
    dsimp only at hs1
    exact ⟨by omega, hr.1, hr.2⟩
  refine lp_v (V := (Int) × (Int)) (fun ((b, o) : (Int) × (Int)) => ⟨[.junk, .dat (.sl (.int .i64)) t, .dat (.int .i64) b, .bptr 0 0, .junk, .junk, .junk, .dat (.int .i64) o, .junk, .junk, .junk, .junk, .junk, .junk, .junk, .junk, .junk, .junk, .junk, .junk, .junk, .junk, .junk, .junk, .junk, .junk, .junk, .junk, .junk], [some (.box [.dat (.sl (.pair .str (.pair (.int .i64) .unit))) s_0])]⟩) (fun ((b, o) : (Int) × (Int)) => a ≤ b ∧ (a < b → b ≤ t.length) ∧ (b = a → o = 1) ∧ o ≤ 1 + (b - a) ∧ 0 ≤ o ∧ skp (s_0, PUnit.unit) o.toNat (t.drop b.toNat) = skp (s_0, PUnit.unit) 1 (t.drop a.toNat)) (fun ((b, o) : (Int) × (Int)) => t.length - b.toNat) (a, 1) rfl ?_ ?_
  · (subst hR0 hg_F_i_arityOf hg_Q_i_arityOf; simp only [Alg.std] at *; refine ⟨by omega, fun h => by omega, by simp, by omega, by omega, rfl⟩)
  rintro ⟨b, o⟩ hf I hI
  replace hf : a ≤ b ∧ (a < b → b ≤ t.length) ∧ (b = a → o = 1) ∧ o ≤ 1 + (b - a) ∧ 0 ≤ o ∧ skp (s_0, PUnit.unit) o.toNat (t.drop b.toNat) = skp (s_0, PUnit.unit) 1 (t.drop a.toNat) := hf
  generalize hL : Lg.std = L
  generalize hA : Alg.std = A
  cbv
  subst hL hA
  try dsimp only [Ty.den]
  subst hI
  obtain ⟨h1, h2, h3, h4, h5, h6⟩ := hf
  have st := endI_step (s_0, PUnit.unit) t o b
  have ot := endI_out (s_0, PUnit.unit) t a o b
  have dn := endI_done (s_0, PUnit.unit) t a o b
  have kb := key b (by omega)
  have es : (b + 1).toNat = b.toNat + 1 := by omega
  clear key hqt
  repeat' (first | intro _ | apply And.intro)
  all_goals first | (with_reducible exact True.intro) | ((fail_if_success (refine lp_v (V := Unit) (fun _ => ⟨[], []⟩) (fun _ => True) (fun _ => 0) () ?_ ?_ ?_)); (try simp only [Lg.std, Alg.std, List.drop_zero, List.take_length] at *); (try refine ⟨(_, _), rfl, ?_, ?_⟩); (all_goals (subst hR0 hg_F_i_arityOf hg_Q_i_arityOf; (try simp only [Lg.std, Alg.std, List.drop_zero, List.take_length, F_i_arityOf, Q_i_arityOf, F_i_endOf] at *); first | done | (grind)))) | skip
def con_i_endOf : Con := ⟨true, g3 (pD (.pair (.sl (.pair .str (.pair (.int .i64) .unit))) .unit)) (pD (.sl (.int .i64))) (pD (.int .i64)) fun s t a => .one ⟨[Q_i_endOf s t a], [⟨(.int .i64), .sh, F_i_endOf s t a⟩], []⟩, [], false, 0⟩
theorem ok_i_endOf : ConOk pg 256 con_i_endOf := ConOk.g3 (Enters.of (by kernel_rfl)) ct_i_endOf

def F_i_TermFault (s : (List ((List Int) × (Int) × Unit)) × Unit) (t : List (Int)) : Int := termFault s t
def Q_i_TermFault (s : (List ((List Int) × (Int) × Unit)) × Unit) (t : List (Int)) : Prop := True
def O_i_TermFault : Opt := ⟨fun i => false, fun i => [], fun i => .done, fun i => none, fun i => false, fun i => [], fun i => false, fun i => none⟩
def τ_i_TermFault : Env := Env.of [(2, (.int .i64)), (3, (.int .i64)), (4, .bool), (30, (.pair (.sl (.pair .str (.pair (.int .i64) .unit))) .unit)), (62, (.sl (.int .i64)))] [(161, (.pair (.sl (.pair .str (.pair (.int .i64) .unit))) .unit))] []

theorem ct_i_TermFault (s : (List ((List Int) × (Int) × Unit)) × Unit) (t : List (Int)) : Ct pg 233 [.dat (.pair (.sl (.pair .str (.pair (.int .i64) .unit))) .unit) s, .dat (.sl (.int .i64)) t] ⟨[Q_i_TermFault s t], [⟨(.int .i64), .sh, F_i_TermFault s t⟩], []⟩ := by
  refine ct_claim (O := O_i_TermFault) (τ := τ_i_TermFault) (EnvOk.of (by kernel_rfl) (by kernel_rfl)) (GOk.of (.cons (ConOk.or ok_sl_ContainsFunc_int64__i_DraftFault_1 ok_sl_ContainsFunc_int64__i_TermFault_1) (.cons ok_i_SignatureFault (.cons ok_i_TermFault_1 (.cons ok_i_endOf .nil))) : AllOk pg [(150, (Con.or con_sl_ContainsFunc_int64__i_DraftFault_1 con_sl_ContainsFunc_int64__i_TermFault_1)), (69, con_i_SignatureFault), (255, con_i_TermFault_1), (256, con_i_endOf)])) mixed (Enters.of (by kernel_rfl)) (fn := Go.Proofs.Tryz.f233) (by kernel_rfl) rfl (by kernel_rfl) ?_
  intro hp hw
  have hq : Q_i_TermFault s t := hp _ (List.mem_singleton.2 rfl)
  clear hp
  change claim Lg.std Alg.std τ_i_TermFault (Gam.of [(150, Con.or (⟨true, g2 (pD (.sl (.int .i64))) (pC1 151 (pP (.pair (.pair (.sl (.sl (.int .u8))) (.pair (.sl (.pair (.int .i64) (.pair (.sl (.int .u8)) .unit))) .unit)) (.pair (.sl (.int .i64)) (.pair (.sl (.int .i64)) .unit))))) fun s d => .one ⟨[Q_sl_ContainsFunc_int64__i_DraftFault_1 s d], [⟨.bool, .sh, F_sl_ContainsFunc_int64__i_DraftFault_1 s d⟩], []⟩, [], false, 0⟩ : Con) (⟨true, g2 (pD (.sl (.int .i64))) (pC1 255 (pP (.pair (.sl (.pair .str (.pair (.int .i64) .unit))) .unit))) fun s g => .one ⟨[Q_sl_ContainsFunc_int64__i_TermFault_1 s g], [⟨.bool, .sh, F_sl_ContainsFunc_int64__i_TermFault_1 s g⟩], []⟩, [], false, 0⟩)), (69, ⟨true, g1 (pD (.pair (.sl (.pair .str (.pair (.int .i64) .unit))) .unit)) fun s => .one ⟨[Q_i_SignatureFault s], [⟨(.int .i64), .sh, F_i_SignatureFault s⟩], []⟩, [], false, 0⟩), (255, ⟨true, g2 (pD (.int .i64)) (pP (.pair (.sl (.pair .str (.pair (.int .i64) .unit))) .unit)) fun n g => .one ⟨[Q_i_TermFault_1 n g], [⟨.bool, .sh, F_i_TermFault_1 n g⟩], []⟩, [], false, 0⟩), (256, ⟨true, g3 (pD (.pair (.sl (.pair .str (.pair (.int .i64) .unit))) .unit)) (pD (.sl (.int .i64))) (pD (.int .i64)) fun s t a => .one ⟨[Q_i_endOf s t a], [⟨(.int .i64), .sh, F_i_endOf s t a⟩], []⟩, [], false, 0⟩)]) O_i_TermFault Go.Proofs.Tryz.f233 [.dat (.pair (.sl (.pair .str (.pair (.int .i64) .unit))) .unit) s, .dat (.sl (.int .i64)) t] ⟨[Q_i_TermFault s t], [⟨(.int .i64), .sh, F_i_TermFault s t⟩], []⟩
  generalize hg_F_sl_ContainsFunc_int64__i_DraftFault_1 : F_sl_ContainsFunc_int64__i_DraftFault_1 = g_F_sl_ContainsFunc_int64__i_DraftFault_1
  generalize hg_Q_sl_ContainsFunc_int64__i_DraftFault_1 : Q_sl_ContainsFunc_int64__i_DraftFault_1 = g_Q_sl_ContainsFunc_int64__i_DraftFault_1
  generalize hg_F_i_SignatureFault : F_i_SignatureFault = g_F_i_SignatureFault
  generalize hg_Q_i_SignatureFault : Q_i_SignatureFault = g_Q_i_SignatureFault
  generalize hg_F_i_TermFault_1 : F_i_TermFault_1 = g_F_i_TermFault_1
  generalize hg_Q_i_TermFault_1 : Q_i_TermFault_1 = g_Q_i_TermFault_1
  generalize hg_F_sl_ContainsFunc_int64__i_TermFault_1 : F_sl_ContainsFunc_int64__i_TermFault_1 = g_F_sl_ContainsFunc_int64__i_TermFault_1
  generalize hg_Q_sl_ContainsFunc_int64__i_TermFault_1 : Q_sl_ContainsFunc_int64__i_TermFault_1 = g_Q_sl_ContainsFunc_int64__i_TermFault_1
  generalize hg_F_i_endOf : F_i_endOf = g_F_i_endOf
  generalize hg_Q_i_endOf : Q_i_endOf = g_Q_i_endOf
  generalize hR0 : F_i_TermFault s t = R0
  generalize Q_i_TermFault s t = Q0
  generalize hL : Lg.std = L
  generalize hA : Alg.std = A
  cbv
  subst hL hA
  try dsimp only [Ty.den]
  obtain ⟨s_0, ⟨⟩⟩ := s
  have a2 := l3F_2 (s_0, PUnit.unit) t
  have a3 := l3F_3 (s_0, PUnit.unit) t
  have a4 := l3F_I (s_0, PUnit.unit) t
  have an := all_allN (s_0, PUnit.unit) t
  have ay := any_not (s_0, PUnit.unit) t
  have hT : termFault (s_0, PUnit.unit) t = if sigFault (s_0, PUnit.unit) ≠ 0 then sigFault (s_0, PUnit.unit) else l3F (s_0, PUnit.unit) t := rfl
  subst hR0 hg_F_sl_ContainsFunc_int64__i_DraftFault_1 hg_Q_sl_ContainsFunc_int64__i_DraftFault_1 hg_F_i_SignatureFault hg_Q_i_SignatureFault hg_F_i_TermFault_1 hg_Q_i_TermFault_1 hg_F_sl_ContainsFunc_int64__i_TermFault_1 hg_Q_sl_ContainsFunc_int64__i_TermFault_1 hg_F_i_endOf hg_Q_i_endOf
  simp only [Lg.std, Alg.std, List.drop_zero, List.take_length, F_sl_ContainsFunc_int64__i_DraftFault_1, F_i_SignatureFault, F_i_TermFault_1, F_sl_ContainsFunc_int64__i_TermFault_1, F_i_endOf, Q_sl_ContainsFunc_int64__i_DraftFault_1, Q_i_SignatureFault, Q_i_TermFault_1, Q_sl_ContainsFunc_int64__i_TermFault_1, Q_i_endOf, F_i_TermFault] at *
  rw [ay] at *
  repeat' (first | intro _ | apply And.intro)
  all_goals grind
def con_i_TermFault : Con := ⟨true, g2 (pD (.pair (.sl (.pair .str (.pair (.int .i64) .unit))) .unit)) (pD (.sl (.int .i64))) fun s t => .one ⟨[Q_i_TermFault s t], [⟨(.int .i64), .sh, F_i_TermFault s t⟩], []⟩, [], false, 0⟩
theorem ok_i_TermFault : ConOk pg 233 con_i_TermFault := ConOk.g2 (Enters.of (by kernel_rfl)) ct_i_TermFault
end Go.Vee
