/-
  Contracts of functions of the program: what each returns for all arguments that its precondition lets in.
-/
import Derived.Test.YtkbnbjdkdlooiaaDoorVK10
set_option linter.unusedSimpArgs false
set_option linter.unusedVariables false
set_option maxRecDepth 100000
set_option maxHeartbeats 4000000
set_option synthInstance.maxHeartbeats 4000000
set_option synthInstance.maxSize 20000000
namespace Go.Vee
open Go
def ar (s : SigT) (n : Int) : Int := if n < 0 then 0 else (s.1.getD n.toNat symD).2.1
def isSym (s : SigT) (n : Int) : Bool := decide (0 ≤ n ∧ n ≤ (s.1.length : Int) - 1)
def nodeB (s : SigT) (n : Int) : Bool := isSym s n || decide (-12 ≤ n ∧ n ≤ -1)
theorem sig_ar (s : SigT) (h : sigFault s = 0) (i : Nat) (hi : i < s.1.length) : 0 ≤ (s.1.getD i symD).2.1 ∧ (s.1.getD i symD).2.1 ≤ 2 :=
  ((sig_good s h).2 _ (getD_mem s.1 symD i hi)).2
theorem ar_rng (s : SigT) (h : sigFault s = 0) (n : Int) (hn : nodeB s n = true) : 0 ≤ ar s n ∧ ar s n ≤ 2 := by
  unfold ar
  split
  · omega
  · refine sig_ar s h _ ?_
    simp only [nodeB, isSym, Bool.or_eq_true, decide_eq_true_eq] at hn
    omega
/-- How many terms are open behind a list's nodes, 'k' ahead of it. -/
def opn (s : SigT) : Nat → List Int → Option Nat
  | k, [] => some k
  | 0, _ :: _ => none
  | k + 1, n :: l => opn s (k + (ar s n).toNat) l
/-- What is left behind 'k' terms. -/
def skp (s : SigT) : Nat → List Int → Option (List Int)
  | 0, l => some l
  | _ + 1, [] => none
  | k + 1, n :: l => skp s (k + (ar s n).toNat) l
theorem skp_zero (s : SigT) (l : List Int) : skp s 0 l = some l := by cases l <;> rfl
theorem skp_nil (s : SigT) (k : Nat) : skp s (k + 1) [] = none := rfl
theorem skp_cons (s : SigT) (k : Nat) (n : Int) (l : List Int) : skp s (k + 1) (n :: l) = skp s (k + (ar s n).toNat) l := rfl
theorem skp_add (s : SigT) (b : Nat) : ∀ (l : List Int) (a : Nat), skp s (a + b) l = (skp s a l).bind (skp s b)
  | l, 0 => by rw [skp_zero, Nat.zero_add]; rfl
  | [], a + 1 => by rw [Nat.succ_add, skp_nil, skp_nil]; rfl
  | n :: l, a + 1 => by
    rw [Nat.succ_add, skp_cons, skp_cons, ← skp_add s b l]
    congr 1; omega
theorem skp_suf (s : SigT) : ∀ (l : List Int) (k : Nat) (r : List Int), skp s k l = some r → r.length + k ≤ l.length ∧ r = l.drop (l.length - r.length)
  | l, 0, r, h => by rw [skp_zero] at h; cases h; simp
  | [], k + 1, r, h => by rw [skp_nil] at h; cases h
  | n :: l, k + 1, r, h => by
    rw [skp_cons] at h
    have := skp_suf s l _ r h
    refine ⟨by simp; omega, ?_⟩
    have e : (n :: l).length - r.length = (l.length - r.length) + 1 := by simp; omega
    rw [e, List.drop_succ_cons]
    exact this.2
theorem opn_skp (s : SigT) : ∀ (l : List Int) (k : Nat), skp s k l = some [] ↔ opn s k l = some 0
  | [], 0 => by simp [skp, opn]
  | [], k + 1 => by simp [skp, opn]
  | n :: l, 0 => by simp [skp, opn]
  | n :: l, k + 1 => by rw [skp_cons]; exact opn_skp s l _
theorem opn_snoc (s : SigT) (n : Int) : ∀ (l : List Int) (k j : Nat), opn s k l = some (j + 1) → opn s k (l ++ [n]) = some (j + (ar s n).toNat)
  | [], k, j, h => by
    simp only [opn, Option.some.injEq] at h
    subst h
    rfl
  | x :: l, 0, j, h => by simp [opn] at h
  | x :: l, k + 1, j, h => by
    have h' : opn s (k + (ar s x).toNat) l = some (j + 1) := h
    exact opn_snoc s n l _ j h'
/-- The place behind the term at a place, or -1. -/
def endP (s : SigT) (t : List Int) (a : Int) : Int := match skp s 1 (t.drop a.toNat) with
  | some r => (t.length : Int) - r.length
  | none => -1
theorem endP_ge (s : SigT) (t : List Int) (a : Int) (h : (t.length : Int) ≤ a) : endP s t a = -1 := by
  unfold endP; rw [List.drop_of_length_le (by omega), skp_nil]
theorem endP_cases (s : SigT) (t : List Int) (e : Int) (h0 : 0 ≤ e) (h1 : e ≤ t.length) : (endP s t e = -1 ∧ skp s 1 (t.drop e.toNat) = none) ∨ (e + 1 ≤ endP s t e ∧ endP s t e ≤ t.length ∧ skp s 1 (t.drop e.toNat) = some (t.drop (endP s t e).toNat)) := by
  unfold endP
  cases h : skp s 1 (t.drop e.toNat) with
  | none => exact .inl ⟨rfl, rfl⟩
  | some r =>
    right
    have := skp_suf s _ _ _ h
    rw [List.length_drop] at this
    have e1 : ((t.length : Int) - r.length).toNat = e.toNat + (t.length - e.toNat - r.length) := by omega
    refine ⟨by dsimp only; omega, by dsimp only; omega, ?_⟩
    dsimp only
    rw [e1, ← List.drop_drop]
    exact congrArg some this.2
theorem endP_in (s : SigT) (t : List Int) (a : Int) (h0 : 0 ≤ a) (h1 : a < t.length) : endP s t a = match skp s (ar s (t.getD a.toNat 0)).toNat (t.drop (a.toNat + 1)) with
    | some r => (t.length : Int) - r.length
    | none => -1 := by
  unfold endP
  rw [drop_cons t 0 a.toNat (by omega), skp_cons, Nat.zero_add]
theorem endP_var (s : SigT) (t : List Int) (a : Int) (h0 : 0 ≤ a) (h1 : a < t.length) (h : t.getD a.toNat 0 < 0) : endP s t a = a + 1 := by
  have e : (ar s (t.getD a.toNat 0)).toNat = 0 := by unfold ar; rw [if_pos h]; rfl
  rw [endP_in s t a h0 h1, e, skp_zero]
  simp only [List.length_drop]; omega
/-- A round of the reference's way to an end. -/
theorem endP_round (s : SigT) (t : List Int) (a e k i : Int) (h0 : 0 ≤ a) (h1 : a < t.length) (hk : k = ar s (t.getD a.toNat 0)) (hi : 0 ≤ i ∧ i < k) (he : a + 1 ≤ e ∧ e ≤ t.length)
    (hI : skp s (k - i).toNat (t.drop e.toNat) = skp s k.toNat (t.drop (a.toNat + 1))) :
    (endP s t e = -1 → endP s t a = -1) ∧ (endP s t e ≠ -1 → a + 1 ≤ endP s t e ∧ endP s t e ≤ t.length ∧ skp s (k - (i + 1)).toNat (t.drop (endP s t e).toNat) = skp s k.toNat (t.drop (a.toNat + 1))) := by
  have e1 : (k - i).toNat = 1 + (k - (i + 1)).toNat := by omega
  rw [e1, skp_add] at hI
  rcases endP_cases s t e (by omega) he.2 with ⟨g1, g2⟩ | ⟨g1, g2, g3⟩
  · refine ⟨fun _ => ?_, fun h => absurd g1 h⟩
    rw [endP_in s t a h0 h1, ← hk, ← hI, g2]; rfl
  · refine ⟨fun h => by omega, fun _ => ⟨by omega, g2, ?_⟩⟩
    rw [g3] at hI
    exact hI
theorem endP_done (s : SigT) (t : List Int) (a e k : Int) (h0 : 0 ≤ a) (h1 : a < t.length) (hk : k = ar s (t.getD a.toNat 0)) (he : a + 1 ≤ e ∧ e ≤ t.length) (hI : skp s 0 (t.drop e.toNat) = skp s k.toNat (t.drop (a.toNat + 1))) : endP s t a = e := by
  rw [endP_in s t a h0 h1, ← hk, ← hI, skp_zero]
  simp only [List.length_drop]; omega
def l3F (s : SigT) (t : List Int) : Int := if t.length < 1 ∨ t.length > 24 then 2 else if t.all (nodeB s) = false then 3 else if endP s t 0 ≠ t.length then 1 else 0
theorem endP_full (s : SigT) (t : List Int) : endP s t 0 = t.length ↔ opn s 1 t = some 0 := by
  rw [← opn_skp]
  unfold endP
  simp only [Int.toNat_zero, List.drop_zero]
  cases h : skp s 1 t with
  | none => simp <;> omega
  | some r =>
    cases r with
    | nil => simp
    | cons x r => simp <;> omega
theorem l3F_zero (s : SigT) (t : List Int) (h1 : 1 ≤ t.length) (h2 : t.length ≤ 24) (h3 : t.all (nodeB s) = true) : l3F s t = 0 ↔ opn s 1 t = some 0 := by
  unfold l3F
  rw [if_neg (by omega), if_neg (by rw [h3]; decide), ← endP_full]
  split
  · rename_i h; simp [h]
  · rename_i h; exact ⟨fun _ => Decidable.not_not.1 h, fun _ => rfl⟩
theorem l3F_ok (s : SigT) (t : List Int) (h : l3F s t = 0) : (1 ≤ t.length ∧ t.length ≤ 24) ∧ t.all (nodeB s) = true ∧ opn s 1 t = some 0 := by
  unfold l3F at h
  split at h
  · cases h
  rename_i h1
  split at h
  · cases h
  rename_i h2
  split at h
  · cases h
  rename_i h3
  exact ⟨by omega, by simpa using h2, (endP_full s t).1 (Decidable.not_not.1 h3)⟩
def termFault (s : SigT) (t : List Int) : Int := if sigFault s ≠ 0 then sigFault s else l3F s t
def nodeOf (b : Int) : Int := if b < 32 then b - 1 else 31 - b
def okB (s : SigT) (b : Int) : Bool := if b < 32 then isSym s (b - 1) else nodeB s (31 - b)
theorem okB_node (s : SigT) (b : Int) (h : 0 ≤ b) : okB s b = true ↔ (b ≠ 0 ∧ nodeB s (nodeOf b) = true) := by
  unfold okB nodeOf nodeB isSym
  split
  · simp only [Bool.or_eq_true, decide_eq_true_eq]; omega
  · simp only [Bool.or_eq_true, decide_eq_true_eq]; omega
/-- The reference's way: a term at the beginning of bytes; [] where there is none. -/
def l5L (s : SigT) : List Int → List Int → List Int
  | [], _ => []
  | b :: l, out => if 24 ≤ out.length then [] else if okB s b = false then [] else if l3F s (out ++ [nodeOf b]) = 0 then out ++ [nodeOf b] else l5L s l (out ++ [nodeOf b])
def l5R (s : SigT) (d : List Int) : List Int := l5L s d []
/-- The program's way. -/
def tL (s : SigT) : Nat → Int → RdT → List Int → List Int × RdT
  | 0, _, r, out => (out, r)
  | f + 1, o, r, out => if ¬ 0 < o ∨ r.2.1 = true then (out, r) else
    if rdOne r = 0 ∨ nodeB s (nodeOf (rdOne r)) = false ∨ out.length = 24 then (out, ((rdNext r 1).1, true, ()))
    else tL s f (o + (ar s (nodeOf (rdOne r)) - 1)) (rdNext r 1) (out ++ [nodeOf (rdOne r)])
def termRd (s : SigT) (r : RdT) : List Int × RdT := tL s 26 1 r []
theorem tL_step (s : SigT) (f : Nat) (o : Int) (r : RdT) (out : List Int) (h : 0 < f) : tL s f o r out = if ¬ 0 < o ∨ r.2.1 = true then (out, r) else
    if rdOne r = 0 ∨ nodeB s (nodeOf (rdOne r)) = false ∨ out.length = 24 then (out, ((rdNext r 1).1, true, ()))
    else tL s (f - 1) (o + (ar s (nodeOf (rdOne r)) - 1)) (rdNext r 1) (out ++ [nodeOf (rdOne r)]) := by
  cases f with
  | zero => omega
  | succ f => rfl
theorem rdOne_end : rdOne ([], false, ()) = 0 := rfl
theorem term_main (s : SigT) (hs : sigFault s = 0) : ∀ (l out : List Int) (o f : Nat), (∀ x ∈ l, 0 ≤ x ∧ x ≤ 255) → opn s 1 out = some (o + 1) → out.all (nodeB s) = true → out.length ≤ 24 → 26 ≤ f + out.length →
    (l5L s l out = [] → (tL s f ((o + 1 : Nat) : Int) (l, false, ()) out).2.2.1 = true) ∧
    (l5L s l out ≠ [] → out.length < (l5L s l out).length ∧ (l5L s l out).length ≤ out.length + l.length ∧ l3F s (l5L s l out) = 0 ∧ tL s f ((o + 1 : Nat) : Int) (l, false, ()) out = (l5L s l out, (l.drop ((l5L s l out).length - out.length), false, ())))
  | [], out, o, f, hb, ho, ha, hl, hf => by
    refine ⟨fun _ => ?_, fun h => absurd rfl h⟩
    rw [tL_step s f _ _ _ (by omega), if_neg (by simp), if_pos (.inl rdOne_end)]
  | b :: l, out, o, f, hb, ho, ha, hl, hf => by
    have hb0 := hb b (by simp)
    have e1 := rdOne_cons b l
    have e2 := rdNext_cons b l
    rw [tL_step s f _ _ _ (by omega), if_neg (by simp), e1, e2]
    have hok := okB_node s b hb0.1
    unfold l5L
    by_cases c1 : 24 ≤ out.length
    · rw [if_pos c1, if_pos (.inr (.inr (by omega)))]
      exact ⟨fun _ => rfl, fun h => absurd rfl h⟩
    rw [if_neg c1]
    by_cases c2 : okB s b = false
    · have hc : b = 0 ∨ nodeB s (nodeOf b) = false ∨ out.length = 24 := by
        by_cases c3 : b = 0
        · exact .inl c3
        · right; left
          cases hn : nodeB s (nodeOf b) with
          | false => rfl
          | true => rw [hok.2 ⟨c3, hn⟩] at c2; cases c2
      rw [if_pos c2, if_pos hc]
      exact ⟨fun _ => rfl, fun h => absurd rfl h⟩
    rw [if_neg c2]
    have hg := hok.1 (by simpa using c2)
    have hc : ¬ (b = 0 ∨ nodeB s (nodeOf b) = false ∨ out.length = 24) := by
      rintro (h | h | h)
      · exact hg.1 h
      · rw [hg.2] at h; cases h
      · omega
    rw [if_neg hc]
    have har := ar_rng s hs _ hg.2
    have ho2 := opn_snoc s (nodeOf b) out 1 o ho
    have ha2 : (out ++ [nodeOf b]).all (nodeB s) = true := by rw [List.all_append, ha]; simp [hg.2]
    have hl2 : (out ++ [nodeOf b]).length = out.length + 1 := by simp
    have hz := l3F_zero s (out ++ [nodeOf b]) (by omega) (by omega) ha2
    have eo : ((o + 1 : Nat) : Int) + (ar s (nodeOf b) - 1) = ((o + (ar s (nodeOf b)).toNat : Nat) : Int) := by omega
    rw [eo]
    by_cases c3 : l3F s (out ++ [nodeOf b]) = 0
    · rw [if_pos c3]
      have h0 := hz.1 c3
      rw [ho2] at h0
      have h1 : o + (ar s (nodeOf b)).toNat = 0 := by simpa using h0
      refine ⟨fun h => by simp at h, fun _ => ⟨by omega, by simp, c3, ?_⟩⟩
      rw [h1, tL_step s (f - 1) _ _ _ (by omega), if_pos (.inl (by simp)), hl2]
      simp
    · rw [if_neg c3]
      have h1 : o + (ar s (nodeOf b)).toNat ≠ 0 := fun h => c3 (hz.2 (by rw [ho2, h]))
      obtain ⟨o', ho'⟩ : ∃ o', o + (ar s (nodeOf b)).toNat = o' + 1 := ⟨o + (ar s (nodeOf b)).toNat - 1, by omega⟩
      rw [ho'] at ho2 ⊢
      have ih := term_main s hs l (out ++ [nodeOf b]) o' (f - 1) (fun x hx => hb x (by simp [hx])) ho2 ha2 (by omega) (by omega)
      refine ⟨ih.1, fun h => ?_⟩
      obtain ⟨g1, g2, g3, g4⟩ := ih.2 h
      rw [hl2] at g1 g2
      refine ⟨by omega, by rw [List.length_cons]; omega, g3, ?_⟩
      rw [g4, hl2]
      have e : (l5L s l (out ++ [nodeOf b])).length - out.length = ((l5L s l (out ++ [nodeOf b])).length - (out.length + 1)) + 1 := by omega
      rw [e, List.drop_succ_cons]
theorem term_same (s : SigT) (hs : sigFault s = 0) (x : List Int) (hx : ∀ y ∈ x, 0 ≤ y ∧ y ≤ 255) : (l5R s x = [] → (termRd s (x, false, ())).2.2.1 = true) ∧
    (l5R s x ≠ [] → (1 ≤ (l5R s x).length ∧ (l5R s x).length ≤ x.length) ∧ l3F s (l5R s x) = 0 ∧ termRd s (x, false, ()) = (l5R s x, (x.drop (l5R s x).length, false, ()))) := by
  have h := term_main s hs x [] 0 26 hx rfl rfl (by simp) (by simp)
  refine ⟨h.1, fun hh => ?_⟩
  obtain ⟨g1, g2, g3, g4⟩ := h.2 hh
  exact ⟨⟨g1, by simpa [l5R] using g2⟩, g3, g4⟩
theorem termRd_failed (s : SigT) (x : List Int) : termRd s (x, true, ()) = ([], (x, true, ())) := by
  unfold termRd
  rw [tL_step _ _ _ _ _ (by decide), if_pos (.inr rfl)]
theorem l5R_len (s : SigT) (x : List Int) (hs : sigFault s = 0) (hx : ∀ y ∈ x, 0 ≤ y ∧ y ≤ 255) : (l5R s x).length ≤ 24 := by
  by_cases h : l5R s x = []
  · simp [h]
  · exact (l3F_ok s _ ((term_same s hs x hx).2 h).2.1).1.2
def allN (s : SigT) (t : List Int) : Prop := ∀ n ∈ t, nodeB s n = true
theorem allp_step (p : Int → Bool) (t : List Int) (i : Nat) (h : i < t.length) : (t.drop i).all p = (p (t.getD i 0) && (t.drop (i + 1)).all p) := by
  rw [drop_cons t 0 i h, List.all_cons]
theorem all_allN (s : SigT) (t : List Int) (h : t.all (nodeB s) = true) : allN s t := fun n hn => List.all_eq_true.1 h n hn
theorem l3F_2 (s : SigT) (t : List Int) (h : t.length < 1 ∨ t.length > 24) : l3F s t = 2 := by unfold l3F; exact if_pos h
theorem l3F_3 (s : SigT) (t : List Int) (h : ¬ (t.length < 1 ∨ t.length > 24)) (h2 : t.all (nodeB s) = false) : l3F s t = 3 := by unfold l3F; rw [if_neg h, if_pos h2]
theorem l3F_r (s : SigT) (t : List Int) (h : ¬ (t.length < 1 ∨ t.length > 24)) (h2 : t.all (nodeB s) = true) : l3F s t = if endP s t 0 ≠ t.length then 1 else 0 := by
  unfold l3F; rw [if_neg h, if_neg (by rw [h2]; decide)]
theorem l5L_step (s : SigT) (d : List Int) (i : Nat) (out : List Int) (h : i < d.length) : l5L s (d.drop i) out = if 24 ≤ out.length then [] else if okB s (d.getD i 0) = false then [] else if l3F s (out ++ [nodeOf (d.getD i 0)]) = 0 then out ++ [nodeOf (d.getD i 0)] else l5L s (d.drop (i + 1)) (out ++ [nodeOf (d.getD i 0)]) := by
  rw [drop_cons d 0 i h]; rfl
theorem l5L_end (s : SigT) (d : List Int) (i : Nat) (out : List Int) (h : d.length ≤ i) : l5L s (d.drop i) out = [] := by rw [List.drop_of_length_le h]; rfl
theorem l5L_full (s : SigT) (d out : List Int) (h : 24 ≤ out.length) : l5L s d out = [] := by
  cases d with
  | nil => rfl
  | cons b l => unfold l5L; exact if_pos h
/-- The place behind the term at a place, as the program tells it. -/
def endI (s : SigT) (t : List Int) (a : Int) : Int := match skp s 1 (t.drop a.toNat) with
  | some r => (t.length : Int) - r.length
  | none => t.length + 1
theorem endI_step (s : SigT) (t : List Int) (o b : Int) (hb : 0 ≤ b ∧ b < t.length) (ho : 0 < o) (hr : 0 ≤ ar s (t.getD b.toNat 0)) : skp s o.toNat (t.drop b.toNat) = skp s (o + (ar s (t.getD b.toNat 0) - 1)).toNat (t.drop (b.toNat + 1)) := by
  obtain ⟨k, hk⟩ : ∃ k, o.toNat = k + 1 := ⟨o.toNat - 1, by omega⟩
  rw [hk, drop_cons t 0 b.toNat (by omega), skp_cons]
  congr 1
  omega
theorem endI_out (s : SigT) (t : List Int) (a o b : Int) (ho : 0 < o) (hb : (t.length : Int) ≤ b) (h : skp s o.toNat (t.drop b.toNat) = skp s 1 (t.drop a.toNat)) : endI s t a = t.length + 1 := by
  obtain ⟨k, hk⟩ : ∃ k, o.toNat = k + 1 := ⟨o.toNat - 1, by omega⟩
  rw [hk, List.drop_of_length_le (by omega), skp_nil] at h
  unfold endI
  rw [← h]
theorem endI_done (s : SigT) (t : List Int) (a o b : Int) (ho : o ≤ 0) (hb : 0 ≤ b ∧ b ≤ t.length) (h : skp s o.toNat (t.drop b.toNat) = skp s 1 (t.drop a.toNat)) : endI s t a = b := by
  have e : o.toNat = 0 := by omega
  rw [e, skp_zero] at h
  unfold endI
  rw [← h]
  simp only [List.length_drop]
  omega
theorem endI_full (s : SigT) (t : List Int) : endI s t 0 = t.length ↔ endP s t 0 = t.length := by
  unfold endI endP
  cases skp s 1 (t.drop (0 : Int).toNat) with
  | none => simp <;> omega
  | some r => exact Iff.rfl
theorem l3F_I (s : SigT) (t : List Int) (h : ¬ (t.length < 1 ∨ t.length > 24)) (h2 : t.all (nodeB s) = true) : l3F s t = if endI s t 0 = t.length then 0 else 1 := by
  rw [l3F_r s t h h2]
  by_cases c : endP s t 0 = t.length
  · rw [if_neg (by simpa using c), if_pos ((endI_full s t).2 c)]
  · rw [if_pos c, if_neg (fun k => c ((endI_full s t).1 k))]
theorem any_not (s : SigT) (t : List Int) : t.any (fun n => !nodeB s n) = !t.all (nodeB s) := by
  induction t with
  | nil => rfl
  | cons x t ih => simp only [List.any_cons, List.all_cons, ih, Bool.not_and]
def grd (t : List Int) : Bool := t.all fun n => decide (0 ≤ n)
theorem any_neg (t : List Int) : t.any (fun n => decide (n < 0)) = !grd t := by
  unfold grd
  induction t with
  | nil => rfl
  | cons x t ih =>
    simp only [List.any_cons, List.all_cons, ih, Bool.not_and]
    congr 1
    by_cases h : x < 0 <;> simp [h] <;> omega
def short (a b : List Int) : Int := if grd a = false ∨ grd b = false then 1 else if a.length > 8 ∨ b.length > 8 then 2 else 0
def keyF (s : SigT) (a b : List Int) : Int := if termFault s a ≠ 0 then termFault s a else if termFault s b ≠ 0 then termFault s b else short a b
def l5Cut (s : SigT) (k : List Int) : List Int × List Int × Bool :=
  if (l5R s k).length = 0 then ([], [], false) else
  if (l5R s (k.drop (l5R s k).length)).length = 0 ∨ (l5R s k).length + (l5R s (k.drop (l5R s k).length)).length ≠ k.length ∨ short (l5R s k) (l5R s (k.drop (l5R s k).length)) ≠ 0 then ([], [], false)
  else (l5R s k, l5R s (k.drop (l5R s k).length), true)
def cutKey (s : SigT) (k : List Int) : Int × List Int × List Int × Unit := if sigFault s ≠ 0 then (sigFault s, [], [], ()) else if (l5Cut s k).2.2 = true then (0, (l5Cut s k).1, (l5Cut s k).2.1, ()) else (5, [], [], ())
theorem termFault_0 (s : SigT) (t : List Int) (hs : sigFault s = 0) (h : l3F s t = 0) : termFault s t = 0 := by
  unfold termFault; rw [if_neg (by simpa using hs), h]
theorem cut_same (s : SigT) (hs : sigFault s = 0) (k : List Int) (hk : ∀ y ∈ k, 0 ≤ y ∧ y ≤ 255) (a x b z : List Int) (f g : Bool) (h1 : termRd s (k, false, ()) = (a, (x, f, ()))) (h2 : termRd s (x, f, ()) = (b, (z, g, ()))) :
    cutKey s k = if (!g && decide (z.length = 0)) = true ∧ keyF s a b = 0 then (0, a, b, ()) else (5, [], [], ()) := by
  have hm := term_same s hs k hk
  unfold cutKey
  rw [if_neg (by simpa using hs)]
  by_cases c : l5R s k = []
  · have hf := hm.1 c
    rw [h1] at hf
    dsimp only at hf
    subst hf
    rw [termRd_failed] at h2
    injection h2 with _ e2
    injection e2 with _ e4
    injection e4 with e4 _
    subst e4
    have hc : l5Cut s k = ([], [], false) := by unfold l5Cut; exact if_pos (by rw [c]; rfl)
    rw [hc, if_neg (by simp), if_neg (by simp)]
  · obtain ⟨q1, q2, q3⟩ := hm.2 c
    rw [h1] at q3
    injection q3 with e1 e2
    injection e2 with e3 e4
    injection e4 with e4 _
    subst e1 e3 e4
    have hn := term_same s hs (k.drop (l5R s k).length) (fun y hy => hk y (List.mem_of_mem_drop hy))
    by_cases d : l5R s (k.drop (l5R s k).length) = []
    · have hf := hn.1 d
      rw [h2] at hf
      dsimp only at hf
      subst hf
      have hc : l5Cut s k = ([], [], false) := by unfold l5Cut; rw [if_neg (by omega)]; exact if_pos (.inl (by rw [d]; rfl))
      rw [hc, if_neg (by simp), if_neg (by simp)]
    · obtain ⟨p1, p2, p3⟩ := hn.2 d
      rw [h2] at p3
      injection p3 with e1 e2
      injection e2 with e3 e4
      injection e4 with e4 _
      subst e1 e3 e4
      have hky : keyF s (l5R s k) (l5R s (k.drop (l5R s k).length)) = short (l5R s k) (l5R s (k.drop (l5R s k).length)) := by
        unfold keyF
        rw [if_neg (by simpa using termFault_0 s _ hs q2), if_neg (by simpa using termFault_0 s _ hs p2)]
      rw [hky]
      rw [List.length_drop] at p1
      by_cases e : (l5R s (k.drop (l5R s k).length)).length = 0 ∨ (l5R s k).length + (l5R s (k.drop (l5R s k).length)).length ≠ k.length ∨ short (l5R s k) (l5R s (k.drop (l5R s k).length)) ≠ 0
      · have hc : l5Cut s k = ([], [], false) := by unfold l5Cut; rw [if_neg (by omega)]; exact if_pos e
        rw [hc, if_neg (by simp), if_neg]
        · rintro ⟨g1, g2⟩
          simp only [Bool.not_false, Bool.true_and, decide_eq_true_eq, List.length_drop] at g1
          rcases e with e | e | e
          · omega
          · omega
          · exact e g2
      · have hc : l5Cut s k = (l5R s k, l5R s (k.drop (l5R s k).length), true) := by unfold l5Cut; rw [if_neg (by omega)]; exact if_neg e
        rw [hc, if_pos rfl, if_pos]
        · simp only [not_or, Decidable.not_not] at e
          refine ⟨?_, e.2.2⟩
          simp only [Bool.not_false, Bool.true_and, decide_eq_true_eq, List.length_drop]
          omega
theorem l5Cut_len (s : SigT) (k : List Int) (hs : sigFault s = 0) (hk : ∀ y ∈ k, 0 ≤ y ∧ y ≤ 255) : (l5Cut s k).1.length ≤ 24 ∧ (l5Cut s k).2.1.length ≤ 24 := by
  unfold l5Cut
  split
  · simp
  split
  · simp
  · exact ⟨l5R_len s k hs hk, l5R_len s _ hs fun y hy => hk y (List.mem_of_mem_drop hy)⟩
theorem cutKey_len (s : SigT) (k : List Int) (hk : ∀ y ∈ k, 0 ≤ y ∧ y ≤ 255) : (cutKey s k).2.1.length ≤ 24 ∧ (cutKey s k).2.2.1.length ≤ 24 := by
  unfold cutKey
  split
  · simp
  rename_i h
  split
  · exact l5Cut_len s k (Decidable.not_not.1 h) hk
  · simp


def F_i_isNode (s : (List ((List Int) × (Int) × Unit)) × Unit) (n : Int) : Bool := nodeB s n
def Q_i_isNode (s : (List ((List Int) × (Int) × Unit)) × Unit) (n : Int) : Prop := True
def O_i_isNode : Opt := ⟨fun i => false, fun i => [], fun i => .done, fun i => none, fun i => false, fun i => [], fun i => false, fun i => none⟩
def τ_i_isNode : Env := Env.of [(2, (.int .i64)), (4, .bool), (32, (.pair (.sl (.pair .str (.pair (.int .i64) .unit))) .unit))] [] []

theorem ct_i_isNode (s : (List ((List Int) × (Int) × Unit)) × Unit) (n : Int) : Ct pg 94 [.dat (.pair (.sl (.pair .str (.pair (.int .i64) .unit))) .unit) s, .dat (.int .i64) n] ⟨[Q_i_isNode s n], [⟨.bool, .sh, F_i_isNode s n⟩], []⟩ := by
  refine ct_claim (O := O_i_isNode) (τ := τ_i_isNode) (EnvOk.of (by kernel_rfl) (by kernel_rfl)) (GOk.of (.cons ok_i_within (.cons ok_i_isSymbol .nil) : AllOk pg [(54, con_i_within), (112, con_i_isSymbol)])) mixed (Enters.of (by kernel_rfl)) (fn := Go.Proofs.Tryd.f94) (by kernel_rfl) rfl (by kernel_rfl) ?_
  intro hp hw
  have hq : Q_i_isNode s n := hp _ (List.mem_singleton.2 rfl)
  clear hp
  change claim Lg.std Alg.std τ_i_isNode (Gam.of [(54, ⟨true, g3 (pD (.int .i64)) (pD (.int .i64)) (pD (.int .i64)) fun n lo hi => .one ⟨[Q_i_within n lo hi], [⟨.bool, .sh, F_i_within n lo hi⟩], []⟩, [], false, 0⟩), (112, ⟨true, g2 (pD (.pair (.sl (.pair .str (.pair (.int .i64) .unit))) .unit)) (pD (.int .i64)) fun s n => .one ⟨[Q_i_isSymbol s n], [⟨.bool, .sh, F_i_isSymbol s n⟩], []⟩, [], false, 0⟩)]) O_i_isNode Go.Proofs.Tryd.f94 [.dat (.pair (.sl (.pair .str (.pair (.int .i64) .unit))) .unit) s, .dat (.int .i64) n] ⟨[Q_i_isNode s n], [⟨.bool, .sh, F_i_isNode s n⟩], []⟩
  generalize hg_F_i_within : F_i_within = g_F_i_within
  generalize hg_Q_i_within : Q_i_within = g_Q_i_within
  generalize hg_F_i_isSymbol : F_i_isSymbol = g_F_i_isSymbol
  generalize hg_Q_i_isSymbol : Q_i_isSymbol = g_Q_i_isSymbol
  generalize hR0 : F_i_isNode s n = R0
  generalize Q_i_isNode s n = Q0
  generalize hL : Lg.std = L
  generalize hA : Alg.std = A
  cbv
  subst hL hA
  try dsimp only [Ty.den]
  obtain ⟨s_0, ⟨⟩⟩ := s
  subst hR0 hg_F_i_within hg_Q_i_within hg_F_i_isSymbol hg_Q_i_isSymbol
  simp only [Lg.std, Alg.std, List.drop_zero, List.take_length, F_i_within, F_i_isSymbol, Q_i_within, Q_i_isSymbol, F_i_isNode, nodeB, isSym] at *
  all_goals grind
def con_i_isNode : Con := ⟨true, g2 (pD (.pair (.sl (.pair .str (.pair (.int .i64) .unit))) .unit)) (pD (.int .i64)) fun s n => .one ⟨[Q_i_isNode s n], [⟨.bool, .sh, F_i_isNode s n⟩], []⟩, [], false, 0⟩
theorem ok_i_isNode : ConOk pg 94 con_i_isNode := ConOk.g2 (Enters.of (by kernel_rfl)) ct_i_isNode

def F_i_arityOf (s : (List ((List Int) × (Int) × Unit)) × Unit) (n : Int) : Int := ar s n
def Q_i_arityOf (s : (List ((List Int) × (Int) × Unit)) × Unit) (n : Int) : Prop := n < s.1.length
def O_i_arityOf : Opt := ⟨fun i => false, fun i => [], fun i => .done, fun i => none, fun i => false, fun i => [], fun i => false, fun i => none⟩
def τ_i_arityOf : Env := Env.of [(2, (.int .i64)), (4, .bool), (30, (.sl (.pair .str (.pair (.int .i64) .unit)))), (32, (.pair (.sl (.pair .str (.pair (.int .i64) .unit))) .unit)), (110, (.pair .str (.pair (.int .i64) .unit)))] [] []

theorem ct_i_arityOf (s : (List ((List Int) × (Int) × Unit)) × Unit) (n : Int) : Ct pg 95 [.dat (.pair (.sl (.pair .str (.pair (.int .i64) .unit))) .unit) s, .dat (.int .i64) n] ⟨[Q_i_arityOf s n], [⟨(.int .i64), .sh, F_i_arityOf s n⟩], []⟩ := by
  refine ct_claim (O := O_i_arityOf) (τ := τ_i_arityOf) (EnvOk.of (by kernel_rfl) (by kernel_rfl)) (GOk.of (.nil : AllOk pg [])) mixed (Enters.of (by kernel_rfl)) (fn := Go.Proofs.Tryd.f95) (by kernel_rfl) rfl (by kernel_rfl) ?_
  intro hp hw
  have hq : Q_i_arityOf s n := hp _ (List.mem_singleton.2 rfl)
  clear hp
  change claim Lg.std Alg.std τ_i_arityOf (Gam.of []) O_i_arityOf Go.Proofs.Tryd.f95 [.dat (.pair (.sl (.pair .str (.pair (.int .i64) .unit))) .unit) s, .dat (.int .i64) n] ⟨[Q_i_arityOf s n], [⟨(.int .i64), .sh, F_i_arityOf s n⟩], []⟩
  generalize hR0 : F_i_arityOf s n = R0
  generalize Q_i_arityOf s n = Q0
  generalize hL : Lg.std = L
  generalize hA : Alg.std = A
  cbv
  subst hL hA
  try dsimp only [Ty.den]
  obtain ⟨s_0, ⟨⟩⟩ := s
  subst hR0
  simp only [Q_i_arityOf] at hq
  simp only [Lg.std, Alg.std, List.drop_zero, List.take_length, F_i_arityOf, ar, symD] at *
  all_goals grind
def con_i_arityOf : Con := ⟨true, g2 (pD (.pair (.sl (.pair .str (.pair (.int .i64) .unit))) .unit)) (pD (.int .i64)) fun s n => .one ⟨[Q_i_arityOf s n], [⟨(.int .i64), .sh, F_i_arityOf s n⟩], []⟩, [], false, 0⟩
theorem ok_i_arityOf : ConOk pg 95 con_i_arityOf := ConOk.g2 (Enters.of (by kernel_rfl)) ct_i_arityOf

def F_s_l2Symbol (s : (List ((List Int) × (Int) × Unit)) × Unit) (n : Int) : Bool := isSym s n
def Q_s_l2Symbol (s : (List ((List Int) × (Int) × Unit)) × Unit) (n : Int) : Prop := True
def O_s_l2Symbol : Opt := ⟨fun i => false, fun i => [], fun i => .done, fun i => none, fun i => false, fun i => [], fun i => false, fun i => none⟩
def τ_s_l2Symbol : Env := Env.of [(2, (.int .i64)), (3, (.int .i64)), (4, .bool), (30, (.sl (.pair .str (.pair (.int .i64) .unit)))), (32, (.pair (.sl (.pair .str (.pair (.int .i64) .unit))) .unit))] [(86, (.pair (.sl (.pair .str (.pair (.int .i64) .unit))) .unit))] []

theorem ct_s_l2Symbol (s : (List ((List Int) × (Int) × Unit)) × Unit) (n : Int) : Ct pg 109 [.dptr (.pair (.sl (.pair .str (.pair (.int .i64) .unit))) .unit) s, .dat (.int .i64) n] ⟨[Q_s_l2Symbol s n], [⟨.bool, .sh, F_s_l2Symbol s n⟩], []⟩ := by
  refine ct_claim (O := O_s_l2Symbol) (τ := τ_s_l2Symbol) (EnvOk.of (by kernel_rfl) (by kernel_rfl)) (GOk.of (.cons ok_s_l1In .nil : AllOk pg [(48, con_s_l1In)])) mixed (Enters.of (by kernel_rfl)) (fn := Go.Proofs.Tryd.f109) (by kernel_rfl) rfl (by kernel_rfl) ?_
  intro hp hw
  have hq : Q_s_l2Symbol s n := hp _ (List.mem_singleton.2 rfl)
  clear hp
  change claim Lg.std Alg.std τ_s_l2Symbol (Gam.of [(48, ⟨true, g3 (pD (.int .i64)) (pD (.int .i64)) (pD (.int .i64)) fun n lo hi => .one ⟨[Q_s_l1In n lo hi], [⟨.bool, .sh, F_s_l1In n lo hi⟩], []⟩, [], false, 0⟩)]) O_s_l2Symbol Go.Proofs.Tryd.f109 [.dptr (.pair (.sl (.pair .str (.pair (.int .i64) .unit))) .unit) s, .dat (.int .i64) n] ⟨[Q_s_l2Symbol s n], [⟨.bool, .sh, F_s_l2Symbol s n⟩], []⟩
  generalize hg_F_s_l1In : F_s_l1In = g_F_s_l1In
  generalize hg_Q_s_l1In : Q_s_l1In = g_Q_s_l1In
  generalize hR0 : F_s_l2Symbol s n = R0
  generalize Q_s_l2Symbol s n = Q0
  generalize hL : Lg.std = L
  generalize hA : Alg.std = A
  cbv
  subst hL hA
  try dsimp only [Ty.den]
  obtain ⟨s_0, ⟨⟩⟩ := s
  have hl := hw.1.1.1
  subst hR0 hg_F_s_l1In hg_Q_s_l1In
  simp only [Q_s_l2Symbol] at hq
  simp only [Lg.std, Alg.std, List.drop_zero, List.take_length, F_s_l1In, Q_s_l1In, F_s_l2Symbol, isSym]
  all_goals grind
def con_s_l2Symbol : Con := ⟨true, g2 (pP (.pair (.sl (.pair .str (.pair (.int .i64) .unit))) .unit)) (pD (.int .i64)) fun s n => .one ⟨[Q_s_l2Symbol s n], [⟨.bool, .sh, F_s_l2Symbol s n⟩], []⟩, [], false, 0⟩
theorem ok_s_l2Symbol : ConOk pg 109 con_s_l2Symbol := ConOk.g2 (Enters.of (by kernel_rfl)) ct_s_l2Symbol

def F_s_l3Node (s : (List ((List Int) × (Int) × Unit)) × Unit) (n : Int) : Bool := nodeB s n
def Q_s_l3Node (s : (List ((List Int) × (Int) × Unit)) × Unit) (n : Int) : Prop := True
def O_s_l3Node : Opt := ⟨fun i => false, fun i => [], fun i => .done, fun i => none, fun i => false, fun i => [], fun i => false, fun i => none⟩
def τ_s_l3Node : Env := Env.of [(2, (.int .i64)), (4, .bool)] [(86, (.pair (.sl (.pair .str (.pair (.int .i64) .unit))) .unit))] []

theorem ct_s_l3Node (s : (List ((List Int) × (Int) × Unit)) × Unit) (n : Int) : Ct pg 110 [.dptr (.pair (.sl (.pair .str (.pair (.int .i64) .unit))) .unit) s, .dat (.int .i64) n] ⟨[Q_s_l3Node s n], [⟨.bool, .sh, F_s_l3Node s n⟩], []⟩ := by
  refine ct_claim (O := O_s_l3Node) (τ := τ_s_l3Node) (EnvOk.of (by kernel_rfl) (by kernel_rfl)) (GOk.of (.cons ok_s_l1In (.cons ok_s_l2Symbol .nil) : AllOk pg [(48, con_s_l1In), (109, con_s_l2Symbol)])) mixed (Enters.of (by kernel_rfl)) (fn := Go.Proofs.Tryd.f110) (by kernel_rfl) rfl (by kernel_rfl) ?_
  intro hp hw
  have hq : Q_s_l3Node s n := hp _ (List.mem_singleton.2 rfl)
  clear hp
  change claim Lg.std Alg.std τ_s_l3Node (Gam.of [(48, ⟨true, g3 (pD (.int .i64)) (pD (.int .i64)) (pD (.int .i64)) fun n lo hi => .one ⟨[Q_s_l1In n lo hi], [⟨.bool, .sh, F_s_l1In n lo hi⟩], []⟩, [], false, 0⟩), (109, ⟨true, g2 (pP (.pair (.sl (.pair .str (.pair (.int .i64) .unit))) .unit)) (pD (.int .i64)) fun s n => .one ⟨[Q_s_l2Symbol s n], [⟨.bool, .sh, F_s_l2Symbol s n⟩], []⟩, [], false, 0⟩)]) O_s_l3Node Go.Proofs.Tryd.f110 [.dptr (.pair (.sl (.pair .str (.pair (.int .i64) .unit))) .unit) s, .dat (.int .i64) n] ⟨[Q_s_l3Node s n], [⟨.bool, .sh, F_s_l3Node s n⟩], []⟩
  generalize hg_F_s_l1In : F_s_l1In = g_F_s_l1In
  generalize hg_Q_s_l1In : Q_s_l1In = g_Q_s_l1In
  generalize hg_F_s_l2Symbol : F_s_l2Symbol = g_F_s_l2Symbol
  generalize hg_Q_s_l2Symbol : Q_s_l2Symbol = g_Q_s_l2Symbol
  generalize hR0 : F_s_l3Node s n = R0
  generalize Q_s_l3Node s n = Q0
  generalize hL : Lg.std = L
  generalize hA : Alg.std = A
  cbv
  subst hL hA
  try dsimp only [Ty.den]
  subst hR0 hg_F_s_l1In hg_Q_s_l1In hg_F_s_l2Symbol hg_Q_s_l2Symbol
  simp only [Q_s_l3Node] at hq
  simp only [Lg.std, Alg.std, List.drop_zero, List.take_length, F_s_l1In, F_s_l2Symbol, Q_s_l1In, Q_s_l2Symbol, F_s_l3Node]
  all_goals grind [nodeB]
def con_s_l3Node : Con := ⟨true, g2 (pP (.pair (.sl (.pair .str (.pair (.int .i64) .unit))) .unit)) (pD (.int .i64)) fun s n => .one ⟨[Q_s_l3Node s n], [⟨.bool, .sh, F_s_l3Node s n⟩], []⟩, [], false, 0⟩
theorem ok_s_l3Node : ConOk pg 110 con_s_l3Node := ConOk.g2 (Enters.of (by kernel_rfl)) ct_s_l3Node

def F_s_l5Node (s : (List ((List Int) × (Int) × Unit)) × Unit) (b : Int) : Int := nodeOf b
def F_s_l5Node_1 (s : (List ((List Int) × (Int) × Unit)) × Unit) (b : Int) : Bool := okB s b
def Q_s_l5Node (s : (List ((List Int) × (Int) × Unit)) × Unit) (b : Int) : Prop := True
def O_s_l5Node : Opt := ⟨fun i => false, fun i => [], fun i => .done, fun i => none, fun i => false, fun i => [], fun i => false, fun i => none⟩
def τ_s_l5Node : Env := Env.of [(2, (.int .i64)), (4, .bool), (5, (.int .u8))] [(86, (.pair (.sl (.pair .str (.pair (.int .i64) .unit))) .unit))] []

theorem ct_s_l5Node (s : (List ((List Int) × (Int) × Unit)) × Unit) (b : Int) : Ct pg 91 [.dptr (.pair (.sl (.pair .str (.pair (.int .i64) .unit))) .unit) s, .dat (.int .u8) b] ⟨[Q_s_l5Node s b], [⟨(.int .i64), .sh, F_s_l5Node s b⟩, ⟨.bool, .sh, F_s_l5Node_1 s b⟩], []⟩ := by
  refine ct_claim (O := O_s_l5Node) (τ := τ_s_l5Node) (EnvOk.of (by kernel_rfl) (by kernel_rfl)) (GOk.of (.cons ok_s_l2Symbol (.cons ok_s_l3Node .nil) : AllOk pg [(109, con_s_l2Symbol), (110, con_s_l3Node)])) mixed (Enters.of (by kernel_rfl)) (fn := Go.Proofs.Tryd.f91) (by kernel_rfl) rfl (by kernel_rfl) ?_
  intro hp hw
  have hq : Q_s_l5Node s b := hp _ (List.mem_singleton.2 rfl)
  clear hp
  change claim Lg.std Alg.std τ_s_l5Node (Gam.of [(109, ⟨true, g2 (pP (.pair (.sl (.pair .str (.pair (.int .i64) .unit))) .unit)) (pD (.int .i64)) fun s n => .one ⟨[Q_s_l2Symbol s n], [⟨.bool, .sh, F_s_l2Symbol s n⟩], []⟩, [], false, 0⟩), (110, ⟨true, g2 (pP (.pair (.sl (.pair .str (.pair (.int .i64) .unit))) .unit)) (pD (.int .i64)) fun s n => .one ⟨[Q_s_l3Node s n], [⟨.bool, .sh, F_s_l3Node s n⟩], []⟩, [], false, 0⟩)]) O_s_l5Node Go.Proofs.Tryd.f91 [.dptr (.pair (.sl (.pair .str (.pair (.int .i64) .unit))) .unit) s, .dat (.int .u8) b] ⟨[Q_s_l5Node s b], [⟨(.int .i64), .sh, F_s_l5Node s b⟩, ⟨.bool, .sh, F_s_l5Node_1 s b⟩], []⟩
  generalize hg_F_s_l2Symbol : F_s_l2Symbol = g_F_s_l2Symbol
  generalize hg_Q_s_l2Symbol : Q_s_l2Symbol = g_Q_s_l2Symbol
  generalize hg_F_s_l3Node : F_s_l3Node = g_F_s_l3Node
  generalize hg_Q_s_l3Node : Q_s_l3Node = g_Q_s_l3Node
  generalize hR0 : F_s_l5Node s b = R0
  generalize hR1 : F_s_l5Node_1 s b = R1
  generalize Q_s_l5Node s b = Q0
  generalize hL : Lg.std = L
  generalize hA : Alg.std = A
  cbv
  subst hL hA
  try dsimp only [Ty.den]
  have hb : 0 ≤ b ∧ b ≤ 255 := u8s (a := [b]) (fun x hx => by rw [List.mem_singleton.1 hx]; exact hw.2.1) b (by simp)
  subst hR0 hR1 hg_F_s_l2Symbol hg_Q_s_l2Symbol hg_F_s_l3Node hg_Q_s_l3Node
  simp only [Lg.std, Alg.std, List.drop_zero, List.take_length, F_s_l2Symbol, F_s_l3Node, Q_s_l2Symbol, Q_s_l3Node, F_s_l5Node, F_s_l5Node_1, nodeOf, okB] at *
  all_goals grind
def con_s_l5Node : Con := ⟨true, g2 (pP (.pair (.sl (.pair .str (.pair (.int .i64) .unit))) .unit)) (pD (.int .u8)) fun s b => .one ⟨[Q_s_l5Node s b], [⟨(.int .i64), .sh, F_s_l5Node s b⟩, ⟨.bool, .sh, F_s_l5Node_1 s b⟩], []⟩, [], false, 0⟩
theorem ok_s_l5Node : ConOk pg 91 con_s_l5Node := ConOk.g2 (Enters.of (by kernel_rfl)) ct_s_l5Node

def F_i_byteReader_term (r : (List (Int)) × (Bool) × Unit) (s : (List ((List Int) × (Int) × Unit)) × Unit) : List (Int) := (termRd s r).1
def B_i_byteReader_term_r (r : (List (Int)) × (Bool) × Unit) (s : (List ((List Int) × (Int) × Unit)) × Unit) : (List (Int)) × (Bool) × Unit := (termRd s r).2
def Q_i_byteReader_term (r : (List (Int)) × (Bool) × Unit) (s : (List ((List Int) × (Int) × Unit)) × Unit) : Prop := sigFault s = 0
def O_i_byteReader_term : Opt := ⟨fun i => false, fun i => (match decide (i = 3) with | true => [true, false, false, true, false, true, true, false, false, false, false, false, false, false, false, false, false, false, false, false, false, false, false, false, false, false, false, false, false, false, false, false, false, false, false, false, false, false, false, false, false, false, false, false, false, false, false, false, false, false, false, false, false, false] | false => []), fun i => .done, fun i => none, fun i => (match decide (i = 3) with | true => true | false => false), fun i => [], fun i => false, fun i => none⟩
def τ_i_byteReader_term : Env := Env.of [(2, (.int .i64)), (3, (.int .i64)), (4, .bool), (32, (.pair (.sl (.pair .str (.pair (.int .i64) .unit))) .unit)), (48, (.sl (.int .i64))), (81, (.pair (.sl (.int .u8)) (.pair .bool .unit)))] [(79, (.pair (.sl (.int .u8)) (.pair .bool .unit)))] []

theorem ct_i_byteReader_term (r : (List (Int)) × (Bool) × Unit) (s : (List ((List Int) × (Int) × Unit)) × Unit) : Ct pg 64 [.mp (.pair (.sl (.int .u8)) (.pair .bool .unit)) .sh r, .dat (.pair (.sl (.pair .str (.pair (.int .i64) .unit))) .unit) s] ⟨[Q_i_byteReader_term r s], [⟨(.sl (.int .i64)), (.ow .sh), F_i_byteReader_term r s⟩], [.mp (.pair (.sl (.int .u8)) (.pair .bool .unit)) .sh (B_i_byteReader_term_r r s)]⟩ := by
  refine ct_claim (O := O_i_byteReader_term) (τ := τ_i_byteReader_term) (EnvOk.of (by kernel_rfl) (by kernel_rfl)) (GOk.of (.cons ok_i_byteReader_one (.cons ok_i_isNode (.cons ok_i_arityOf .nil)) : AllOk pg [(80, con_i_byteReader_one), (94, con_i_isNode), (95, con_i_arityOf)])) mixed (Enters.of (by kernel_rfl)) (fn := Go.Proofs.Tryd.f64) (by kernel_rfl) rfl (by kernel_rfl) ?_
  intro hp hw
  have hq : Q_i_byteReader_term r s := hp _ (List.mem_singleton.2 rfl)
  clear hp
  change claim Lg.std Alg.std τ_i_byteReader_term (Gam.of [(80, ⟨true, g1 (pW (.pair (.sl (.int .u8)) (.pair .bool .unit)) .sh) fun r => .one ⟨[Q_i_byteReader_one r], [⟨(.int .i64), .sh, F_i_byteReader_one r⟩], [.mp (.pair (.sl (.int .u8)) (.pair .bool .unit)) .sh (B_i_byteReader_one_r r)]⟩, [.sh], false, 0⟩), (94, ⟨true, g2 (pD (.pair (.sl (.pair .str (.pair (.int .i64) .unit))) .unit)) (pD (.int .i64)) fun s n => .one ⟨[Q_i_isNode s n], [⟨.bool, .sh, F_i_isNode s n⟩], []⟩, [], false, 0⟩), (95, ⟨true, g2 (pD (.pair (.sl (.pair .str (.pair (.int .i64) .unit))) .unit)) (pD (.int .i64)) fun s n => .one ⟨[Q_i_arityOf s n], [⟨(.int .i64), .sh, F_i_arityOf s n⟩], []⟩, [], false, 0⟩)]) O_i_byteReader_term Go.Proofs.Tryd.f64 [.mp (.pair (.sl (.int .u8)) (.pair .bool .unit)) .sh r, .dat (.pair (.sl (.pair .str (.pair (.int .i64) .unit))) .unit) s] ⟨[Q_i_byteReader_term r s], [⟨(.sl (.int .i64)), (.ow .sh), F_i_byteReader_term r s⟩], [.mp (.pair (.sl (.int .u8)) (.pair .bool .unit)) .sh (B_i_byteReader_term_r r s)]⟩
  generalize hg_F_i_byteReader_one : F_i_byteReader_one = g_F_i_byteReader_one
  generalize hg_B_i_byteReader_one_r : B_i_byteReader_one_r = g_B_i_byteReader_one_r
  generalize hg_Q_i_byteReader_one : Q_i_byteReader_one = g_Q_i_byteReader_one
  generalize hg_F_i_isNode : F_i_isNode = g_F_i_isNode
  generalize hg_Q_i_isNode : Q_i_isNode = g_Q_i_isNode
  generalize hg_F_i_arityOf : F_i_arityOf = g_F_i_arityOf
  generalize hg_Q_i_arityOf : Q_i_arityOf = g_Q_i_arityOf
  generalize hR0 : F_i_byteReader_term r s = R0
  generalize hB_r : B_i_byteReader_term_r r s = B_r
  generalize Q_i_byteReader_term r s = Q0
  generalize hL : Lg.std = L
  generalize hA : Alg.std = A
  cbv
  subst hL hA
  try dsimp only [Ty.den]
  obtain ⟨r_0, r_1, ⟨⟩⟩ := r
  obtain ⟨s_0, ⟨⟩⟩ := s
  simp only [Q_i_byteReader_term] at hq
  have hby := u8s hw.1.1.2
  refine lp_v (V := (Nat) × (Int) × (List Int) × (Bool) × (Nat) × (List Int)) (fun ((g, o, x, f, N, out) : (Nat) × (Int) × (List Int) × (Bool) × (Nat) × (List Int)) => ⟨[.bptr 0 0, .junk, .junk, .bptr 1 0, .junk, .ref (.int .i64) 2 0 [] 0 N, .dat (.int .i64) o, .junk, .junk, .junk, .junk, .junk, .junk, .junk, .junk, .junk, .junk, .junk, .junk, .junk, .junk, .junk, .junk, .junk, .junk, .junk, .junk, .junk, .junk, .junk, .junk, .junk, .junk, .junk, .junk, .junk, .junk, .junk, .junk, .junk, .junk, .junk, .junk, .junk, .junk, .junk, .junk, .junk, .junk, .junk, .junk, .junk, .junk, .junk], [some (.box [.dat (.sl (.int .u8)) x, .dat .bool f]), some (.box [.dat (.sl (.pair .str (.pair (.int .i64) .unit))) s_0]), some (.row 0 (.int .i64) .sh out), some (.gh [.bptr 0 0])]⟩) (fun ((g, o, x, f, N, out) : (Nat) × (Int) × (List Int) × (Bool) × (Nat) × (List Int)) => sigFault (s_0, PUnit.unit) = 0 ∧ N = out.length ∧ out.length ≤ 24 ∧ g + out.length = 26 ∧ 0 ≤ o ∧ o ≤ 1 + out.length ∧ (∀ y ∈ x, 0 ≤ y ∧ y ≤ 255) ∧ tL (s_0, PUnit.unit) g o (x, f, ()) out = termRd (s_0, PUnit.unit) (r_0, r_1, ())) (fun ((g, o, x, f, N, out) : (Nat) × (Int) × (List Int) × (Bool) × (Nat) × (List Int)) => g) (26, 1, _, _, _, _) rfl ?_ ?_
  · (subst hR0 hB_r hg_F_i_byteReader_one hg_B_i_byteReader_one_r hg_Q_i_byteReader_one hg_F_i_isNode hg_Q_i_isNode hg_F_i_arityOf hg_Q_i_arityOf; simp only [Alg.std] at *; exact ⟨hq, rfl, by simp, by simp, by simp, by simp, hby, rfl⟩)
  rintro ⟨g, o, x, f, N, out⟩ hf I hI
  replace hf : sigFault (s_0, PUnit.unit) = 0 ∧ N = out.length ∧ out.length ≤ 24 ∧ g + out.length = 26 ∧ 0 ≤ o ∧ o ≤ 1 + out.length ∧ (∀ y ∈ x, 0 ≤ y ∧ y ≤ 255) ∧ tL (s_0, PUnit.unit) g o (x, f, ()) out = termRd (s_0, PUnit.unit) (r_0, r_1, ()) := hf
  generalize hL : Lg.std = L
  generalize hA : Alg.std = A
  cbv
  subst hL hA
  try dsimp only [Ty.den]
  subst hI
  generalize g1 : g_B_i_byteReader_one_r (x, f, PUnit.unit) = r1 at *
  obtain ⟨x1, f1, ⟨⟩⟩ := r1
  try dsimp only
  have by1 := rdOne_byte x f hf.2.2.2.2.2.2.1
  have by2 := fun (e : rdNext (x, f, ()) 1 = (x1, f1, ())) => rdNext_bytes x f 1 x1 f1 e hf.2.2.2.2.2.2.1
  have st := tL_step (s_0, PUnit.unit) g o (x, f, ()) out (by have := hf.2.2.1; have := hf.2.2.2.1; omega)
  have ha := ar_rng (s_0, PUnit.unit) hf.1 (nodeOf (rdOne (x, f, ())))
  have hn : nodeB (s_0, PUnit.unit) (nodeOf (rdOne (x, f, ()))) = true → nodeOf (rdOne (x, f, ())) < s_0.length := fun h => by simp only [nodeB, isSym, Bool.or_eq_true, decide_eq_true_eq] at h; omega
  have hno : nodeOf (rdOne (x, f, ())) = if rdOne (x, f, ()) < 32 then rdOne (x, f, ()) - 1 else 31 - rdOne (x, f, ()) := rfl
  obtain ⟨h1, h2, h3, h4, h5, h6, h7, h8⟩ := hf
  repeat' (first | intro _ | apply And.intro)
  all_goals first | (with_reducible exact True.intro) | ((fail_if_success (refine lp_v (V := Unit) (fun _ => ⟨[], []⟩) (fun _ => True) (fun _ => 0) () ?_ ?_ ?_)); (try simp only [Lg.std, Alg.std, List.drop_zero, List.take_length] at *); (try refine ⟨(g - 1, _, _, _, _, _), rfl, ?_, ?_⟩); (all_goals (subst hR0 hB_r hg_F_i_byteReader_one hg_B_i_byteReader_one_r hg_Q_i_byteReader_one hg_F_i_isNode hg_Q_i_isNode hg_F_i_arityOf hg_Q_i_arityOf; (try simp only [Lg.std, Alg.std, List.drop_zero, List.take_length, F_i_byteReader_one, F_i_isNode, F_i_arityOf, B_i_byteReader_one_r, Q_i_byteReader_one, Q_i_isNode, Q_i_arityOf, F_i_byteReader_term, B_i_byteReader_term_r] at *); first | done | ((try simp only [g1, decide_eq_true_eq, decide_eq_false_iff_not, Bool.not_eq_eq_eq_not, Bool.not_true, Bool.not_false] at *); grind)))) | skip
def con_i_byteReader_term : Con := ⟨true, g2 (pW (.pair (.sl (.int .u8)) (.pair .bool .unit)) .sh) (pD (.pair (.sl (.pair .str (.pair (.int .i64) .unit))) .unit)) fun r s => .one ⟨[Q_i_byteReader_term r s], [⟨(.sl (.int .i64)), (.ow .sh), F_i_byteReader_term r s⟩], [.mp (.pair (.sl (.int .u8)) (.pair .bool .unit)) .sh (B_i_byteReader_term_r r s)]⟩, [.sh], false, 0⟩
theorem ok_i_byteReader_term : ConOk pg 64 con_i_byteReader_term := ConOk.g2 (Enters.of (by kernel_rfl)) ct_i_byteReader_term

def F_s_l3End (s : (List ((List Int) × (Int) × Unit)) × Unit) (t : List (Int)) (a : Int) : Int := endP s t a
def Q_s_l3End (s : (List ((List Int) × (Int) × Unit)) × Unit) (t : List (Int)) (a : Int) : Prop := sigFault s = 0 ∧ allN s t ∧ 0 ≤ a ∧ t.length ≤ 1048576
def O_s_l3End : Opt := ⟨fun i => (match decide (i = 7) with | true => true | false => false), fun i => (match decide (i = 7) with | true => [true, true, true, false, false, false, false, true, true, false, false, false, false, false, false, false, false, false, false, false, false, false, false, false, false, false, false, false, false, false, false, false, false, false, false, false, false, false, false, false, false, false, false, false] | false => []), fun i => .done, fun i => none, fun i => false, fun i => [], fun i => false, fun i => none⟩
def τ_s_l3End : Env := Env.of [(2, (.int .i64)), (3, (.int .i64)), (4, .bool), (30, (.sl (.pair .str (.pair (.int .i64) .unit)))), (32, (.pair (.sl (.pair .str (.pair (.int .i64) .unit))) .unit)), (48, (.sl (.int .i64))), (110, (.pair .str (.pair (.int .i64) .unit)))] [(86, (.pair (.sl (.pair .str (.pair (.int .i64) .unit))) .unit))] []

def Qr_s_l3End (n : Nat) (s : (List ((List Int) × (Int) × Unit)) × Unit) (t : List (Int)) (a : Int) : Prop := Q_s_l3End s t a ∧ (t.length - a.toNat) < n
def conr_s_l3End (n : Nat) : Con := ⟨true, g3 (pP (.pair (.sl (.pair .str (.pair (.int .i64) .unit))) .unit)) (pD (.sl (.int .i64))) (pD (.int .i64)) fun s t a => .one ⟨[Qr_s_l3End n s t a], [⟨(.int .i64), .sh, F_s_l3End s t a⟩], []⟩, [], false, 0⟩
theorem ctr_s_l3End (n : Nat) : ∀ (s : (List ((List Int) × (Int) × Unit)) × Unit) (t : List (Int)) (a : Int), Ct pg 111 [.dptr (.pair (.sl (.pair .str (.pair (.int .i64) .unit))) .unit) s, .dat (.sl (.int .i64)) t, .dat (.int .i64) a] ⟨[Qr_s_l3End n s t a], [⟨(.int .i64), .sh, F_s_l3End s t a⟩], []⟩ := by
  induction n with
  | zero => exact fun s t a => Ct.never (fun hp => Nat.not_lt_zero _ (hp _ (List.mem_singleton.2 rfl)).2)
  | succ n ih =>
    have okr : ConOk pg 111 (conr_s_l3End n) := ConOk.g3 (Enters.of (by kernel_rfl)) ih
    intro s t a
    refine ct_claim (O := O_s_l3End) (τ := τ_s_l3End) (EnvOk.of (by kernel_rfl) (by kernel_rfl)) (GOk.of (.cons okr .nil : AllOk pg [(111, conr_s_l3End n)])) mixed (Enters.of (by kernel_rfl)) (fn := Go.Proofs.Tryd.f111) (by kernel_rfl) rfl (by kernel_rfl) ?_
    intro hp hw
    clear okr ih
    have hq : (Qr_s_l3End (n + 1)) s t a := hp _ (List.mem_singleton.2 rfl)
    clear hp
    change claim Lg.std Alg.std τ_s_l3End (Gam.of [(111, ⟨true, g3 (pP (.pair (.sl (.pair .str (.pair (.int .i64) .unit))) .unit)) (pD (.sl (.int .i64))) (pD (.int .i64)) fun s t a => .one ⟨[Qr_s_l3End n s t a], [⟨(.int .i64), .sh, F_s_l3End s t a⟩], []⟩, [], false, 0⟩)]) O_s_l3End Go.Proofs.Tryd.f111 [.dptr (.pair (.sl (.pair .str (.pair (.int .i64) .unit))) .unit) s, .dat (.sl (.int .i64)) t, .dat (.int .i64) a] ⟨[Qr_s_l3End (n + 1) s t a], [⟨(.int .i64), .sh, F_s_l3End s t a⟩], []⟩
    generalize hR0 : F_s_l3End s t a = R0
    generalize (Qr_s_l3End (n + 1)) s t a = Q0
    generalize hg_F_s_l3End : F_s_l3End = g_F_s_l3End
    generalize hg_Qr_s_l3End : Qr_s_l3End n = g_Qr_s_l3End
    generalize hL : Lg.std = L
    generalize hA : Alg.std = A
    cbv
    subst hL hA
    try dsimp only [Ty.den]
    obtain ⟨s_0, ⟨⟩⟩ := s
    simp only [Qr_s_l3End, Q_s_l3End] at hq
    obtain ⟨⟨hqs, hqt, hk0, hql⟩, hqm⟩ := hq
    have key : a < t.length → (t.getD a.toNat 0 < s_0.length ∧ 0 ≤ ar (s_0, PUnit.unit) (t.getD a.toNat 0) ∧ ar (s_0, PUnit.unit) (t.getD a.toNat 0) ≤ 2 ∧ (0 ≤ t.getD a.toNat 0 → ar (s_0, PUnit.unit) (t.getD a.toNat 0) = (s_0.getD (t.getD a.toNat 0).toNat ([], 0, PUnit.unit)).2.1)) := fun h => by
      have hn := hqt _ (getD_mem t 0 a.toNat (by omega))
      have hr := ar_rng _ hqs _ hn
      simp only [nodeB, isSym, Bool.or_eq_true, decide_eq_true_eq] at hn
      have hs1 := (sig_good _ hqs).1
      dsimp only at hs1
      exact ⟨by omega, hr.1, hr.2, fun h => by unfold ar; rw [if_neg (by omega)]⟩
    have w1 := endP_ge (s_0, PUnit.unit) t a
    have w2 := endP_var (s_0, PUnit.unit) t a hk0
    repeat' (first | intro _ | apply And.intro)
    all_goals first | trivial | ((fail_if_success (refine lp_v (V := Unit) (fun _ => ⟨[], []⟩) (fun _ => True) (fun _ => 0) () ?_ ?_ ?_)); subst hR0 hg_F_s_l3End hg_Qr_s_l3End; (try simp only [Alg.std, F_s_l3End, Qr_s_l3End, Q_s_l3End] at *); all_goals grind) | skip
    all_goals (
      refine lp_v (V := (Int) × (Int)) (fun ((i, e) : (Int) × (Int)) => ⟨[.dptr (.pair (.sl (.pair .str (.pair (.int .i64) .unit))) .unit) (s_0, PUnit.unit), .dat (.sl (.int .i64)) t, .dat (.int .i64) a, .junk, .junk, .junk, .junk, .dat (.int .i64) e, .dat (.int .i64) i, .junk, .junk, .junk, .junk, .junk, .junk, .junk, .junk, .junk, .junk, .junk, .junk, .junk, .junk, .junk, .junk, .junk, .junk, .junk, .junk, .junk, .junk, .junk, .junk, .junk, .junk, .junk, .junk, .junk, .junk, .junk, .junk, .junk, .junk, .junk], []⟩) (fun ((i, e) : (Int) × (Int)) => a < t.length ∧ 0 ≤ t.getD a.toNat 0 ∧ 0 ≤ i ∧ i ≤ ar (s_0, PUnit.unit) (t.getD a.toNat 0) ∧ a + 1 ≤ e ∧ e ≤ t.length ∧ skp (s_0, PUnit.unit) (ar (s_0, PUnit.unit) (t.getD a.toNat 0) - i).toNat (t.drop e.toNat) = skp (s_0, PUnit.unit) (ar (s_0, PUnit.unit) (t.getD a.toNat 0)).toNat (t.drop (a.toNat + 1))) (fun ((i, e) : (Int) × (Int)) => (ar (s_0, PUnit.unit) (t.getD a.toNat 0) - i).toNat) (0, _) rfl ?_ ?_
      · (subst hR0 hg_F_s_l3End hg_Qr_s_l3End; simp only [Alg.std, decide_eq_true_eq, decide_eq_false_iff_not] at *; have ea : (a + 1).toNat = a.toNat + 1 := (by omega); have key := key (by omega); refine ⟨by omega, by omega, by omega, by omega, by omega, by omega, ?_⟩; rw [ea, Int.sub_zero])
      rintro ⟨i, e⟩ hf I hI
      replace hf : a < t.length ∧ 0 ≤ t.getD a.toNat 0 ∧ 0 ≤ i ∧ i ≤ ar (s_0, PUnit.unit) (t.getD a.toNat 0) ∧ a + 1 ≤ e ∧ e ≤ t.length ∧ skp (s_0, PUnit.unit) (ar (s_0, PUnit.unit) (t.getD a.toNat 0) - i).toNat (t.drop e.toNat) = skp (s_0, PUnit.unit) (ar (s_0, PUnit.unit) (t.getD a.toNat 0)).toNat (t.drop (a.toNat + 1)) := hf
      generalize hL : Lg.std = L
      generalize hA : Alg.std = A
      cbv
      subst hL hA
      try dsimp only [Ty.den]
      subst hI
      obtain ⟨h1, h2, h3, h4, h5, h6, h7⟩ := hf
      have rr := fun (hik : i < ar (s_0, PUnit.unit) (t.getD a.toNat 0)) => endP_round (s_0, PUnit.unit) t a e _ i hk0 h1 rfl ⟨h3, hik⟩ ⟨h5, h6⟩ h7
      have dd := fun (hik : ¬ i < ar (s_0, PUnit.unit) (t.getD a.toNat 0)) => endP_done (s_0, PUnit.unit) t a e _ hk0 h1 rfl ⟨h5, h6⟩ ((show (ar (s_0, PUnit.unit) (t.getD a.toNat 0) - i).toNat = 0 by omega) ▸ h7)
      have ec := endP_cases (s_0, PUnit.unit) t e (by omega) h6
      replace key := key h1
      repeat' (first | intro _ | apply And.intro)
      all_goals first | (with_reducible exact True.intro) | ((fail_if_success (refine lp_v (V := Unit) (fun _ => ⟨[], []⟩) (fun _ => True) (fun _ => 0) () ?_ ?_ ?_)); (try simp only [Lg.std, Alg.std, List.drop_zero, List.take_length] at *); (try refine ⟨(_, _), rfl, ?_, ?_⟩); (all_goals (subst hR0 hg_F_s_l3End hg_Qr_s_l3End; (try simp only [Lg.std, Alg.std, List.drop_zero, List.take_length, F_s_l3End, Qr_s_l3End, Q_s_l3End] at *); first | done | (grind)))) | skip)
theorem ct_s_l3End (s : (List ((List Int) × (Int) × Unit)) × Unit) (t : List (Int)) (a : Int) : Ct pg 111 [.dptr (.pair (.sl (.pair .str (.pair (.int .i64) .unit))) .unit) s, .dat (.sl (.int .i64)) t, .dat (.int .i64) a] ⟨[Q_s_l3End s t a], [⟨(.int .i64), .sh, F_s_l3End s t a⟩], []⟩ := (ctr_s_l3End ((t.length - a.toNat) + 1) s t a).pre (fun h p hp => by rw [List.mem_singleton.1 hp]; exact ⟨h _ (List.mem_singleton.2 rfl), Nat.lt_succ_self _⟩)
def con_s_l3End : Con := ⟨true, g3 (pP (.pair (.sl (.pair .str (.pair (.int .i64) .unit))) .unit)) (pD (.sl (.int .i64))) (pD (.int .i64)) fun s t a => .one ⟨[Q_s_l3End s t a], [⟨(.int .i64), .sh, F_s_l3End s t a⟩], []⟩, [], false, 0⟩
theorem ok_s_l3End : ConOk pg 111 con_s_l3End := ConOk.g3 (Enters.of (by kernel_rfl)) ct_s_l3End

def F_s_l3Fault (s : (List ((List Int) × (Int) × Unit)) × Unit) (t : List (Int)) : Int := l3F s t
def Q_s_l3Fault (s : (List ((List Int) × (Int) × Unit)) × Unit) (t : List (Int)) : Prop := sigFault s = 0
def O_s_l3Fault : Opt := ⟨fun i => false, fun i => (match decide (i = 4) with | true => [true, true, false, false, false, true, false, false, false, false, false, false, false, false, false, false, false, false, false, false, false, false, false, false, false, false, false, false, false, false, false, false, false] | false => []), fun i => .done, fun i => none, fun i => false, fun i => [], fun i => false, fun i => none⟩
def τ_s_l3Fault : Env := Env.of [(2, (.int .i64)), (3, (.int .i64)), (4, .bool), (48, (.sl (.int .i64)))] [(86, (.pair (.sl (.pair .str (.pair (.int .i64) .unit))) .unit))] []

theorem ct_s_l3Fault (s : (List ((List Int) × (Int) × Unit)) × Unit) (t : List (Int)) : Ct pg 92 [.dptr (.pair (.sl (.pair .str (.pair (.int .i64) .unit))) .unit) s, .dat (.sl (.int .i64)) t] ⟨[Q_s_l3Fault s t], [⟨(.int .i64), .sh, F_s_l3Fault s t⟩], []⟩ := by
  refine ct_claim (O := O_s_l3Fault) (τ := τ_s_l3Fault) (EnvOk.of (by kernel_rfl) (by kernel_rfl)) (GOk.of (.cons ok_s_l3Node (.cons ok_s_l3End .nil) : AllOk pg [(110, con_s_l3Node), (111, con_s_l3End)])) mixed (Enters.of (by kernel_rfl)) (fn := Go.Proofs.Tryd.f92) (by kernel_rfl) rfl (by kernel_rfl) ?_
  intro hp hw
  have hq : Q_s_l3Fault s t := hp _ (List.mem_singleton.2 rfl)
  clear hp
  change claim Lg.std Alg.std τ_s_l3Fault (Gam.of [(110, ⟨true, g2 (pP (.pair (.sl (.pair .str (.pair (.int .i64) .unit))) .unit)) (pD (.int .i64)) fun s n => .one ⟨[Q_s_l3Node s n], [⟨.bool, .sh, F_s_l3Node s n⟩], []⟩, [], false, 0⟩), (111, ⟨true, g3 (pP (.pair (.sl (.pair .str (.pair (.int .i64) .unit))) .unit)) (pD (.sl (.int .i64))) (pD (.int .i64)) fun s t a => .one ⟨[Q_s_l3End s t a], [⟨(.int .i64), .sh, F_s_l3End s t a⟩], []⟩, [], false, 0⟩)]) O_s_l3Fault Go.Proofs.Tryd.f92 [.dptr (.pair (.sl (.pair .str (.pair (.int .i64) .unit))) .unit) s, .dat (.sl (.int .i64)) t] ⟨[Q_s_l3Fault s t], [⟨(.int .i64), .sh, F_s_l3Fault s t⟩], []⟩
  generalize hg_F_s_l3Node : F_s_l3Node = g_F_s_l3Node
  generalize hg_Q_s_l3Node : Q_s_l3Node = g_Q_s_l3Node
  generalize hg_F_s_l3End : F_s_l3End = g_F_s_l3End
  generalize hg_Q_s_l3End : Q_s_l3End = g_Q_s_l3End
  generalize hR0 : F_s_l3Fault s t = R0
  generalize Q_s_l3Fault s t = Q0
  generalize hL : Lg.std = L
  generalize hA : Alg.std = A
  cbv
  subst hL hA
  try dsimp only [Ty.den]
  obtain ⟨s_0, ⟨⟩⟩ := s
  simp only [Q_s_l3Fault] at hq
  have a2 := l3F_2 (s_0, PUnit.unit) t
  have a3 := l3F_3 (s_0, PUnit.unit) t
  have ar3 := l3F_r (s_0, PUnit.unit) t
  have an := all_allN (s_0, PUnit.unit) t
  repeat' (first | intro _ | apply And.intro)
  all_goals first | trivial | ((fail_if_success (refine lp_v (V := Unit) (fun _ => ⟨[], []⟩) (fun _ => True) (fun _ => 0) () ?_ ?_ ?_)); subst hR0 hg_F_s_l3Node hg_Q_s_l3Node hg_F_s_l3End hg_Q_s_l3End; (try simp only [Alg.std, F_s_l3Node, F_s_l3End, Q_s_l3Node, Q_s_l3End, F_s_l3Fault] at *); all_goals grind) | skip
  all_goals (
    refine lp_v (V := (Int)) (fun (i : Int) => ⟨[.dptr (.pair (.sl (.pair .str (.pair (.int .i64) .unit))) .unit) (s_0, PUnit.unit), .dat (.sl (.int .i64)) t, .junk, .junk, .junk, .dat (.int .i64) i, .junk, .junk, .junk, .junk, .junk, .junk, .junk, .junk, .junk, .junk, .junk, .junk, .junk, .junk, .junk, .junk, .junk, .junk, .junk, .junk, .junk, .junk, .junk, .junk, .junk, .junk, .junk], []⟩) (fun (i : Int) => ¬ (t.length < 1 ∨ t.length > 24) ∧ 0 ≤ i ∧ i ≤ t.length ∧ t.all (nodeB (s_0, PUnit.unit)) = (t.drop i.toNat).all (nodeB (s_0, PUnit.unit))) (fun (i : Int) => t.length - i.toNat) (0) rfl ?_ ?_
    · (subst hR0 hg_F_s_l3Node hg_Q_s_l3Node hg_F_s_l3End hg_Q_s_l3End; simp only [Alg.std, decide_eq_true_eq, decide_eq_false_iff_not] at *; refine ⟨by omega, by omega, by omega, rfl⟩)
    rintro i hf I hI
    replace hf : ¬ (t.length < 1 ∨ t.length > 24) ∧ 0 ≤ i ∧ i ≤ t.length ∧ t.all (nodeB (s_0, PUnit.unit)) = (t.drop i.toNat).all (nodeB (s_0, PUnit.unit)) := hf
    generalize hL : Lg.std = L
    generalize hA : Alg.std = A
    cbv
    subst hL hA
    try dsimp only [Ty.den]
    subst hI
    obtain ⟨h1, h2, h3, h4⟩ := hf
    have st := fun (h : i.toNat < t.length) => allp_step (nodeB (s_0, PUnit.unit)) t i.toNat h
    have es : (i + 1).toNat = i.toNat + 1 := by omega
    have en := fun (h : t.length ≤ i.toNat) => (by rw [List.drop_of_length_le h]; rfl : (t.drop i.toNat).all (nodeB (s_0, PUnit.unit)) = true)
    repeat' (first | intro _ | apply And.intro)
    all_goals first | (with_reducible exact True.intro) | ((fail_if_success (refine lp_v (V := Unit) (fun _ => ⟨[], []⟩) (fun _ => True) (fun _ => 0) () ?_ ?_ ?_)); (try simp only [Lg.std, Alg.std, List.drop_zero, List.take_length] at *); (try refine ⟨_, rfl, ?_, ?_⟩); (all_goals (subst hR0 hg_F_s_l3Node hg_Q_s_l3Node hg_F_s_l3End hg_Q_s_l3End; (try simp only [Lg.std, Alg.std, List.drop_zero, List.take_length, F_s_l3Node, F_s_l3End, Q_s_l3Node, Q_s_l3End, F_s_l3Fault] at *); first | done | (grind)))) | skip)
def con_s_l3Fault : Con := ⟨true, g2 (pP (.pair (.sl (.pair .str (.pair (.int .i64) .unit))) .unit)) (pD (.sl (.int .i64))) fun s t => .one ⟨[Q_s_l3Fault s t], [⟨(.int .i64), .sh, F_s_l3Fault s t⟩], []⟩, [], false, 0⟩
theorem ok_s_l3Fault : ConOk pg 92 con_s_l3Fault := ConOk.g2 (Enters.of (by kernel_rfl)) ct_s_l3Fault

def F_s_l5Read (s : (List ((List Int) × (Int) × Unit)) × Unit) (d : List (Int)) : List (Int) := l5R s d
def Q_s_l5Read (s : (List ((List Int) × (Int) × Unit)) × Unit) (d : List (Int)) : Prop := sigFault s = 0
def O_s_l5Read : Opt := ⟨fun i => false, fun i => (match decide (i = 3) with | true => [true, true, false, false, false, true, true, false, false, false, false, false, false, false, false, false, false, false, false, false, false, false, false, false, false, false, false, false, false, false, false, false, false, false, false, false, false, false, false, false] | false => []), fun i => .done, fun i => none, fun i => false, fun i => [], fun i => false, fun i => none⟩
def τ_s_l5Read : Env := Env.of [(2, (.int .i64)), (3, (.int .i64)), (4, .bool), (5, (.int .u8)), (22, (.sl (.int .u8))), (48, (.sl (.int .i64)))] [(86, (.pair (.sl (.pair .str (.pair (.int .i64) .unit))) .unit))] []

theorem ct_s_l5Read (s : (List ((List Int) × (Int) × Unit)) × Unit) (d : List (Int)) : Ct pg 62 [.dptr (.pair (.sl (.pair .str (.pair (.int .i64) .unit))) .unit) s, .dat (.sl (.int .u8)) d] ⟨[Q_s_l5Read s d], [⟨(.sl (.int .i64)), (.ow .sh), F_s_l5Read s d⟩], []⟩ := by
  refine ct_claim (O := O_s_l5Read) (τ := τ_s_l5Read) (EnvOk.of (by kernel_rfl) (by kernel_rfl)) (GOk.of (.cons ok_s_l5Node (.cons ok_s_l3Fault .nil) : AllOk pg [(91, con_s_l5Node), (92, con_s_l3Fault)])) mixed (Enters.of (by kernel_rfl)) (fn := Go.Proofs.Tryd.f62) (by kernel_rfl) rfl (by kernel_rfl) ?_
  intro hp hw
  have hq : Q_s_l5Read s d := hp _ (List.mem_singleton.2 rfl)
  clear hp
  change claim Lg.std Alg.std τ_s_l5Read (Gam.of [(91, ⟨true, g2 (pP (.pair (.sl (.pair .str (.pair (.int .i64) .unit))) .unit)) (pD (.int .u8)) fun s b => .one ⟨[Q_s_l5Node s b], [⟨(.int .i64), .sh, F_s_l5Node s b⟩, ⟨.bool, .sh, F_s_l5Node_1 s b⟩], []⟩, [], false, 0⟩), (92, ⟨true, g2 (pP (.pair (.sl (.pair .str (.pair (.int .i64) .unit))) .unit)) (pD (.sl (.int .i64))) fun s t => .one ⟨[Q_s_l3Fault s t], [⟨(.int .i64), .sh, F_s_l3Fault s t⟩], []⟩, [], false, 0⟩)]) O_s_l5Read Go.Proofs.Tryd.f62 [.dptr (.pair (.sl (.pair .str (.pair (.int .i64) .unit))) .unit) s, .dat (.sl (.int .u8)) d] ⟨[Q_s_l5Read s d], [⟨(.sl (.int .i64)), (.ow .sh), F_s_l5Read s d⟩], []⟩
  generalize hg_F_s_l5Node : F_s_l5Node = g_F_s_l5Node
  generalize hg_F_s_l5Node_1 : F_s_l5Node_1 = g_F_s_l5Node_1
  generalize hg_Q_s_l5Node : Q_s_l5Node = g_Q_s_l5Node
  generalize hg_F_s_l3Fault : F_s_l3Fault = g_F_s_l3Fault
  generalize hg_Q_s_l3Fault : Q_s_l3Fault = g_Q_s_l3Fault
  generalize hR0 : F_s_l5Read s d = R0
  generalize Q_s_l5Read s d = Q0
  generalize hL : Lg.std = L
  generalize hA : Alg.std = A
  cbv
  subst hL hA
  try dsimp only [Ty.den]
  obtain ⟨s_0, ⟨⟩⟩ := s
  simp only [Q_s_l5Read] at hq
  have hby := u8s hw.2.1.2
  refine lp_v (V := (Int) × (Nat) × (List Int)) (fun ((i, N, out) : (Int) × (Nat) × (List Int)) => ⟨[.dptr (.pair (.sl (.pair .str (.pair (.int .i64) .unit))) .unit) (s_0, PUnit.unit), .dat (.sl (.int .u8)) d, .junk, .junk, .junk, .ref (.int .i64) 0 0 [] 0 N, .dat (.int .i64) i, .junk, .junk, .junk, .junk, .junk, .junk, .junk, .junk, .junk, .junk, .junk, .junk, .junk, .junk, .junk, .junk, .junk, .junk, .junk, .junk, .junk, .junk, .junk, .junk, .junk, .junk, .junk, .junk, .junk, .junk, .junk, .junk, .junk], [some (.row 0 (.int .i64) .sh out)]⟩) (fun ((i, N, out) : (Int) × (Nat) × (List Int)) => 0 ≤ i ∧ i ≤ 24 ∧ N = out.length ∧ i.toNat = out.length ∧ l5L (s_0, PUnit.unit) (d.drop i.toNat) out = l5R (s_0, PUnit.unit) d) (fun ((i, N, out) : (Int) × (Nat) × (List Int)) => 24 - i.toNat) (0, _, _) rfl ?_ ?_
  · (subst hR0 hg_F_s_l5Node hg_F_s_l5Node_1 hg_Q_s_l5Node hg_F_s_l3Fault hg_Q_s_l3Fault; simp only [Alg.std] at *; exact ⟨by decide, by decide, rfl, rfl, rfl⟩)
  rintro ⟨i, N, out⟩ hf I hI
  replace hf : 0 ≤ i ∧ i ≤ 24 ∧ N = out.length ∧ i.toNat = out.length ∧ l5L (s_0, PUnit.unit) (d.drop i.toNat) out = l5R (s_0, PUnit.unit) d := hf
  generalize hL : Lg.std = L
  generalize hA : Alg.std = A
  cbv
  subst hL hA
  try dsimp only [Ty.den]
  subst hI
  obtain ⟨h1, h2, h3, h4, h5⟩ := hf
  have st := fun (h : i.toNat < d.length) => l5L_step (s_0, PUnit.unit) d i.toNat out h
  have en := fun (h : d.length ≤ i.toNat) => l5L_end (s_0, PUnit.unit) d i.toNat out h
  have fu := fun (h : 24 ≤ out.length) => l5L_full (s_0, PUnit.unit) (d.drop i.toNat) out h
  have es : (i + 1).toNat = i.toNat + 1 := by omega
  have hla : ∀ y, (out ++ [y]).length = out.length + 1 := by simp
  repeat' (first | intro _ | apply And.intro)
  all_goals first | (with_reducible exact True.intro) | ((fail_if_success (refine lp_v (V := Unit) (fun _ => ⟨[], []⟩) (fun _ => True) (fun _ => 0) () ?_ ?_ ?_)); (try simp only [Lg.std, Alg.std, List.drop_zero, List.take_length] at *); (try refine ⟨(_, _, _), rfl, ?_, ?_⟩); (all_goals (subst hR0 hg_F_s_l5Node hg_F_s_l5Node_1 hg_Q_s_l5Node hg_F_s_l3Fault hg_Q_s_l3Fault; (try simp only [Lg.std, Alg.std, List.drop_zero, List.take_length, F_s_l5Node, F_s_l3Fault, F_s_l5Node_1, Q_s_l5Node, Q_s_l3Fault, F_s_l5Read] at *); first | done | (grind)))) | skip
def con_s_l5Read : Con := ⟨true, g2 (pP (.pair (.sl (.pair .str (.pair (.int .i64) .unit))) .unit)) (pD (.sl (.int .u8))) fun s d => .one ⟨[Q_s_l5Read s d], [⟨(.sl (.int .i64)), (.ow .sh), F_s_l5Read s d⟩], []⟩, [], false, 0⟩
theorem ok_s_l5Read : ConOk pg 62 con_s_l5Read := ConOk.g2 (Enters.of (by kernel_rfl)) ct_s_l5Read

def F_i_TermFault_1 (n : Int) (g : (List ((List Int) × (Int) × Unit)) × Unit) : Bool := !nodeB g n
def Q_i_TermFault_1 (n : Int) (g : (List ((List Int) × (Int) × Unit)) × Unit) : Prop := True
def O_i_TermFault_1 : Opt := ⟨fun i => false, fun i => [], fun i => .done, fun i => none, fun i => false, fun i => [], fun i => false, fun i => none⟩
def τ_i_TermFault_1 : Env := Env.of [(2, (.int .i64)), (3, (.int .i64)), (4, .bool), (32, (.pair (.sl (.pair .str (.pair (.int .i64) .unit))) .unit))] [] []

theorem ct_i_TermFault_1 (n : Int) (g : (List ((List Int) × (Int) × Unit)) × Unit) : Ct pg 116 [.dat (.int .i64) n, .dptr (.pair (.sl (.pair .str (.pair (.int .i64) .unit))) .unit) g] ⟨[Q_i_TermFault_1 n g], [⟨.bool, .sh, F_i_TermFault_1 n g⟩], []⟩ := by
  refine ct_claim (O := O_i_TermFault_1) (τ := τ_i_TermFault_1) (EnvOk.of (by kernel_rfl) (by kernel_rfl)) (GOk.of (.cons ok_i_isNode .nil : AllOk pg [(94, con_i_isNode)])) mixed (Enters.of (by kernel_rfl)) (fn := Go.Proofs.Tryd.f116) (by kernel_rfl) rfl (by kernel_rfl) ?_
  intro hp hw
  have hq : Q_i_TermFault_1 n g := hp _ (List.mem_singleton.2 rfl)
  clear hp
  change claim Lg.std Alg.std τ_i_TermFault_1 (Gam.of [(94, ⟨true, g2 (pD (.pair (.sl (.pair .str (.pair (.int .i64) .unit))) .unit)) (pD (.int .i64)) fun s n => .one ⟨[Q_i_isNode s n], [⟨.bool, .sh, F_i_isNode s n⟩], []⟩, [], false, 0⟩)]) O_i_TermFault_1 Go.Proofs.Tryd.f116 [.dat (.int .i64) n, .dptr (.pair (.sl (.pair .str (.pair (.int .i64) .unit))) .unit) g] ⟨[Q_i_TermFault_1 n g], [⟨.bool, .sh, F_i_TermFault_1 n g⟩], []⟩
  generalize hg_F_i_isNode : F_i_isNode = g_F_i_isNode
  generalize hg_Q_i_isNode : Q_i_isNode = g_Q_i_isNode
  generalize hR0 : F_i_TermFault_1 n g = R0
  generalize Q_i_TermFault_1 n g = Q0
  generalize hL : Lg.std = L
  generalize hA : Alg.std = A
  cbv
  subst hL hA
  try dsimp only [Ty.den]
  subst hR0 hg_F_i_isNode hg_Q_i_isNode
  simp only [Q_i_TermFault_1] at hq
  simp only [Lg.std, Alg.std, List.drop_zero, List.take_length, F_i_isNode, Q_i_isNode, F_i_TermFault_1]
  all_goals grind
def con_i_TermFault_1 : Con := ⟨true, g2 (pD (.int .i64)) (pP (.pair (.sl (.pair .str (.pair (.int .i64) .unit))) .unit)) fun n g => .one ⟨[Q_i_TermFault_1 n g], [⟨.bool, .sh, F_i_TermFault_1 n g⟩], []⟩, [], false, 0⟩
theorem ok_i_TermFault_1 : ConOk pg 116 con_i_TermFault_1 := ConOk.g2 (Enters.of (by kernel_rfl)) ct_i_TermFault_1

def F_sl_IndexFunc_int64__i_TermFault_1 (s : List (Int)) (g : (List ((List Int) × (Int) × Unit)) × Unit) : Int := findG (fun n => !nodeB g n) s 0
def Q_sl_IndexFunc_int64__i_TermFault_1 (s : List (Int)) (g : (List ((List Int) × (Int) × Unit)) × Unit) : Prop := True
def O_sl_IndexFunc_int64__i_TermFault_1 : Opt := ⟨fun i => false, fun i => (match decide (i = 2) with | true => [true, true, false, false, false, false, false, true, true, false, false, false, false, false, false, false, false, false, false] | false => []), fun i => .done, fun i => none, fun i => false, fun i => [], fun i => false, fun i => none⟩
def τ_sl_IndexFunc_int64__i_TermFault_1 : Env := Env.of [(2, (.int .i64)), (3, (.int .i64)), (4, .bool), (48, (.sl (.int .i64)))] [] []

theorem ct_sl_IndexFunc_int64__i_TermFault_1 (s : List (Int)) (g : (List ((List Int) × (Int) × Unit)) × Unit) : Ct pg 126 [.dat (.sl (.int .i64)) s, .clo 116 [.dptr (.pair (.sl (.pair .str (.pair (.int .i64) .unit))) .unit) g]] ⟨[Q_sl_IndexFunc_int64__i_TermFault_1 s g], [⟨(.int .i64), .sh, F_sl_IndexFunc_int64__i_TermFault_1 s g⟩], []⟩ := by
  refine ct_claim (O := O_sl_IndexFunc_int64__i_TermFault_1) (τ := τ_sl_IndexFunc_int64__i_TermFault_1) (EnvOk.of (by kernel_rfl) (by kernel_rfl)) (GOk.of (.cons ok_i_TermFault_1 .nil : AllOk pg [(116, con_i_TermFault_1)])) mixed (Enters.of (by kernel_rfl)) (fn := Go.Proofs.Tryd.f126) (by kernel_rfl) rfl (by kernel_rfl) ?_
  intro hp hw
  have hq : Q_sl_IndexFunc_int64__i_TermFault_1 s g := hp _ (List.mem_singleton.2 rfl)
  clear hp
  change claim Lg.std Alg.std τ_sl_IndexFunc_int64__i_TermFault_1 (Gam.of [(116, ⟨true, g2 (pD (.int .i64)) (pP (.pair (.sl (.pair .str (.pair (.int .i64) .unit))) .unit)) fun n g => .one ⟨[Q_i_TermFault_1 n g], [⟨.bool, .sh, F_i_TermFault_1 n g⟩], []⟩, [], false, 0⟩)]) O_sl_IndexFunc_int64__i_TermFault_1 Go.Proofs.Tryd.f126 [.dat (.sl (.int .i64)) s, .clo 116 [.dptr (.pair (.sl (.pair .str (.pair (.int .i64) .unit))) .unit) g]] ⟨[Q_sl_IndexFunc_int64__i_TermFault_1 s g], [⟨(.int .i64), .sh, F_sl_IndexFunc_int64__i_TermFault_1 s g⟩], []⟩
  generalize hg_F_i_TermFault_1 : F_i_TermFault_1 = g_F_i_TermFault_1
  generalize hg_Q_i_TermFault_1 : Q_i_TermFault_1 = g_Q_i_TermFault_1
  generalize hR0 : F_sl_IndexFunc_int64__i_TermFault_1 s g = R0
  generalize Q_sl_IndexFunc_int64__i_TermFault_1 s g = Q0
  generalize hL : Lg.std = L
  generalize hA : Alg.std = A
  cbv
  subst hL hA
  try dsimp only [Ty.den]
  refine lp_v (V := (Int) × (Int)) (fun ((i, M) : (Int) × (Int)) => ⟨[.dat (.sl (.int .i64)) s, .clo 116 [.dptr (.pair (.sl (.pair .str (.pair (.int .i64) .unit))) .unit) g], .junk, .junk, .junk, .junk, .junk, .dat (.int .i64) M, .dat (.int .i64) i, .junk, .junk, .junk, .junk, .junk, .junk, .junk, .junk, .junk, .junk], []⟩) (fun ((i, M) : (Int) × (Int)) => M = s.length ∧ 0 ≤ i ∧ i ≤ s.length ∧ findG (fun n => !nodeB g n) s 0 = findG (fun n => !nodeB g n) (s.drop i.toNat) i) (fun ((i, M) : (Int) × (Int)) => s.length - i.toNat) (0, _) rfl ?_ ?_
  · simp [Alg.std]
  rintro ⟨i, M⟩ hf I hI
  replace hf : M = s.length ∧ 0 ≤ i ∧ i ≤ s.length ∧ findG (fun n => !nodeB g n) s 0 = findG (fun n => !nodeB g n) (s.drop i.toNat) i := hf
  generalize hL : Lg.std = L
  generalize hA : Alg.std = A
  cbv
  subst hL hA
  try dsimp only [Ty.den]
  subst hI
  simp only [Lg.std, Alg.std, List.drop_zero, List.take_length]
  obtain ⟨h1, h2, h3, h4⟩ := hf
  have hl := hw.1.1
  have hdc := fun (h : i.toNat < s.length) => drop_cons s (0 : Int) i.toNat h
  have he := fun (h : s.length ≤ i.toNat) => drop_nil s i.toNat h
  repeat' (first | intro _ | apply And.intro)
  all_goals (try refine ⟨(_, _), rfl, ?_, ?_⟩)
  all_goals subst hR0 hg_F_i_TermFault_1 hg_Q_i_TermFault_1
  all_goals (try simp only [F_i_TermFault_1, Q_i_TermFault_1, F_sl_IndexFunc_int64__i_TermFault_1] at *)
  all_goals grind [findG_cons, findG_nil]
def con_sl_IndexFunc_int64__i_TermFault_1 : Con := ⟨true, g2 (pD (.sl (.int .i64))) (pC1 116 (pP (.pair (.sl (.pair .str (.pair (.int .i64) .unit))) .unit))) fun s g => .one ⟨[Q_sl_IndexFunc_int64__i_TermFault_1 s g], [⟨(.int .i64), .sh, F_sl_IndexFunc_int64__i_TermFault_1 s g⟩], []⟩, [], false, 0⟩
theorem ok_sl_IndexFunc_int64__i_TermFault_1 : ConOk pg 126 con_sl_IndexFunc_int64__i_TermFault_1 := ConOk.g2 (Enters.of (by kernel_rfl)) ct_sl_IndexFunc_int64__i_TermFault_1

def F_sl_ContainsFunc_int64__i_TermFault_1 (s : List (Int)) (g : (List ((List Int) × (Int) × Unit)) × Unit) : Bool := s.any (fun n => !nodeB g n)
def Q_sl_ContainsFunc_int64__i_TermFault_1 (s : List (Int)) (g : (List ((List Int) × (Int) × Unit)) × Unit) : Prop := True
def O_sl_ContainsFunc_int64__i_TermFault_1 : Opt := ⟨fun i => false, fun i => [], fun i => .done, fun i => none, fun i => false, fun i => [], fun i => false, fun i => none⟩
def τ_sl_ContainsFunc_int64__i_TermFault_1 : Env := Env.of [(3, (.int .i64)), (4, .bool), (48, (.sl (.int .i64)))] [] []

theorem ct_sl_ContainsFunc_int64__i_TermFault_1 (s : List (Int)) (g : (List ((List Int) × (Int) × Unit)) × Unit) : Ct pg 115 [.dat (.sl (.int .i64)) s, .clo 116 [.dptr (.pair (.sl (.pair .str (.pair (.int .i64) .unit))) .unit) g]] ⟨[Q_sl_ContainsFunc_int64__i_TermFault_1 s g], [⟨.bool, .sh, F_sl_ContainsFunc_int64__i_TermFault_1 s g⟩], []⟩ := by
  refine ct_claim (O := O_sl_ContainsFunc_int64__i_TermFault_1) (τ := τ_sl_ContainsFunc_int64__i_TermFault_1) (EnvOk.of (by kernel_rfl) (by kernel_rfl)) (GOk.of (.cons ok_i_TermFault_1 (.cons ok_sl_IndexFunc_int64__i_TermFault_1 .nil) : AllOk pg [(116, con_i_TermFault_1), (126, con_sl_IndexFunc_int64__i_TermFault_1)])) mixed (Enters.of (by kernel_rfl)) (fn := Go.Proofs.Tryd.f115) (by kernel_rfl) rfl (by kernel_rfl) ?_
  intro hp hw
  have hq : Q_sl_ContainsFunc_int64__i_TermFault_1 s g := hp _ (List.mem_singleton.2 rfl)
  clear hp
  change claim Lg.std Alg.std τ_sl_ContainsFunc_int64__i_TermFault_1 (Gam.of [(116, ⟨true, g2 (pD (.int .i64)) (pP (.pair (.sl (.pair .str (.pair (.int .i64) .unit))) .unit)) fun n g => .one ⟨[Q_i_TermFault_1 n g], [⟨.bool, .sh, F_i_TermFault_1 n g⟩], []⟩, [], false, 0⟩), (126, ⟨true, g2 (pD (.sl (.int .i64))) (pC1 116 (pP (.pair (.sl (.pair .str (.pair (.int .i64) .unit))) .unit))) fun s g => .one ⟨[Q_sl_IndexFunc_int64__i_TermFault_1 s g], [⟨(.int .i64), .sh, F_sl_IndexFunc_int64__i_TermFault_1 s g⟩], []⟩, [], false, 0⟩)]) O_sl_ContainsFunc_int64__i_TermFault_1 Go.Proofs.Tryd.f115 [.dat (.sl (.int .i64)) s, .clo 116 [.dptr (.pair (.sl (.pair .str (.pair (.int .i64) .unit))) .unit) g]] ⟨[Q_sl_ContainsFunc_int64__i_TermFault_1 s g], [⟨.bool, .sh, F_sl_ContainsFunc_int64__i_TermFault_1 s g⟩], []⟩
  generalize hg_F_i_TermFault_1 : F_i_TermFault_1 = g_F_i_TermFault_1
  generalize hg_Q_i_TermFault_1 : Q_i_TermFault_1 = g_Q_i_TermFault_1
  generalize hg_F_sl_IndexFunc_int64__i_TermFault_1 : F_sl_IndexFunc_int64__i_TermFault_1 = g_F_sl_IndexFunc_int64__i_TermFault_1
  generalize hg_Q_sl_IndexFunc_int64__i_TermFault_1 : Q_sl_IndexFunc_int64__i_TermFault_1 = g_Q_sl_IndexFunc_int64__i_TermFault_1
  generalize hR0 : F_sl_ContainsFunc_int64__i_TermFault_1 s g = R0
  generalize Q_sl_ContainsFunc_int64__i_TermFault_1 s g = Q0
  generalize hL : Lg.std = L
  generalize hA : Alg.std = A
  cbv
  subst hL hA
  try dsimp only [Ty.den]
  have hf := findG_any (fun n => !nodeB g n) s 0 (by omega)
  subst hR0 hg_F_i_TermFault_1 hg_Q_i_TermFault_1 hg_F_sl_IndexFunc_int64__i_TermFault_1 hg_Q_sl_IndexFunc_int64__i_TermFault_1
  simp only [Q_sl_ContainsFunc_int64__i_TermFault_1] at hq
  simp only [Lg.std, Alg.std, List.drop_zero, List.take_length, F_i_TermFault_1, F_sl_IndexFunc_int64__i_TermFault_1, Q_i_TermFault_1, Q_sl_IndexFunc_int64__i_TermFault_1, F_sl_ContainsFunc_int64__i_TermFault_1]
  all_goals grind
def con_sl_ContainsFunc_int64__i_TermFault_1 : Con := ⟨true, g2 (pD (.sl (.int .i64))) (pC1 116 (pP (.pair (.sl (.pair .str (.pair (.int .i64) .unit))) .unit))) fun s g => .one ⟨[Q_sl_ContainsFunc_int64__i_TermFault_1 s g], [⟨.bool, .sh, F_sl_ContainsFunc_int64__i_TermFault_1 s g⟩], []⟩, [], false, 0⟩
theorem ok_sl_ContainsFunc_int64__i_TermFault_1 : ConOk pg 115 con_sl_ContainsFunc_int64__i_TermFault_1 := ConOk.g2 (Enters.of (by kernel_rfl)) ct_sl_ContainsFunc_int64__i_TermFault_1

def F_i_endOf (s : (List ((List Int) × (Int) × Unit)) × Unit) (t : List (Int)) (a : Int) : Int := endI s t a
def Q_i_endOf (s : (List ((List Int) × (Int) × Unit)) × Unit) (t : List (Int)) (a : Int) : Prop := sigFault s = 0 ∧ allN s t ∧ 0 ≤ a ∧ t.length ≤ 1048576
def O_i_endOf : Opt := ⟨fun i => (match decide (i = 6) with | true => true | false => false), fun i => (match decide (i = 2) with | true => [false, true, true, true, false, false, false, true, false, false, false, false, false, false, false, false, false, false, false, false, false, false, false, false, false, false, false, false, false] | false => []), fun i => .done, fun i => none, fun i => false, fun i => [], fun i => false, fun i => none⟩
def τ_i_endOf : Env := Env.of [(2, (.int .i64)), (3, (.int .i64)), (4, .bool), (32, (.pair (.sl (.pair .str (.pair (.int .i64) .unit))) .unit)), (48, (.sl (.int .i64)))] [] []

theorem ct_i_endOf (s : (List ((List Int) × (Int) × Unit)) × Unit) (t : List (Int)) (a : Int) : Ct pg 117 [.dat (.pair (.sl (.pair .str (.pair (.int .i64) .unit))) .unit) s, .dat (.sl (.int .i64)) t, .dat (.int .i64) a] ⟨[Q_i_endOf s t a], [⟨(.int .i64), .sh, F_i_endOf s t a⟩], []⟩ := by
  refine ct_claim (O := O_i_endOf) (τ := τ_i_endOf) (EnvOk.of (by kernel_rfl) (by kernel_rfl)) (GOk.of (.cons ok_i_arityOf .nil : AllOk pg [(95, con_i_arityOf)])) mixed (Enters.of (by kernel_rfl)) (fn := Go.Proofs.Tryd.f117) (by kernel_rfl) rfl (by kernel_rfl) ?_
  intro hp hw
  have hq : Q_i_endOf s t a := hp _ (List.mem_singleton.2 rfl)
  clear hp
  change claim Lg.std Alg.std τ_i_endOf (Gam.of [(95, ⟨true, g2 (pD (.pair (.sl (.pair .str (.pair (.int .i64) .unit))) .unit)) (pD (.int .i64)) fun s n => .one ⟨[Q_i_arityOf s n], [⟨(.int .i64), .sh, F_i_arityOf s n⟩], []⟩, [], false, 0⟩)]) O_i_endOf Go.Proofs.Tryd.f117 [.dat (.pair (.sl (.pair .str (.pair (.int .i64) .unit))) .unit) s, .dat (.sl (.int .i64)) t, .dat (.int .i64) a] ⟨[Q_i_endOf s t a], [⟨(.int .i64), .sh, F_i_endOf s t a⟩], []⟩
  generalize hg_F_i_arityOf : F_i_arityOf = g_F_i_arityOf
  generalize hg_Q_i_arityOf : Q_i_arityOf = g_Q_i_arityOf
  generalize hR0 : F_i_endOf s t a = R0
  generalize Q_i_endOf s t a = Q0
  generalize hL : Lg.std = L
  generalize hA : Alg.std = A
  cbv
  subst hL hA
  try dsimp only [Ty.den]
  obtain ⟨s_0, ⟨⟩⟩ := s
  simp only [Q_i_endOf] at hq
  obtain ⟨hqs, hqt, hk0, hql⟩ := hq
  have key : ∀ b : Int, 0 ≤ b → b < t.length → (t.getD b.toNat 0 < s_0.length ∧ 0 ≤ ar (s_0, PUnit.unit) (t.getD b.toNat 0) ∧ ar (s_0, PUnit.unit) (t.getD b.toNat 0) ≤ 2) := fun b h0 h => by
    have hn := hqt _ (getD_mem t 0 b.toNat (by omega))
    have hr := ar_rng _ hqs _ hn
    simp only [nodeB, isSym, Bool.or_eq_true, decide_eq_true_eq] at hn
    have hs1 := (sig_good _ hqs).1
    dsimp only at hs1
    exact ⟨by omega, hr.1, hr.2⟩
  refine lp_v (V := (Int) × (Int)) (fun ((b, o) : (Int) × (Int)) => ⟨[.junk, .dat (.sl (.int .i64)) t, .dat (.int .i64) b, .bptr 0 0, .junk, .junk, .junk, .dat (.int .i64) o, .junk, .junk, .junk, .junk, .junk, .junk, .junk, .junk, .junk, .junk, .junk, .junk, .junk, .junk, .junk, .junk, .junk, .junk, .junk, .junk, .junk], [some (.box [.dat (.sl (.pair .str (.pair (.int .i64) .unit))) s_0])]⟩) (fun ((b, o) : (Int) × (Int)) => a ≤ b ∧ (a < b → b ≤ t.length) ∧ (b = a → o = 1) ∧ o ≤ 1 + (b - a) ∧ 0 ≤ o ∧ skp (s_0, PUnit.unit) o.toNat (t.drop b.toNat) = skp (s_0, PUnit.unit) 1 (t.drop a.toNat)) (fun ((b, o) : (Int) × (Int)) => t.length - b.toNat) (a, 1) rfl ?_ ?_
  · (subst hR0 hg_F_i_arityOf hg_Q_i_arityOf; simp only [Alg.std] at *; refine ⟨by omega, fun h => by omega, by simp, by omega, by omega, rfl⟩)
  rintro ⟨b, o⟩ hf I hI
  replace hf : a ≤ b ∧ (a < b → b ≤ t.length) ∧ (b = a → o = 1) ∧ o ≤ 1 + (b - a) ∧ 0 ≤ o ∧ skp (s_0, PUnit.unit) o.toNat (t.drop b.toNat) = skp (s_0, PUnit.unit) 1 (t.drop a.toNat) := hf
  generalize hL : Lg.std = L
  generalize hA : Alg.std = A
  cbv
  subst hL hA
  try dsimp only [Ty.den]
  subst hI
  obtain ⟨h1, h2, h3, h4, h5, h6⟩ := hf
  have st := endI_step (s_0, PUnit.unit) t o b
  have ot := endI_out (s_0, PUnit.unit) t a o b
  have dn := endI_done (s_0, PUnit.unit) t a o b
  have kb := key b (by omega)
  have es : (b + 1).toNat = b.toNat + 1 := by omega
  clear key hqt
  repeat' (first | intro _ | apply And.intro)
  all_goals first | (with_reducible exact True.intro) | ((fail_if_success (refine lp_v (V := Unit) (fun _ => ⟨[], []⟩) (fun _ => True) (fun _ => 0) () ?_ ?_ ?_)); (try simp only [Lg.std, Alg.std, List.drop_zero, List.take_length] at *); (try refine ⟨(_, _), rfl, ?_, ?_⟩); (all_goals (subst hR0 hg_F_i_arityOf hg_Q_i_arityOf; (try simp only [Lg.std, Alg.std, List.drop_zero, List.take_length, F_i_arityOf, Q_i_arityOf, F_i_endOf] at *); first | done | (grind)))) | skip
def con_i_endOf : Con := ⟨true, g3 (pD (.pair (.sl (.pair .str (.pair (.int .i64) .unit))) .unit)) (pD (.sl (.int .i64))) (pD (.int .i64)) fun s t a => .one ⟨[Q_i_endOf s t a], [⟨(.int .i64), .sh, F_i_endOf s t a⟩], []⟩, [], false, 0⟩
theorem ok_i_endOf : ConOk pg 117 con_i_endOf := ConOk.g3 (Enters.of (by kernel_rfl)) ct_i_endOf

def F_i_TermFault (s : (List ((List Int) × (Int) × Unit)) × Unit) (t : List (Int)) : Int := termFault s t
def Q_i_TermFault (s : (List ((List Int) × (Int) × Unit)) × Unit) (t : List (Int)) : Prop := True
def O_i_TermFault : Opt := ⟨fun i => false, fun i => [], fun i => .done, fun i => none, fun i => false, fun i => [], fun i => false, fun i => none⟩
def τ_i_TermFault : Env := Env.of [(2, (.int .i64)), (3, (.int .i64)), (4, .bool), (32, (.pair (.sl (.pair .str (.pair (.int .i64) .unit))) .unit)), (48, (.sl (.int .i64)))] [(75, (.pair (.sl (.pair .str (.pair (.int .i64) .unit))) .unit))] []

theorem ct_i_TermFault (s : (List ((List Int) × (Int) × Unit)) × Unit) (t : List (Int)) : Ct pg 103 [.dat (.pair (.sl (.pair .str (.pair (.int .i64) .unit))) .unit) s, .dat (.sl (.int .i64)) t] ⟨[Q_i_TermFault s t], [⟨(.int .i64), .sh, F_i_TermFault s t⟩], []⟩ := by
  refine ct_claim (O := O_i_TermFault) (τ := τ_i_TermFault) (EnvOk.of (by kernel_rfl) (by kernel_rfl)) (GOk.of (.cons ok_i_SignatureFault (.cons ok_i_TermFault_1 (.cons ok_sl_ContainsFunc_int64__i_TermFault_1 (.cons ok_i_endOf .nil))) : AllOk pg [(55, con_i_SignatureFault), (116, con_i_TermFault_1), (115, con_sl_ContainsFunc_int64__i_TermFault_1), (117, con_i_endOf)])) mixed (Enters.of (by kernel_rfl)) (fn := Go.Proofs.Tryd.f103) (by kernel_rfl) rfl (by kernel_rfl) ?_
  intro hp hw
  have hq : Q_i_TermFault s t := hp _ (List.mem_singleton.2 rfl)
  clear hp
  change claim Lg.std Alg.std τ_i_TermFault (Gam.of [(55, ⟨true, g1 (pD (.pair (.sl (.pair .str (.pair (.int .i64) .unit))) .unit)) fun s => .one ⟨[Q_i_SignatureFault s], [⟨(.int .i64), .sh, F_i_SignatureFault s⟩], []⟩, [], false, 0⟩), (116, ⟨true, g2 (pD (.int .i64)) (pP (.pair (.sl (.pair .str (.pair (.int .i64) .unit))) .unit)) fun n g => .one ⟨[Q_i_TermFault_1 n g], [⟨.bool, .sh, F_i_TermFault_1 n g⟩], []⟩, [], false, 0⟩), (115, ⟨true, g2 (pD (.sl (.int .i64))) (pC1 116 (pP (.pair (.sl (.pair .str (.pair (.int .i64) .unit))) .unit))) fun s g => .one ⟨[Q_sl_ContainsFunc_int64__i_TermFault_1 s g], [⟨.bool, .sh, F_sl_ContainsFunc_int64__i_TermFault_1 s g⟩], []⟩, [], false, 0⟩), (117, ⟨true, g3 (pD (.pair (.sl (.pair .str (.pair (.int .i64) .unit))) .unit)) (pD (.sl (.int .i64))) (pD (.int .i64)) fun s t a => .one ⟨[Q_i_endOf s t a], [⟨(.int .i64), .sh, F_i_endOf s t a⟩], []⟩, [], false, 0⟩)]) O_i_TermFault Go.Proofs.Tryd.f103 [.dat (.pair (.sl (.pair .str (.pair (.int .i64) .unit))) .unit) s, .dat (.sl (.int .i64)) t] ⟨[Q_i_TermFault s t], [⟨(.int .i64), .sh, F_i_TermFault s t⟩], []⟩
  generalize hg_F_i_SignatureFault : F_i_SignatureFault = g_F_i_SignatureFault
  generalize hg_Q_i_SignatureFault : Q_i_SignatureFault = g_Q_i_SignatureFault
  generalize hg_F_i_TermFault_1 : F_i_TermFault_1 = g_F_i_TermFault_1
  generalize hg_Q_i_TermFault_1 : Q_i_TermFault_1 = g_Q_i_TermFault_1
  generalize hg_F_sl_ContainsFunc_int64__i_TermFault_1 : F_sl_ContainsFunc_int64__i_TermFault_1 = g_F_sl_ContainsFunc_int64__i_TermFault_1
  generalize hg_Q_sl_ContainsFunc_int64__i_TermFault_1 : Q_sl_ContainsFunc_int64__i_TermFault_1 = g_Q_sl_ContainsFunc_int64__i_TermFault_1
  generalize hg_F_i_endOf : F_i_endOf = g_F_i_endOf
  generalize hg_Q_i_endOf : Q_i_endOf = g_Q_i_endOf
  generalize hR0 : F_i_TermFault s t = R0
  generalize Q_i_TermFault s t = Q0
  generalize hL : Lg.std = L
  generalize hA : Alg.std = A
  cbv
  subst hL hA
  try dsimp only [Ty.den]
  obtain ⟨s_0, ⟨⟩⟩ := s
  have a2 := l3F_2 (s_0, PUnit.unit) t
  have a3 := l3F_3 (s_0, PUnit.unit) t
  have a4 := l3F_I (s_0, PUnit.unit) t
  have an := all_allN (s_0, PUnit.unit) t
  have ay := any_not (s_0, PUnit.unit) t
  have hT : termFault (s_0, PUnit.unit) t = if sigFault (s_0, PUnit.unit) ≠ 0 then sigFault (s_0, PUnit.unit) else l3F (s_0, PUnit.unit) t := rfl
  subst hR0 hg_F_i_SignatureFault hg_Q_i_SignatureFault hg_F_i_TermFault_1 hg_Q_i_TermFault_1 hg_F_sl_ContainsFunc_int64__i_TermFault_1 hg_Q_sl_ContainsFunc_int64__i_TermFault_1 hg_F_i_endOf hg_Q_i_endOf
  simp only [Lg.std, Alg.std, List.drop_zero, List.take_length, F_i_SignatureFault, F_i_TermFault_1, F_sl_ContainsFunc_int64__i_TermFault_1, F_i_endOf, Q_i_SignatureFault, Q_i_TermFault_1, Q_sl_ContainsFunc_int64__i_TermFault_1, Q_i_endOf, F_i_TermFault] at *
  rw [ay] at *
  repeat' (first | intro _ | apply And.intro)
  all_goals grind
def con_i_TermFault : Con := ⟨true, g2 (pD (.pair (.sl (.pair .str (.pair (.int .i64) .unit))) .unit)) (pD (.sl (.int .i64))) fun s t => .one ⟨[Q_i_TermFault s t], [⟨(.int .i64), .sh, F_i_TermFault s t⟩], []⟩, [], false, 0⟩
theorem ok_i_TermFault : ConOk pg 103 con_i_TermFault := ConOk.g2 (Enters.of (by kernel_rfl)) ct_i_TermFault

def F_i_hasVars_1 (n : Int) : Bool := decide (n < 0)
def Q_i_hasVars_1 (n : Int) : Prop := True
def O_i_hasVars_1 : Opt := ⟨fun i => false, fun i => [], fun i => .done, fun i => none, fun i => false, fun i => [], fun i => false, fun i => none⟩
def τ_i_hasVars_1 : Env := Env.of [(2, (.int .i64)), (4, .bool)] [] []

theorem ct_i_hasVars_1 (n : Int) : Ct pg 118 [.dat (.int .i64) n] ⟨[Q_i_hasVars_1 n], [⟨.bool, .sh, F_i_hasVars_1 n⟩], []⟩ := by
  refine ct_claim (O := O_i_hasVars_1) (τ := τ_i_hasVars_1) (EnvOk.of (by kernel_rfl) (by kernel_rfl)) (GOk.of (.nil : AllOk pg [])) mixed (Enters.of (by kernel_rfl)) (fn := Go.Proofs.Tryd.f118) (by kernel_rfl) rfl (by kernel_rfl) ?_
  intro hp hw
  have hq : Q_i_hasVars_1 n := hp _ (List.mem_singleton.2 rfl)
  clear hp
  change claim Lg.std Alg.std τ_i_hasVars_1 (Gam.of []) O_i_hasVars_1 Go.Proofs.Tryd.f118 [.dat (.int .i64) n] ⟨[Q_i_hasVars_1 n], [⟨.bool, .sh, F_i_hasVars_1 n⟩], []⟩
  generalize hR0 : F_i_hasVars_1 n = R0
  generalize Q_i_hasVars_1 n = Q0
  generalize hL : Lg.std = L
  generalize hA : Alg.std = A
  cbv
  subst hL hA
  try dsimp only [Ty.den]
  subst hR0
  simp only [Q_i_hasVars_1] at hq
  simp only [Lg.std, Alg.std, List.drop_zero, List.take_length, F_i_hasVars_1]
  all_goals grind
def con_i_hasVars_1 : Con := ⟨true, g1 (pD (.int .i64)) fun n => .one ⟨[Q_i_hasVars_1 n], [⟨.bool, .sh, F_i_hasVars_1 n⟩], []⟩, [], false, 0⟩
theorem ok_i_hasVars_1 : ConOk pg 118 con_i_hasVars_1 := ConOk.g1 (Enters.of (by kernel_rfl)) ct_i_hasVars_1

def F_sl_IndexFunc_int64__i_hasVars_1 (s : List (Int)) (u : Unit) : Int := findG (fun n => decide (n < 0)) s 0
def Q_sl_IndexFunc_int64__i_hasVars_1 (s : List (Int)) (u : Unit) : Prop := True
def O_sl_IndexFunc_int64__i_hasVars_1 : Opt := ⟨fun i => false, fun i => (match decide (i = 2) with | true => [true, true, false, false, false, false, false, true, true, false, false, false, false, false, false, false, false, false, false] | false => []), fun i => .done, fun i => none, fun i => false, fun i => [], fun i => false, fun i => none⟩
def τ_sl_IndexFunc_int64__i_hasVars_1 : Env := Env.of [(2, (.int .i64)), (3, (.int .i64)), (4, .bool), (48, (.sl (.int .i64)))] [] []

theorem ct_sl_IndexFunc_int64__i_hasVars_1 (s : List (Int)) (u : Unit) : Ct pg 126 [.dat (.sl (.int .i64)) s, .clo 118 []] ⟨[Q_sl_IndexFunc_int64__i_hasVars_1 s u], [⟨(.int .i64), .sh, F_sl_IndexFunc_int64__i_hasVars_1 s u⟩], []⟩ := by
  refine ct_claim (O := O_sl_IndexFunc_int64__i_hasVars_1) (τ := τ_sl_IndexFunc_int64__i_hasVars_1) (EnvOk.of (by kernel_rfl) (by kernel_rfl)) (GOk.of (.cons ok_i_hasVars_1 .nil : AllOk pg [(118, con_i_hasVars_1)])) mixed (Enters.of (by kernel_rfl)) (fn := Go.Proofs.Tryd.f126) (by kernel_rfl) rfl (by kernel_rfl) ?_
  intro hp hw
  have hq : Q_sl_IndexFunc_int64__i_hasVars_1 s u := hp _ (List.mem_singleton.2 rfl)
  clear hp
  change claim Lg.std Alg.std τ_sl_IndexFunc_int64__i_hasVars_1 (Gam.of [(118, ⟨true, g1 (pD (.int .i64)) fun n => .one ⟨[Q_i_hasVars_1 n], [⟨.bool, .sh, F_i_hasVars_1 n⟩], []⟩, [], false, 0⟩)]) O_sl_IndexFunc_int64__i_hasVars_1 Go.Proofs.Tryd.f126 [.dat (.sl (.int .i64)) s, .clo 118 []] ⟨[Q_sl_IndexFunc_int64__i_hasVars_1 s u], [⟨(.int .i64), .sh, F_sl_IndexFunc_int64__i_hasVars_1 s u⟩], []⟩
  generalize hg_F_i_hasVars_1 : F_i_hasVars_1 = g_F_i_hasVars_1
  generalize hg_Q_i_hasVars_1 : Q_i_hasVars_1 = g_Q_i_hasVars_1
  generalize hR0 : F_sl_IndexFunc_int64__i_hasVars_1 s u = R0
  generalize Q_sl_IndexFunc_int64__i_hasVars_1 s u = Q0
  generalize hL : Lg.std = L
  generalize hA : Alg.std = A
  cbv
  subst hL hA
  try dsimp only [Ty.den]
  refine lp_v (V := (Int) × (Int)) (fun ((i, M) : (Int) × (Int)) => ⟨[.dat (.sl (.int .i64)) s, .clo 118 [], .junk, .junk, .junk, .junk, .junk, .dat (.int .i64) M, .dat (.int .i64) i, .junk, .junk, .junk, .junk, .junk, .junk, .junk, .junk, .junk, .junk], []⟩) (fun ((i, M) : (Int) × (Int)) => M = s.length ∧ 0 ≤ i ∧ i ≤ s.length ∧ findG (fun n => decide (n < 0)) s 0 = findG (fun n => decide (n < 0)) (s.drop i.toNat) i) (fun ((i, M) : (Int) × (Int)) => s.length - i.toNat) (0, _) rfl ?_ ?_
  · simp [Alg.std]
  rintro ⟨i, M⟩ hf I hI
  replace hf : M = s.length ∧ 0 ≤ i ∧ i ≤ s.length ∧ findG (fun n => decide (n < 0)) s 0 = findG (fun n => decide (n < 0)) (s.drop i.toNat) i := hf
  generalize hL : Lg.std = L
  generalize hA : Alg.std = A
  cbv
  subst hL hA
  try dsimp only [Ty.den]
  subst hI
  simp only [Lg.std, Alg.std, List.drop_zero, List.take_length]
  obtain ⟨h1, h2, h3, h4⟩ := hf
  have hl := hw.1.1
  have hdc := fun (h : i.toNat < s.length) => drop_cons s (0 : Int) i.toNat h
  have he := fun (h : s.length ≤ i.toNat) => drop_nil s i.toNat h
  repeat' (first | intro _ | apply And.intro)
  all_goals (try refine ⟨(_, _), rfl, ?_, ?_⟩)
  all_goals subst hR0 hg_F_i_hasVars_1 hg_Q_i_hasVars_1
  all_goals (try simp only [F_i_hasVars_1, Q_i_hasVars_1, F_sl_IndexFunc_int64__i_hasVars_1] at *)
  all_goals grind [findG_cons, findG_nil]
def con_sl_IndexFunc_int64__i_hasVars_1 : Con := ⟨true, g2 (pD (.sl (.int .i64))) (pC0 118) fun s u => .one ⟨[Q_sl_IndexFunc_int64__i_hasVars_1 s u], [⟨(.int .i64), .sh, F_sl_IndexFunc_int64__i_hasVars_1 s u⟩], []⟩, [], false, 0⟩
theorem ok_sl_IndexFunc_int64__i_hasVars_1 : ConOk pg 126 con_sl_IndexFunc_int64__i_hasVars_1 := ConOk.g2 (Enters.of (by kernel_rfl)) ct_sl_IndexFunc_int64__i_hasVars_1

def F_sl_ContainsFunc_int64__i_hasVars_1 (s : List (Int)) (u : Unit) : Bool := s.any (fun n => decide (n < 0))
def Q_sl_ContainsFunc_int64__i_hasVars_1 (s : List (Int)) (u : Unit) : Prop := True
def O_sl_ContainsFunc_int64__i_hasVars_1 : Opt := ⟨fun i => false, fun i => [], fun i => .done, fun i => none, fun i => false, fun i => [], fun i => false, fun i => none⟩
def τ_sl_ContainsFunc_int64__i_hasVars_1 : Env := Env.of [(3, (.int .i64)), (4, .bool), (48, (.sl (.int .i64)))] [] []

theorem ct_sl_ContainsFunc_int64__i_hasVars_1 (s : List (Int)) (u : Unit) : Ct pg 115 [.dat (.sl (.int .i64)) s, .clo 118 []] ⟨[Q_sl_ContainsFunc_int64__i_hasVars_1 s u], [⟨.bool, .sh, F_sl_ContainsFunc_int64__i_hasVars_1 s u⟩], []⟩ := by
  refine ct_claim (O := O_sl_ContainsFunc_int64__i_hasVars_1) (τ := τ_sl_ContainsFunc_int64__i_hasVars_1) (EnvOk.of (by kernel_rfl) (by kernel_rfl)) (GOk.of (.cons (ConOk.or ok_sl_IndexFunc_int64__i_TermFault_1 ok_sl_IndexFunc_int64__i_hasVars_1) (.cons ok_i_hasVars_1 .nil) : AllOk pg [(126, (Con.or con_sl_IndexFunc_int64__i_TermFault_1 con_sl_IndexFunc_int64__i_hasVars_1)), (118, con_i_hasVars_1)])) mixed (Enters.of (by kernel_rfl)) (fn := Go.Proofs.Tryd.f115) (by kernel_rfl) rfl (by kernel_rfl) ?_
  intro hp hw
  have hq : Q_sl_ContainsFunc_int64__i_hasVars_1 s u := hp _ (List.mem_singleton.2 rfl)
  clear hp
  change claim Lg.std Alg.std τ_sl_ContainsFunc_int64__i_hasVars_1 (Gam.of [(126, Con.or (⟨true, g2 (pD (.sl (.int .i64))) (pC1 116 (pP (.pair (.sl (.pair .str (.pair (.int .i64) .unit))) .unit))) fun s g => .one ⟨[Q_sl_IndexFunc_int64__i_TermFault_1 s g], [⟨(.int .i64), .sh, F_sl_IndexFunc_int64__i_TermFault_1 s g⟩], []⟩, [], false, 0⟩ : Con) (⟨true, g2 (pD (.sl (.int .i64))) (pC0 118) fun s u => .one ⟨[Q_sl_IndexFunc_int64__i_hasVars_1 s u], [⟨(.int .i64), .sh, F_sl_IndexFunc_int64__i_hasVars_1 s u⟩], []⟩, [], false, 0⟩)), (118, ⟨true, g1 (pD (.int .i64)) fun n => .one ⟨[Q_i_hasVars_1 n], [⟨.bool, .sh, F_i_hasVars_1 n⟩], []⟩, [], false, 0⟩)]) O_sl_ContainsFunc_int64__i_hasVars_1 Go.Proofs.Tryd.f115 [.dat (.sl (.int .i64)) s, .clo 118 []] ⟨[Q_sl_ContainsFunc_int64__i_hasVars_1 s u], [⟨.bool, .sh, F_sl_ContainsFunc_int64__i_hasVars_1 s u⟩], []⟩
  generalize hg_F_sl_IndexFunc_int64__i_TermFault_1 : F_sl_IndexFunc_int64__i_TermFault_1 = g_F_sl_IndexFunc_int64__i_TermFault_1
  generalize hg_Q_sl_IndexFunc_int64__i_TermFault_1 : Q_sl_IndexFunc_int64__i_TermFault_1 = g_Q_sl_IndexFunc_int64__i_TermFault_1
  generalize hg_F_i_hasVars_1 : F_i_hasVars_1 = g_F_i_hasVars_1
  generalize hg_Q_i_hasVars_1 : Q_i_hasVars_1 = g_Q_i_hasVars_1
  generalize hg_F_sl_IndexFunc_int64__i_hasVars_1 : F_sl_IndexFunc_int64__i_hasVars_1 = g_F_sl_IndexFunc_int64__i_hasVars_1
  generalize hg_Q_sl_IndexFunc_int64__i_hasVars_1 : Q_sl_IndexFunc_int64__i_hasVars_1 = g_Q_sl_IndexFunc_int64__i_hasVars_1
  generalize hR0 : F_sl_ContainsFunc_int64__i_hasVars_1 s u = R0
  generalize Q_sl_ContainsFunc_int64__i_hasVars_1 s u = Q0
  generalize hL : Lg.std = L
  generalize hA : Alg.std = A
  cbv
  subst hL hA
  try dsimp only [Ty.den]
  have hf := findG_any (fun n => decide (n < 0)) s 0 (by omega)
  subst hR0 hg_F_sl_IndexFunc_int64__i_TermFault_1 hg_Q_sl_IndexFunc_int64__i_TermFault_1 hg_F_i_hasVars_1 hg_Q_i_hasVars_1 hg_F_sl_IndexFunc_int64__i_hasVars_1 hg_Q_sl_IndexFunc_int64__i_hasVars_1
  simp only [Q_sl_ContainsFunc_int64__i_hasVars_1] at hq
  simp only [Lg.std, Alg.std, List.drop_zero, List.take_length, F_sl_IndexFunc_int64__i_TermFault_1, F_i_hasVars_1, F_sl_IndexFunc_int64__i_hasVars_1, Q_sl_IndexFunc_int64__i_TermFault_1, Q_i_hasVars_1, Q_sl_IndexFunc_int64__i_hasVars_1, F_sl_ContainsFunc_int64__i_hasVars_1]
  all_goals grind
def con_sl_ContainsFunc_int64__i_hasVars_1 : Con := ⟨true, g2 (pD (.sl (.int .i64))) (pC0 118) fun s u => .one ⟨[Q_sl_ContainsFunc_int64__i_hasVars_1 s u], [⟨.bool, .sh, F_sl_ContainsFunc_int64__i_hasVars_1 s u⟩], []⟩, [], false, 0⟩
theorem ok_sl_ContainsFunc_int64__i_hasVars_1 : ConOk pg 115 con_sl_ContainsFunc_int64__i_hasVars_1 := ConOk.g2 (Enters.of (by kernel_rfl)) ct_sl_ContainsFunc_int64__i_hasVars_1

def F_i_hasVars (t : List (Int)) : Bool := !grd t
def Q_i_hasVars (t : List (Int)) : Prop := True
def O_i_hasVars : Opt := ⟨fun i => false, fun i => [], fun i => .done, fun i => none, fun i => false, fun i => [], fun i => false, fun i => none⟩
def τ_i_hasVars : Env := Env.of [(2, (.int .i64)), (4, .bool), (48, (.sl (.int .i64)))] [] []

theorem ct_i_hasVars (t : List (Int)) : Ct pg 104 [.dat (.sl (.int .i64)) t] ⟨[Q_i_hasVars t], [⟨.bool, .sh, F_i_hasVars t⟩], []⟩ := by
  refine ct_claim (O := O_i_hasVars) (τ := τ_i_hasVars) (EnvOk.of (by kernel_rfl) (by kernel_rfl)) (GOk.of (.cons (ConOk.or ok_sl_ContainsFunc_int64__i_TermFault_1 ok_sl_ContainsFunc_int64__i_hasVars_1) (.cons ok_i_hasVars_1 .nil) : AllOk pg [(115, (Con.or con_sl_ContainsFunc_int64__i_TermFault_1 con_sl_ContainsFunc_int64__i_hasVars_1)), (118, con_i_hasVars_1)])) mixed (Enters.of (by kernel_rfl)) (fn := Go.Proofs.Tryd.f104) (by kernel_rfl) rfl (by kernel_rfl) ?_
  intro hp hw
  have hq : Q_i_hasVars t := hp _ (List.mem_singleton.2 rfl)
  clear hp
  change claim Lg.std Alg.std τ_i_hasVars (Gam.of [(115, Con.or (⟨true, g2 (pD (.sl (.int .i64))) (pC1 116 (pP (.pair (.sl (.pair .str (.pair (.int .i64) .unit))) .unit))) fun s g => .one ⟨[Q_sl_ContainsFunc_int64__i_TermFault_1 s g], [⟨.bool, .sh, F_sl_ContainsFunc_int64__i_TermFault_1 s g⟩], []⟩, [], false, 0⟩ : Con) (⟨true, g2 (pD (.sl (.int .i64))) (pC0 118) fun s u => .one ⟨[Q_sl_ContainsFunc_int64__i_hasVars_1 s u], [⟨.bool, .sh, F_sl_ContainsFunc_int64__i_hasVars_1 s u⟩], []⟩, [], false, 0⟩)), (118, ⟨true, g1 (pD (.int .i64)) fun n => .one ⟨[Q_i_hasVars_1 n], [⟨.bool, .sh, F_i_hasVars_1 n⟩], []⟩, [], false, 0⟩)]) O_i_hasVars Go.Proofs.Tryd.f104 [.dat (.sl (.int .i64)) t] ⟨[Q_i_hasVars t], [⟨.bool, .sh, F_i_hasVars t⟩], []⟩
  generalize hg_F_sl_ContainsFunc_int64__i_TermFault_1 : F_sl_ContainsFunc_int64__i_TermFault_1 = g_F_sl_ContainsFunc_int64__i_TermFault_1
  generalize hg_Q_sl_ContainsFunc_int64__i_TermFault_1 : Q_sl_ContainsFunc_int64__i_TermFault_1 = g_Q_sl_ContainsFunc_int64__i_TermFault_1
  generalize hg_F_i_hasVars_1 : F_i_hasVars_1 = g_F_i_hasVars_1
  generalize hg_Q_i_hasVars_1 : Q_i_hasVars_1 = g_Q_i_hasVars_1
  generalize hg_F_sl_ContainsFunc_int64__i_hasVars_1 : F_sl_ContainsFunc_int64__i_hasVars_1 = g_F_sl_ContainsFunc_int64__i_hasVars_1
  generalize hg_Q_sl_ContainsFunc_int64__i_hasVars_1 : Q_sl_ContainsFunc_int64__i_hasVars_1 = g_Q_sl_ContainsFunc_int64__i_hasVars_1
  generalize hR0 : F_i_hasVars t = R0
  generalize Q_i_hasVars t = Q0
  generalize hL : Lg.std = L
  generalize hA : Alg.std = A
  cbv
  subst hL hA
  try dsimp only [Ty.den]
  have h := any_neg t
  subst hR0 hg_F_sl_ContainsFunc_int64__i_TermFault_1 hg_Q_sl_ContainsFunc_int64__i_TermFault_1 hg_F_i_hasVars_1 hg_Q_i_hasVars_1 hg_F_sl_ContainsFunc_int64__i_hasVars_1 hg_Q_sl_ContainsFunc_int64__i_hasVars_1
  simp only [Q_i_hasVars] at hq
  simp only [Lg.std, Alg.std, List.drop_zero, List.take_length, F_sl_ContainsFunc_int64__i_TermFault_1, F_i_hasVars_1, F_sl_ContainsFunc_int64__i_hasVars_1, Q_sl_ContainsFunc_int64__i_TermFault_1, Q_i_hasVars_1, Q_sl_ContainsFunc_int64__i_hasVars_1, F_i_hasVars]
  all_goals grind
def con_i_hasVars : Con := ⟨true, g1 (pD (.sl (.int .i64))) fun t => .one ⟨[Q_i_hasVars t], [⟨.bool, .sh, F_i_hasVars t⟩], []⟩, [], false, 0⟩
theorem ok_i_hasVars : ConOk pg 104 con_i_hasVars := ConOk.g1 (Enters.of (by kernel_rfl)) ct_i_hasVars

def F_s_l3Ground (t : List (Int)) : Bool := grd t
def Q_s_l3Ground (t : List (Int)) : Prop := True
def O_s_l3Ground : Opt := ⟨fun i => false, fun i => (match decide (i = 2) with | true => [true, false, false, true, false, false, false, false, false, false, false, false, false, false, false] | false => []), fun i => .done, fun i => none, fun i => false, fun i => [], fun i => false, fun i => none⟩
def τ_s_l3Ground : Env := Env.of [(2, (.int .i64)), (3, (.int .i64)), (4, .bool), (48, (.sl (.int .i64)))] [] []

theorem ct_s_l3Ground (t : List (Int)) : Ct pg 113 [.dat (.sl (.int .i64)) t] ⟨[Q_s_l3Ground t], [⟨.bool, .sh, F_s_l3Ground t⟩], []⟩ := by
  refine ct_claim (O := O_s_l3Ground) (τ := τ_s_l3Ground) (EnvOk.of (by kernel_rfl) (by kernel_rfl)) (GOk.of (.nil : AllOk pg [])) mixed (Enters.of (by kernel_rfl)) (fn := Go.Proofs.Tryd.f113) (by kernel_rfl) rfl (by kernel_rfl) ?_
  intro hp hw
  have hq : Q_s_l3Ground t := hp _ (List.mem_singleton.2 rfl)
  clear hp
  change claim Lg.std Alg.std τ_s_l3Ground (Gam.of []) O_s_l3Ground Go.Proofs.Tryd.f113 [.dat (.sl (.int .i64)) t] ⟨[Q_s_l3Ground t], [⟨.bool, .sh, F_s_l3Ground t⟩], []⟩
  generalize hR0 : F_s_l3Ground t = R0
  generalize Q_s_l3Ground t = Q0
  generalize hL : Lg.std = L
  generalize hA : Alg.std = A
  cbv
  subst hL hA
  try dsimp only [Ty.den]
  refine lp_v (V := (Int)) (fun (i : Int) => ⟨[.dat (.sl (.int .i64)) t, .junk, .junk, .dat (.int .i64) i, .junk, .junk, .junk, .junk, .junk, .junk, .junk, .junk, .junk, .junk, .junk], []⟩) (fun (i : Int) => 0 ≤ i ∧ i ≤ t.length ∧ grd t = grd (t.drop i.toNat)) (fun (i : Int) => t.length - i.toNat) (0) rfl ?_ ?_
  · simp
  rintro i hf I hI
  replace hf : 0 ≤ i ∧ i ≤ t.length ∧ grd t = grd (t.drop i.toNat) := hf
  generalize hL : Lg.std = L
  generalize hA : Alg.std = A
  cbv
  subst hL hA
  try dsimp only [Ty.den]
  subst hI
  obtain ⟨h1, h2, h3⟩ := hf
  have st := fun (h : i.toNat < t.length) => allp_step (fun n => decide (0 ≤ n)) t i.toNat h
  have en := fun (h : t.length ≤ i.toNat) => (by rw [List.drop_of_length_le h]; rfl : grd (t.drop i.toNat) = true)
  have gd : ∀ l, grd l = l.all fun n => decide (0 ≤ n) := fun _ => rfl
  have es : (i + 1).toNat = i.toNat + 1 := by omega
  have hl := hw.1.1
  repeat' (first | intro _ | apply And.intro)
  all_goals first | (with_reducible exact True.intro) | ((fail_if_success (refine lp_v (V := Unit) (fun _ => ⟨[], []⟩) (fun _ => True) (fun _ => 0) () ?_ ?_ ?_)); (try simp only [Lg.std, Alg.std, List.drop_zero, List.take_length] at *); (try refine ⟨_, rfl, ?_, ?_⟩); (all_goals (subst hR0; (try simp only [Lg.std, Alg.std, List.drop_zero, List.take_length, F_s_l3Ground] at *); first | done | (grind)))) | skip
def con_s_l3Ground : Con := ⟨true, g1 (pD (.sl (.int .i64))) fun t => .one ⟨[Q_s_l3Ground t], [⟨.bool, .sh, F_s_l3Ground t⟩], []⟩, [], false, 0⟩
theorem ok_s_l3Ground : ConOk pg 113 con_s_l3Ground := ConOk.g1 (Enters.of (by kernel_rfl)) ct_s_l3Ground

def F_i_keyFault (s : (List ((List Int) × (Int) × Unit)) × Unit) (a : List (Int)) (b : List (Int)) : Int := keyF s a b
def Q_i_keyFault (s : (List ((List Int) × (Int) × Unit)) × Unit) (a : List (Int)) (b : List (Int)) : Prop := True
def O_i_keyFault : Opt := ⟨fun i => false, fun i => [], fun i => (match decide (i = 1) with | true => (.take 1 (.take 4 (.alt 0 (.alt 2 (.alt 3 (.alt 5 (.alt 6 (.alt 7 (.take 8 .done) .no) .no) .no) .no) (.alt 3 (.alt 2 (.alt 5 (.alt 6 (.alt 7 (.take 8 .done) .no) .no) .no) .no) .no)) (.alt 3 (.alt 0 (.alt 2 (.alt 5 (.alt 6 (.alt 7 (.take 8 .done) .no) .no) .no) .no) .no) .no)))) | false => .done), fun i => (match decide (i = 1) with | true => some [false, true, true, false, false, false, false, true, false, false, false, false, false, false, false, false, false, false, false, false, false, false, false, false, false, false, false, false, false, false, false, false, false] | false => none), fun i => false, fun i => [], fun i => false, fun i => none⟩
def τ_i_keyFault : Env := Env.of [(2, (.int .i64)), (3, (.int .i64)), (4, .bool), (32, (.pair (.sl (.pair .str (.pair (.int .i64) .unit))) .unit)), (48, (.sl (.int .i64)))] [] []

theorem ct_i_keyFault (s : (List ((List Int) × (Int) × Unit)) × Unit) (a : List (Int)) (b : List (Int)) : Ct pg 75 [.dat (.pair (.sl (.pair .str (.pair (.int .i64) .unit))) .unit) s, .dat (.sl (.int .i64)) a, .dat (.sl (.int .i64)) b] ⟨[Q_i_keyFault s a b], [⟨(.int .i64), .sh, F_i_keyFault s a b⟩], []⟩ := by
  refine ct_claim (O := O_i_keyFault) (τ := τ_i_keyFault) (EnvOk.of (by kernel_rfl) (by kernel_rfl)) (GOk.of (.cons ok_i_firstCode (.cons ok_i_TermFault (.cons ok_i_hasVars .nil)) : AllOk pg [(102, con_i_firstCode), (103, con_i_TermFault), (104, con_i_hasVars)])) mixed (Enters.of (by kernel_rfl)) (fn := Go.Proofs.Tryd.f75) (by kernel_rfl) rfl (by kernel_rfl) ?_
  intro hp hw
  have hq : Q_i_keyFault s a b := hp _ (List.mem_singleton.2 rfl)
  clear hp
  change claim Lg.std Alg.std τ_i_keyFault (Gam.of [(102, ⟨true, g1 (pD (.sl (.int .i64))) fun l => .one ⟨[Q_i_firstCode l], [⟨(.int .i64), .sh, F_i_firstCode l⟩], []⟩, [], false, 0⟩), (103, ⟨true, g2 (pD (.pair (.sl (.pair .str (.pair (.int .i64) .unit))) .unit)) (pD (.sl (.int .i64))) fun s t => .one ⟨[Q_i_TermFault s t], [⟨(.int .i64), .sh, F_i_TermFault s t⟩], []⟩, [], false, 0⟩), (104, ⟨true, g1 (pD (.sl (.int .i64))) fun t => .one ⟨[Q_i_hasVars t], [⟨.bool, .sh, F_i_hasVars t⟩], []⟩, [], false, 0⟩)]) O_i_keyFault Go.Proofs.Tryd.f75 [.dat (.pair (.sl (.pair .str (.pair (.int .i64) .unit))) .unit) s, .dat (.sl (.int .i64)) a, .dat (.sl (.int .i64)) b] ⟨[Q_i_keyFault s a b], [⟨(.int .i64), .sh, F_i_keyFault s a b⟩], []⟩
  generalize hg_F_i_firstCode : F_i_firstCode = g_F_i_firstCode
  generalize hg_Q_i_firstCode : Q_i_firstCode = g_Q_i_firstCode
  generalize hg_F_i_TermFault : F_i_TermFault = g_F_i_TermFault
  generalize hg_Q_i_TermFault : Q_i_TermFault = g_Q_i_TermFault
  generalize hg_F_i_hasVars : F_i_hasVars = g_F_i_hasVars
  generalize hg_Q_i_hasVars : Q_i_hasVars = g_Q_i_hasVars
  generalize hR0 : F_i_keyFault s a b = R0
  generalize Q_i_keyFault s a b = Q0
  generalize hL : Lg.std = L
  generalize hA : Alg.std = A
  cbv
  subst hL hA
  try dsimp only [Ty.den]
  obtain ⟨s_0, ⟨⟩⟩ := s
  have hfn : ∀ a b : Int, firstNZ [a, b] = if a ≠ 0 then a else b := fun a b => by
    by_cases ha : a = 0 <;> by_cases hb : b = 0 <;> simp [firstNZ, ha, hb]
  subst hR0 hg_F_i_firstCode hg_Q_i_firstCode hg_F_i_TermFault hg_Q_i_TermFault hg_F_i_hasVars hg_Q_i_hasVars
  simp only [Lg.std, Alg.std, List.drop_zero, List.take_length, F_i_firstCode, F_i_TermFault, F_i_hasVars, Q_i_firstCode, Q_i_TermFault, Q_i_hasVars, F_i_keyFault, keyF, short, List.take_succ_cons, List.take_zero, hfn] at *
  repeat' (first | intro _ | apply And.intro)
  all_goals grind
def con_i_keyFault : Con := ⟨true, g3 (pD (.pair (.sl (.pair .str (.pair (.int .i64) .unit))) .unit)) (pD (.sl (.int .i64))) (pD (.sl (.int .i64))) fun s a b => .one ⟨[Q_i_keyFault s a b], [⟨(.int .i64), .sh, F_i_keyFault s a b⟩], []⟩, [], false, 0⟩
theorem ok_i_keyFault : ConOk pg 75 con_i_keyFault := ConOk.g3 (Enters.of (by kernel_rfl)) ct_i_keyFault

def F_s_l5Short (a : List (Int)) (b : List (Int)) : Int := short a b
def Q_s_l5Short (a : List (Int)) (b : List (Int)) : Prop := True
def O_s_l5Short : Opt := ⟨fun i => false, fun i => [], fun i => .done, fun i => none, fun i => false, fun i => [], fun i => false, fun i => none⟩
def τ_s_l5Short : Env := Env.of [(2, (.int .i64)), (3, (.int .i64)), (4, .bool), (48, (.sl (.int .i64)))] [] []

theorem ct_s_l5Short (a : List (Int)) (b : List (Int)) : Ct pg 101 [.dat (.sl (.int .i64)) a, .dat (.sl (.int .i64)) b] ⟨[Q_s_l5Short a b], [⟨(.int .i64), .sh, F_s_l5Short a b⟩], []⟩ := by
  refine ct_claim (O := O_s_l5Short) (τ := τ_s_l5Short) (EnvOk.of (by kernel_rfl) (by kernel_rfl)) (GOk.of (.cons ok_s_l3Ground .nil : AllOk pg [(113, con_s_l3Ground)])) mixed (Enters.of (by kernel_rfl)) (fn := Go.Proofs.Tryd.f101) (by kernel_rfl) rfl (by kernel_rfl) ?_
  intro hp hw
  have hq : Q_s_l5Short a b := hp _ (List.mem_singleton.2 rfl)
  clear hp
  change claim Lg.std Alg.std τ_s_l5Short (Gam.of [(113, ⟨true, g1 (pD (.sl (.int .i64))) fun t => .one ⟨[Q_s_l3Ground t], [⟨.bool, .sh, F_s_l3Ground t⟩], []⟩, [], false, 0⟩)]) O_s_l5Short Go.Proofs.Tryd.f101 [.dat (.sl (.int .i64)) a, .dat (.sl (.int .i64)) b] ⟨[Q_s_l5Short a b], [⟨(.int .i64), .sh, F_s_l5Short a b⟩], []⟩
  generalize hg_F_s_l3Ground : F_s_l3Ground = g_F_s_l3Ground
  generalize hg_Q_s_l3Ground : Q_s_l3Ground = g_Q_s_l3Ground
  generalize hR0 : F_s_l5Short a b = R0
  generalize Q_s_l5Short a b = Q0
  generalize hL : Lg.std = L
  generalize hA : Alg.std = A
  cbv
  subst hL hA
  try dsimp only [Ty.den]
  subst hR0 hg_F_s_l3Ground hg_Q_s_l3Ground
  simp only [Q_s_l5Short] at hq
  simp only [Lg.std, Alg.std, List.drop_zero, List.take_length, F_s_l3Ground, Q_s_l3Ground, F_s_l5Short]
  all_goals grind [short]
def con_s_l5Short : Con := ⟨true, g2 (pD (.sl (.int .i64))) (pD (.sl (.int .i64))) fun a b => .one ⟨[Q_s_l5Short a b], [⟨(.int .i64), .sh, F_s_l5Short a b⟩], []⟩, [], false, 0⟩
theorem ok_s_l5Short : ConOk pg 101 con_s_l5Short := ConOk.g2 (Enters.of (by kernel_rfl)) ct_s_l5Short

def F_s_l5Cut (s : (List ((List Int) × (Int) × Unit)) × Unit) (k : List (Int)) : List (Int) := (l5Cut s k).1
def F_s_l5Cut_1 (s : (List ((List Int) × (Int) × Unit)) × Unit) (k : List (Int)) : List (Int) := (l5Cut s k).2.1
def F_s_l5Cut_2 (s : (List ((List Int) × (Int) × Unit)) × Unit) (k : List (Int)) : Bool := (l5Cut s k).2.2
def Q_s_l5Cut (s : (List ((List Int) × (Int) × Unit)) × Unit) (k : List (Int)) : Prop := sigFault s = 0
def O_s_l5Cut : Opt := ⟨fun i => false, fun i => [], fun i => .done, fun i => none, fun i => false, fun i => [], fun i => false, fun i => none⟩
def τ_s_l5Cut : Env := Env.of [(2, (.int .i64)), (3, (.int .i64)), (4, .bool), (5, (.int .u8)), (22, (.sl (.int .u8))), (48, (.sl (.int .i64)))] [(86, (.pair (.sl (.pair .str (.pair (.int .i64) .unit))) .unit))] []

theorem ct_s_l5Cut (s : (List ((List Int) × (Int) × Unit)) × Unit) (k : List (Int)) : Ct pg 74 [.dptr (.pair (.sl (.pair .str (.pair (.int .i64) .unit))) .unit) s, .dat (.sl (.int .u8)) k] ⟨[Q_s_l5Cut s k], [⟨(.sl (.int .i64)), (.ow .sh), F_s_l5Cut s k⟩, ⟨(.sl (.int .i64)), (.ow .sh), F_s_l5Cut_1 s k⟩, ⟨.bool, .sh, F_s_l5Cut_2 s k⟩], []⟩ := by
  refine ct_claim (O := O_s_l5Cut) (τ := τ_s_l5Cut) (EnvOk.of (by kernel_rfl) (by kernel_rfl)) (GOk.of (.cons ok_s_l5Read (.cons ok_s_l5Short .nil) : AllOk pg [(62, con_s_l5Read), (101, con_s_l5Short)])) mixed (Enters.of (by kernel_rfl)) (fn := Go.Proofs.Tryd.f74) (by kernel_rfl) rfl (by kernel_rfl) ?_
  intro hp hw
  have hq : Q_s_l5Cut s k := hp _ (List.mem_singleton.2 rfl)
  clear hp
  change claim Lg.std Alg.std τ_s_l5Cut (Gam.of [(62, ⟨true, g2 (pP (.pair (.sl (.pair .str (.pair (.int .i64) .unit))) .unit)) (pD (.sl (.int .u8))) fun s d => .one ⟨[Q_s_l5Read s d], [⟨(.sl (.int .i64)), (.ow .sh), F_s_l5Read s d⟩], []⟩, [], false, 0⟩), (101, ⟨true, g2 (pD (.sl (.int .i64))) (pD (.sl (.int .i64))) fun a b => .one ⟨[Q_s_l5Short a b], [⟨(.int .i64), .sh, F_s_l5Short a b⟩], []⟩, [], false, 0⟩)]) O_s_l5Cut Go.Proofs.Tryd.f74 [.dptr (.pair (.sl (.pair .str (.pair (.int .i64) .unit))) .unit) s, .dat (.sl (.int .u8)) k] ⟨[Q_s_l5Cut s k], [⟨(.sl (.int .i64)), (.ow .sh), F_s_l5Cut s k⟩, ⟨(.sl (.int .i64)), (.ow .sh), F_s_l5Cut_1 s k⟩, ⟨.bool, .sh, F_s_l5Cut_2 s k⟩], []⟩
  generalize hg_F_s_l5Read : F_s_l5Read = g_F_s_l5Read
  generalize hg_Q_s_l5Read : Q_s_l5Read = g_Q_s_l5Read
  generalize hg_F_s_l5Short : F_s_l5Short = g_F_s_l5Short
  generalize hg_Q_s_l5Short : Q_s_l5Short = g_Q_s_l5Short
  generalize hR0 : F_s_l5Cut s k = R0
  generalize hR1 : F_s_l5Cut_1 s k = R1
  generalize hR2 : F_s_l5Cut_2 s k = R2
  generalize Q_s_l5Cut s k = Q0
  generalize hL : Lg.std = L
  generalize hA : Alg.std = A
  cbv
  subst hL hA
  try dsimp only [Ty.den]
  obtain ⟨s_0, ⟨⟩⟩ := s
  simp only [Q_s_l5Cut] at hq
  have hcut : l5Cut (s_0, PUnit.unit) k = if (l5R (s_0, PUnit.unit) k).length = 0 then ([], [], false) else
    if (l5R (s_0, PUnit.unit) (k.drop (l5R (s_0, PUnit.unit) k).length)).length = 0 ∨ (l5R (s_0, PUnit.unit) k).length + (l5R (s_0, PUnit.unit) (k.drop (l5R (s_0, PUnit.unit) k).length)).length ≠ k.length ∨ short (l5R (s_0, PUnit.unit) k) (l5R (s_0, PUnit.unit) (k.drop (l5R (s_0, PUnit.unit) k).length)) ≠ 0 then ([], [], false)
    else (l5R (s_0, PUnit.unit) k, l5R (s_0, PUnit.unit) (k.drop (l5R (s_0, PUnit.unit) k).length), true) := rfl
  have hln := l5R_len (s_0, PUnit.unit) k hq (u8s hw.2.1.2)
  have hl2 := fun h => ((term_same (s_0, PUnit.unit) hq k (u8s hw.2.1.2)).2 h).1.2
  have htk : ∀ n : Nat, (k.drop n).take (k.length - n) = k.drop n := fun n => List.take_of_length_le (by simp)
  have hln2 := fun n => l5R_len (s_0, PUnit.unit) (k.drop n) hq (fun y hy => u8s hw.2.1.2 y (List.mem_of_mem_drop hy))
  subst hR0 hR1 hR2 hg_F_s_l5Read hg_Q_s_l5Read hg_F_s_l5Short hg_Q_s_l5Short
  simp only [Lg.std, Alg.std, List.drop_zero, List.take_length, F_s_l5Read, F_s_l5Short, Q_s_l5Read, Q_s_l5Short, F_s_l5Cut, F_s_l5Cut_1, F_s_l5Cut_2, Int.toNat_natCast, htk] at *
  repeat' (first | intro _ | apply And.intro)
  all_goals grind
def con_s_l5Cut : Con := ⟨true, g2 (pP (.pair (.sl (.pair .str (.pair (.int .i64) .unit))) .unit)) (pD (.sl (.int .u8))) fun s k => .one ⟨[Q_s_l5Cut s k], [⟨(.sl (.int .i64)), (.ow .sh), F_s_l5Cut s k⟩, ⟨(.sl (.int .i64)), (.ow .sh), F_s_l5Cut_1 s k⟩, ⟨.bool, .sh, F_s_l5Cut_2 s k⟩], []⟩, [], false, 0⟩
theorem ok_s_l5Cut : ConOk pg 74 con_s_l5Cut := ConOk.g2 (Enters.of (by kernel_rfl)) ct_s_l5Cut

def F_w_eqKeyResult (a : (Int) × (List (Int)) × (List (Int)) × Unit) (b : (Int) × (List (Int)) × (List (Int)) × Unit) : Bool := decide (a = b)
def Q_w_eqKeyResult (a : (Int) × (List (Int)) × (List (Int)) × Unit) (b : (Int) × (List (Int)) × (List (Int)) × Unit) : Prop := True
def O_w_eqKeyResult : Opt := ⟨fun i => false, fun i => [], fun i => .done, fun i => none, fun i => false, fun i => [], fun i => false, fun i => none⟩
def τ_w_eqKeyResult : Env := Env.of [(2, (.int .i64)), (4, .bool), (48, (.sl (.int .i64))), (65, (.pair (.int .i64) (.pair (.sl (.int .i64)) (.pair (.sl (.int .i64)) .unit))))] [] []

theorem ct_w_eqKeyResult (a : (Int) × (List (Int)) × (List (Int)) × Unit) (b : (Int) × (List (Int)) × (List (Int)) × Unit) : Ct pg 39 [.dat (.pair (.int .i64) (.pair (.sl (.int .i64)) (.pair (.sl (.int .i64)) .unit))) a, .dat (.pair (.int .i64) (.pair (.sl (.int .i64)) (.pair (.sl (.int .i64)) .unit))) b] ⟨[Q_w_eqKeyResult a b], [⟨.bool, .sh, F_w_eqKeyResult a b⟩], []⟩ := by
  refine ct_claim (O := O_w_eqKeyResult) (τ := τ_w_eqKeyResult) (EnvOk.of (by kernel_rfl) (by kernel_rfl)) (GOk.of (.cons ok_w_eqInt64S .nil : AllOk pg [(66, con_w_eqInt64S)])) mixed (Enters.of (by kernel_rfl)) (fn := Go.Proofs.Tryd.f39) (by kernel_rfl) rfl (by kernel_rfl) ?_
  intro hp hw
  have hq : Q_w_eqKeyResult a b := hp _ (List.mem_singleton.2 rfl)
  clear hp
  change claim Lg.std Alg.std τ_w_eqKeyResult (Gam.of [(66, ⟨true, g2 (pD (.sl (.int .i64))) (pD (.sl (.int .i64))) fun a b => .one ⟨[Q_w_eqInt64S a b], [⟨.bool, .sh, F_w_eqInt64S a b⟩], []⟩, [], false, 0⟩)]) O_w_eqKeyResult Go.Proofs.Tryd.f39 [.dat (.pair (.int .i64) (.pair (.sl (.int .i64)) (.pair (.sl (.int .i64)) .unit))) a, .dat (.pair (.int .i64) (.pair (.sl (.int .i64)) (.pair (.sl (.int .i64)) .unit))) b] ⟨[Q_w_eqKeyResult a b], [⟨.bool, .sh, F_w_eqKeyResult a b⟩], []⟩
  generalize hg_F_w_eqInt64S : F_w_eqInt64S = g_F_w_eqInt64S
  generalize hg_Q_w_eqInt64S : Q_w_eqInt64S = g_Q_w_eqInt64S
  generalize hR0 : F_w_eqKeyResult a b = R0
  generalize Q_w_eqKeyResult a b = Q0
  generalize hL : Lg.std = L
  generalize hA : Alg.std = A
  cbv
  subst hL hA
  try dsimp only [Ty.den]
  obtain ⟨f0, f1, f2, ⟨⟩⟩ := a
  obtain ⟨g0, g1, g2, ⟨⟩⟩ := b
  subst hR0 hg_F_w_eqInt64S hg_Q_w_eqInt64S
  simp only [Q_w_eqKeyResult] at hq
  simp only [Lg.std, Alg.std, List.drop_zero, List.take_length, F_w_eqInt64S, Q_w_eqInt64S, F_w_eqKeyResult]
  all_goals grind
def con_w_eqKeyResult : Con := ⟨true, g2 (pD (.pair (.int .i64) (.pair (.sl (.int .i64)) (.pair (.sl (.int .i64)) .unit)))) (pD (.pair (.int .i64) (.pair (.sl (.int .i64)) (.pair (.sl (.int .i64)) .unit)))) fun a b => .one ⟨[Q_w_eqKeyResult a b], [⟨.bool, .sh, F_w_eqKeyResult a b⟩], []⟩, [], false, 0⟩
theorem ok_w_eqKeyResult : ConOk pg 39 con_w_eqKeyResult := ConOk.g2 (Enters.of (by kernel_rfl)) ct_w_eqKeyResult

def F_w_markKeyResult (a : (Int) × (List (Int)) × (List (Int)) × Unit) (k : Int) : Int := k + cnt false (.pair (.int .i64) (.pair (.sl (.int .i64)) (.pair (.sl (.int .i64)) .unit))) a
def B_w_markKeyResult_a (a : (Int) × (List (Int)) × (List (Int)) × Unit) (k : Int) : (Int) × (List (Int)) × (List (Int)) × Unit := mk false (.pair (.int .i64) (.pair (.sl (.int .i64)) (.pair (.sl (.int .i64)) .unit))) a k
def Q_w_markKeyResult (a : (Int) × (List (Int)) × (List (Int)) × Unit) (k : Int) : Prop := 0 ≤ k ∧ k + cnt false (.pair (.int .i64) (.pair (.sl (.int .i64)) (.pair (.sl (.int .i64)) .unit))) a ≤ 4611686018427387904
def O_w_markKeyResult : Opt := ⟨fun i => false, fun i => [], fun i => .done, fun i => none, fun i => false, fun i => [], fun i => false, fun i => none⟩
def τ_w_markKeyResult : Env := Env.of [(2, (.int .i64)), (3, (.int .i64)), (4, .bool), (48, (.sl (.int .i64))), (65, (.pair (.int .i64) (.pair (.sl (.int .i64)) (.pair (.sl (.int .i64)) .unit))))] [] []

theorem ct_w_markKeyResult (a : (Int) × (List (Int)) × (List (Int)) × Unit) (k : Int) : Ct pg 40 [.mv (.pair (.int .i64) (.pair (.sl (.int .i64)) (.pair (.sl (.int .i64)) .unit))) (.pr .sh (.pr (.ow .sh) (.pr (.ow .sh) .sh))) a, .dat (.int .i64) k] ⟨[Q_w_markKeyResult a k], [⟨(.int .i64), .sh, F_w_markKeyResult a k⟩], [.mv (.pair (.int .i64) (.pair (.sl (.int .i64)) (.pair (.sl (.int .i64)) .unit))) (.pr .sh (.pr (.ow .sh) (.pr (.ow .sh) .sh))) (B_w_markKeyResult_a a k)]⟩ := by
  refine ct_claim (O := O_w_markKeyResult) (τ := τ_w_markKeyResult) (EnvOk.of (by kernel_rfl) (by kernel_rfl)) (GOk.of (.cons ok_w_markInt64S .nil : AllOk pg [(69, con_w_markInt64S)])) mixed (Enters.of (by kernel_rfl)) (fn := Go.Proofs.Tryd.f40) (by kernel_rfl) rfl (by kernel_rfl) ?_
  intro hp hw
  have hq : Q_w_markKeyResult a k := hp _ (List.mem_singleton.2 rfl)
  clear hp
  change claim Lg.std Alg.std τ_w_markKeyResult (Gam.of [(69, ⟨true, g2 (pV (.sl (.int .i64)) (.ow .sh)) (pD (.int .i64)) fun a k => .one ⟨[Q_w_markInt64S a k], [⟨(.int .i64), .sh, F_w_markInt64S a k⟩], [.mv (.sl (.int .i64)) (.ow .sh) (B_w_markInt64S_a a k)]⟩, [(.ow .sh)], false, 0⟩)]) O_w_markKeyResult Go.Proofs.Tryd.f40 [.mv (.pair (.int .i64) (.pair (.sl (.int .i64)) (.pair (.sl (.int .i64)) .unit))) (.pr .sh (.pr (.ow .sh) (.pr (.ow .sh) .sh))) a, .dat (.int .i64) k] ⟨[Q_w_markKeyResult a k], [⟨(.int .i64), .sh, F_w_markKeyResult a k⟩], [.mv (.pair (.int .i64) (.pair (.sl (.int .i64)) (.pair (.sl (.int .i64)) .unit))) (.pr .sh (.pr (.ow .sh) (.pr (.ow .sh) .sh))) (B_w_markKeyResult_a a k)]⟩
  generalize hg_F_w_markInt64S : F_w_markInt64S = g_F_w_markInt64S
  generalize hg_B_w_markInt64S_a : B_w_markInt64S_a = g_B_w_markInt64S_a
  generalize hg_Q_w_markInt64S : Q_w_markInt64S = g_Q_w_markInt64S
  generalize hR0 : F_w_markKeyResult a k = R0
  generalize hB_a : B_w_markKeyResult_a a k = B_a
  generalize Q_w_markKeyResult a k = Q0
  generalize hL : Lg.std = L
  generalize hA : Alg.std = A
  cbv
  subst hL hA
  try dsimp only [Ty.den]
  obtain ⟨f0, f1, f2, ⟨⟩⟩ := a
  simp only [Q_w_markKeyResult] at hq
  subst hR0 hB_a hg_F_w_markInt64S hg_B_w_markInt64S_a hg_Q_w_markInt64S
  simp only [Lg.std, Alg.std, List.drop_zero, List.take_length, F_w_markInt64S, B_w_markInt64S_a, Q_w_markInt64S, F_w_markKeyResult, B_w_markKeyResult_a, szf, tot_p, tot_u, tot_i, tot_b, tot_s, cnt_p, cnt_u, cnt_i0, cnt_b0, cnt_s0, cnt_i1, cnt_b1, cnt_s1, cnt_l, mk_p, mk_u, mk_i0, mk_b0, mk_s0, mk_i1, mk_s1, mk_l, hd_p, hd_u, hd_i0, hd_b0, hd_s0, hd_i1, hd_b1, hd_s1, hd_l] at *
  all_goals grind [mk_len]
def con_w_markKeyResult : Con := ⟨true, g2 (pV (.pair (.int .i64) (.pair (.sl (.int .i64)) (.pair (.sl (.int .i64)) .unit))) (.pr .sh (.pr (.ow .sh) (.pr (.ow .sh) .sh)))) (pD (.int .i64)) fun a k => .one ⟨[Q_w_markKeyResult a k], [⟨(.int .i64), .sh, F_w_markKeyResult a k⟩], [.mv (.pair (.int .i64) (.pair (.sl (.int .i64)) (.pair (.sl (.int .i64)) .unit))) (.pr .sh (.pr (.ow .sh) (.pr (.ow .sh) .sh))) (B_w_markKeyResult_a a k)]⟩, [(.pr .sh (.pr (.ow .sh) (.pr (.ow .sh) .sh)))], false, 0⟩
theorem ok_w_markKeyResult : ConOk pg 40 con_w_markKeyResult := ConOk.g2 (Enters.of (by kernel_rfl)) ct_w_markKeyResult

def F_w_heldKeyResult (a : (Int) × (List (Int)) × (List (Int)) × Unit) (k : Int) : Int := hd false (.pair (.int .i64) (.pair (.sl (.int .i64)) (.pair (.sl (.int .i64)) .unit))) a k
def Q_w_heldKeyResult (a : (Int) × (List (Int)) × (List (Int)) × Unit) (k : Int) : Prop := 0 ≤ k ∧ k + cnt false (.pair (.int .i64) (.pair (.sl (.int .i64)) (.pair (.sl (.int .i64)) .unit))) a ≤ 4611686018427387904
def O_w_heldKeyResult : Opt := ⟨fun i => false, fun i => [], fun i => .done, fun i => none, fun i => false, fun i => [], fun i => false, fun i => none⟩
def τ_w_heldKeyResult : Env := Env.of [(2, (.int .i64)), (3, (.int .i64)), (4, .bool), (48, (.sl (.int .i64))), (65, (.pair (.int .i64) (.pair (.sl (.int .i64)) (.pair (.sl (.int .i64)) .unit))))] [] []

theorem ct_w_heldKeyResult (a : (Int) × (List (Int)) × (List (Int)) × Unit) (k : Int) : Ct pg 41 [.dat (.pair (.int .i64) (.pair (.sl (.int .i64)) (.pair (.sl (.int .i64)) .unit))) a, .dat (.int .i64) k] ⟨[Q_w_heldKeyResult a k], [⟨(.int .i64), .sh, F_w_heldKeyResult a k⟩], []⟩ := by
  refine ct_claim (O := O_w_heldKeyResult) (τ := τ_w_heldKeyResult) (EnvOk.of (by kernel_rfl) (by kernel_rfl)) (GOk.of (.cons ok_w_heldInt64S .nil : AllOk pg [(70, con_w_heldInt64S)])) mixed (Enters.of (by kernel_rfl)) (fn := Go.Proofs.Tryd.f41) (by kernel_rfl) rfl (by kernel_rfl) ?_
  intro hp hw
  have hq : Q_w_heldKeyResult a k := hp _ (List.mem_singleton.2 rfl)
  clear hp
  change claim Lg.std Alg.std τ_w_heldKeyResult (Gam.of [(70, ⟨true, g2 (pD (.sl (.int .i64))) (pD (.int .i64)) fun a k => .one ⟨[Q_w_heldInt64S a k], [⟨(.int .i64), .sh, F_w_heldInt64S a k⟩], []⟩, [], false, 0⟩)]) O_w_heldKeyResult Go.Proofs.Tryd.f41 [.dat (.pair (.int .i64) (.pair (.sl (.int .i64)) (.pair (.sl (.int .i64)) .unit))) a, .dat (.int .i64) k] ⟨[Q_w_heldKeyResult a k], [⟨(.int .i64), .sh, F_w_heldKeyResult a k⟩], []⟩
  generalize hg_F_w_heldInt64S : F_w_heldInt64S = g_F_w_heldInt64S
  generalize hg_Q_w_heldInt64S : Q_w_heldInt64S = g_Q_w_heldInt64S
  generalize hR0 : F_w_heldKeyResult a k = R0
  generalize Q_w_heldKeyResult a k = Q0
  generalize hL : Lg.std = L
  generalize hA : Alg.std = A
  cbv
  subst hL hA
  try dsimp only [Ty.den]
  obtain ⟨f0, f1, f2, ⟨⟩⟩ := a
  have ho1 := fun k h => hd_or false (.sl (.int .i64)) f1 k h
  have ho2 := fun k h => hd_or false (.sl (.int .i64)) f2 k h
  simp only [Q_w_heldKeyResult] at hq
  subst hR0 hg_F_w_heldInt64S hg_Q_w_heldInt64S
  simp only [Lg.std, Alg.std, List.drop_zero, List.take_length, F_w_heldInt64S, Q_w_heldInt64S, F_w_heldKeyResult, szf, tot_p, tot_u, tot_i, tot_b, tot_s, cnt_p, cnt_u, cnt_i0, cnt_b0, cnt_s0, cnt_i1, cnt_b1, cnt_s1, cnt_l, mk_p, mk_u, mk_i0, mk_b0, mk_s0, mk_i1, mk_s1, mk_l, hd_p, hd_u, hd_i0, hd_b0, hd_s0, hd_i1, hd_b1, hd_s1, hd_l] at *
  all_goals grind [mk_len]
def con_w_heldKeyResult : Con := ⟨true, g2 (pD (.pair (.int .i64) (.pair (.sl (.int .i64)) (.pair (.sl (.int .i64)) .unit)))) (pD (.int .i64)) fun a k => .one ⟨[Q_w_heldKeyResult a k], [⟨(.int .i64), .sh, F_w_heldKeyResult a k⟩], []⟩, [], false, 0⟩
theorem ok_w_heldKeyResult : ConOk pg 41 con_w_heldKeyResult := ConOk.g2 (Enters.of (by kernel_rfl)) ct_w_heldKeyResult

def F_s_CutKey (s : (List ((List Int) × (Int) × Unit)) × Unit) (k : List (Int)) : (Int) × (List (Int)) × (List (Int)) × Unit := cutKey s k
def Q_s_CutKey (s : (List ((List Int) × (Int) × Unit)) × Unit) (k : List (Int)) : Prop := True
def O_s_CutKey : Opt := ⟨fun i => false, fun i => [], fun i => .done, fun i => none, fun i => false, fun i => [], fun i => false, fun i => none⟩
def τ_s_CutKey : Env := Env.of [(2, (.int .i64)), (4, .bool), (22, (.sl (.int .u8))), (32, (.pair (.sl (.pair .str (.pair (.int .i64) .unit))) .unit)), (48, (.sl (.int .i64))), (65, (.pair (.int .i64) (.pair (.sl (.int .i64)) (.pair (.sl (.int .i64)) .unit))))] [(86, (.pair (.sl (.pair .str (.pair (.int .i64) .unit))) .unit))] []

theorem ct_s_CutKey (s : (List ((List Int) × (Int) × Unit)) × Unit) (k : List (Int)) : Ct pg 37 [.dat (.pair (.sl (.pair .str (.pair (.int .i64) .unit))) .unit) s, .dat (.sl (.int .u8)) k] ⟨[Q_s_CutKey s k], [⟨(.pair (.int .i64) (.pair (.sl (.int .i64)) (.pair (.sl (.int .i64)) .unit))), (.pr .sh (.pr (.ow .sh) (.pr (.ow .sh) .sh))), F_s_CutKey s k⟩], []⟩ := by
  refine ct_claim (O := O_s_CutKey) (τ := τ_s_CutKey) (EnvOk.of (by kernel_rfl) (by kernel_rfl)) (GOk.of (.cons ok_s_SignatureFault (.cons ok_s_l5Cut .nil) : AllOk pg [(51, con_s_SignatureFault), (74, con_s_l5Cut)])) mixed (Enters.of (by kernel_rfl)) (fn := Go.Proofs.Tryd.f37) (by kernel_rfl) rfl (by kernel_rfl) ?_
  intro hp hw
  have hq : Q_s_CutKey s k := hp _ (List.mem_singleton.2 rfl)
  clear hp
  change claim Lg.std Alg.std τ_s_CutKey (Gam.of [(51, ⟨true, g1 (pD (.pair (.sl (.pair .str (.pair (.int .i64) .unit))) .unit)) fun s => .one ⟨[Q_s_SignatureFault s], [⟨(.int .i64), .sh, F_s_SignatureFault s⟩], []⟩, [], false, 0⟩), (74, ⟨true, g2 (pP (.pair (.sl (.pair .str (.pair (.int .i64) .unit))) .unit)) (pD (.sl (.int .u8))) fun s k => .one ⟨[Q_s_l5Cut s k], [⟨(.sl (.int .i64)), (.ow .sh), F_s_l5Cut s k⟩, ⟨(.sl (.int .i64)), (.ow .sh), F_s_l5Cut_1 s k⟩, ⟨.bool, .sh, F_s_l5Cut_2 s k⟩], []⟩, [], false, 0⟩)]) O_s_CutKey Go.Proofs.Tryd.f37 [.dat (.pair (.sl (.pair .str (.pair (.int .i64) .unit))) .unit) s, .dat (.sl (.int .u8)) k] ⟨[Q_s_CutKey s k], [⟨(.pair (.int .i64) (.pair (.sl (.int .i64)) (.pair (.sl (.int .i64)) .unit))), (.pr .sh (.pr (.ow .sh) (.pr (.ow .sh) .sh))), F_s_CutKey s k⟩], []⟩
  generalize hg_F_s_SignatureFault : F_s_SignatureFault = g_F_s_SignatureFault
  generalize hg_Q_s_SignatureFault : Q_s_SignatureFault = g_Q_s_SignatureFault
  generalize hg_F_s_l5Cut : F_s_l5Cut = g_F_s_l5Cut
  generalize hg_F_s_l5Cut_1 : F_s_l5Cut_1 = g_F_s_l5Cut_1
  generalize hg_F_s_l5Cut_2 : F_s_l5Cut_2 = g_F_s_l5Cut_2
  generalize hg_Q_s_l5Cut : Q_s_l5Cut = g_Q_s_l5Cut
  generalize hR0 : F_s_CutKey s k = R0
  generalize Q_s_CutKey s k = Q0
  generalize hL : Lg.std = L
  generalize hA : Alg.std = A
  cbv
  subst hL hA
  try dsimp only [Ty.den]
  obtain ⟨s_0, ⟨⟩⟩ := s
  subst hR0 hg_F_s_SignatureFault hg_Q_s_SignatureFault hg_F_s_l5Cut hg_F_s_l5Cut_1 hg_F_s_l5Cut_2 hg_Q_s_l5Cut
  simp only [Lg.std, Alg.std, List.drop_zero, List.take_length, F_s_SignatureFault, F_s_l5Cut, F_s_l5Cut_1, F_s_l5Cut_2, Q_s_SignatureFault, Q_s_l5Cut, F_s_CutKey, cutKey] at *
  repeat' (first | intro _ | apply And.intro)
  all_goals grind
def con_s_CutKey : Con := ⟨true, g2 (pD (.pair (.sl (.pair .str (.pair (.int .i64) .unit))) .unit)) (pD (.sl (.int .u8))) fun s k => .one ⟨[Q_s_CutKey s k], [⟨(.pair (.int .i64) (.pair (.sl (.int .i64)) (.pair (.sl (.int .i64)) .unit))), (.pr .sh (.pr (.ow .sh) (.pr (.ow .sh) .sh))), F_s_CutKey s k⟩], []⟩, [], false, 0⟩
theorem ok_s_CutKey : ConOk pg 37 con_s_CutKey := ConOk.g2 (Enters.of (by kernel_rfl)) ct_s_CutKey

def F_i_CutKey (s : (List ((List Int) × (Int) × Unit)) × Unit) (k : List (Int)) : (Int) × (List (Int)) × (List (Int)) × Unit := cutKey s k
def Q_i_CutKey (s : (List ((List Int) × (Int) × Unit)) × Unit) (k : List (Int)) : Prop := True
def O_i_CutKey : Opt := ⟨fun i => false, fun i => [], fun i => .done, fun i => none, fun i => false, fun i => [], fun i => false, fun i => none⟩
def τ_i_CutKey : Env := Env.of [(2, (.int .i64)), (4, .bool), (22, (.sl (.int .u8))), (32, (.pair (.sl (.pair .str (.pair (.int .i64) .unit))) .unit)), (48, (.sl (.int .i64))), (65, (.pair (.int .i64) (.pair (.sl (.int .i64)) (.pair (.sl (.int .i64)) .unit)))), (81, (.pair (.sl (.int .u8)) (.pair .bool .unit)))] [(79, (.pair (.sl (.int .u8)) (.pair .bool .unit)))] []

theorem ct_i_CutKey (s : (List ((List Int) × (Int) × Unit)) × Unit) (k : List (Int)) : Ct pg 38 [.dat (.pair (.sl (.pair .str (.pair (.int .i64) .unit))) .unit) s, .dat (.sl (.int .u8)) k] ⟨[Q_i_CutKey s k], [⟨(.pair (.int .i64) (.pair (.sl (.int .i64)) (.pair (.sl (.int .i64)) .unit))), (.pr .sh (.pr (.ow .sh) (.pr (.ow .sh) .sh))), F_i_CutKey s k⟩], []⟩ := by
  refine ct_claim (O := O_i_CutKey) (τ := τ_i_CutKey) (EnvOk.of (by kernel_rfl) (by kernel_rfl)) (GOk.of (.cons ok_i_byteReader_ended (.cons ok_i_SignatureFault (.cons ok_i_byteReader_term (.cons ok_i_keyFault .nil))) : AllOk pg [(65, con_i_byteReader_ended), (55, con_i_SignatureFault), (64, con_i_byteReader_term), (75, con_i_keyFault)])) mixed (Enters.of (by kernel_rfl)) (fn := Go.Proofs.Tryd.f38) (by kernel_rfl) rfl (by kernel_rfl) ?_
  intro hp hw
  have hq : Q_i_CutKey s k := hp _ (List.mem_singleton.2 rfl)
  clear hp
  change claim Lg.std Alg.std τ_i_CutKey (Gam.of [(65, ⟨true, g1 (pP (.pair (.sl (.int .u8)) (.pair .bool .unit))) fun r => .one ⟨[Q_i_byteReader_ended r], [⟨.bool, .sh, F_i_byteReader_ended r⟩], []⟩, [], false, 0⟩), (55, ⟨true, g1 (pD (.pair (.sl (.pair .str (.pair (.int .i64) .unit))) .unit)) fun s => .one ⟨[Q_i_SignatureFault s], [⟨(.int .i64), .sh, F_i_SignatureFault s⟩], []⟩, [], false, 0⟩), (64, ⟨true, g2 (pW (.pair (.sl (.int .u8)) (.pair .bool .unit)) .sh) (pD (.pair (.sl (.pair .str (.pair (.int .i64) .unit))) .unit)) fun r s => .one ⟨[Q_i_byteReader_term r s], [⟨(.sl (.int .i64)), (.ow .sh), F_i_byteReader_term r s⟩], [.mp (.pair (.sl (.int .u8)) (.pair .bool .unit)) .sh (B_i_byteReader_term_r r s)]⟩, [.sh], false, 0⟩), (75, ⟨true, g3 (pD (.pair (.sl (.pair .str (.pair (.int .i64) .unit))) .unit)) (pD (.sl (.int .i64))) (pD (.sl (.int .i64))) fun s a b => .one ⟨[Q_i_keyFault s a b], [⟨(.int .i64), .sh, F_i_keyFault s a b⟩], []⟩, [], false, 0⟩)]) O_i_CutKey Go.Proofs.Tryd.f38 [.dat (.pair (.sl (.pair .str (.pair (.int .i64) .unit))) .unit) s, .dat (.sl (.int .u8)) k] ⟨[Q_i_CutKey s k], [⟨(.pair (.int .i64) (.pair (.sl (.int .i64)) (.pair (.sl (.int .i64)) .unit))), (.pr .sh (.pr (.ow .sh) (.pr (.ow .sh) .sh))), F_i_CutKey s k⟩], []⟩
  generalize hg_F_i_byteReader_ended : F_i_byteReader_ended = g_F_i_byteReader_ended
  generalize hg_Q_i_byteReader_ended : Q_i_byteReader_ended = g_Q_i_byteReader_ended
  generalize hg_F_i_SignatureFault : F_i_SignatureFault = g_F_i_SignatureFault
  generalize hg_Q_i_SignatureFault : Q_i_SignatureFault = g_Q_i_SignatureFault
  generalize hg_F_i_byteReader_term : F_i_byteReader_term = g_F_i_byteReader_term
  generalize hg_B_i_byteReader_term_r : B_i_byteReader_term_r = g_B_i_byteReader_term_r
  generalize hg_Q_i_byteReader_term : Q_i_byteReader_term = g_Q_i_byteReader_term
  generalize hg_F_i_keyFault : F_i_keyFault = g_F_i_keyFault
  generalize hg_Q_i_keyFault : Q_i_keyFault = g_Q_i_keyFault
  generalize hR0 : F_i_CutKey s k = R0
  generalize Q_i_CutKey s k = Q0
  generalize hL : Lg.std = L
  generalize hA : Alg.std = A
  cbv
  subst hL hA
  try dsimp only [Ty.den]
  obtain ⟨s_0, ⟨⟩⟩ := s
  generalize u1 : g_B_i_byteReader_term_r (k, false, PUnit.unit) (s_0, PUnit.unit) = ru at *
  obtain ⟨x, f, ⟨⟩⟩ := ru
  try dsimp only
  generalize u2 : g_F_i_byteReader_term (k, false, PUnit.unit) (s_0, PUnit.unit) = a at *
  generalize v1 : g_B_i_byteReader_term_r (x, f, PUnit.unit) (s_0, PUnit.unit) = rv at *
  obtain ⟨z, g, ⟨⟩⟩ := rv
  try dsimp only
  generalize v2 : g_F_i_byteReader_term (x, f, PUnit.unit) (s_0, PUnit.unit) = b at *
  have hus := fun h h1 h2 => cut_same (s_0, PUnit.unit) h k (u8s hw.2.1.2) a x b z f g h1 h2
  have hu0 : sigFault (s_0, PUnit.unit) ≠ 0 → cutKey (s_0, PUnit.unit) k = (sigFault (s_0, PUnit.unit), [], [], ()) := fun h => by unfold cutKey; exact if_pos h
  subst hR0 hg_F_i_byteReader_ended hg_Q_i_byteReader_ended hg_F_i_SignatureFault hg_Q_i_SignatureFault hg_F_i_byteReader_term hg_B_i_byteReader_term_r hg_Q_i_byteReader_term hg_F_i_keyFault hg_Q_i_keyFault
  simp only [Lg.std, Alg.std, List.drop_zero, List.take_length, F_i_byteReader_ended, F_i_SignatureFault, F_i_byteReader_term, F_i_keyFault, B_i_byteReader_term_r, Q_i_byteReader_ended, Q_i_SignatureFault, Q_i_byteReader_term, Q_i_keyFault, F_i_CutKey] at *
  have hz : termRd (s_0, PUnit.unit) (k, false, PUnit.unit) = (a, (x, f, PUnit.unit)) := by rw [← u1, ← u2]
  have hy : termRd (s_0, PUnit.unit) (x, f, PUnit.unit) = (b, (z, g, PUnit.unit)) := by rw [← v1, ← v2]
  replace hus := fun h => hus h hz hy
  clear hz hy u1 u2 v1 v2
  repeat' (first | intro _ | apply And.intro)
  all_goals grind
def con_i_CutKey : Con := ⟨true, g2 (pD (.pair (.sl (.pair .str (.pair (.int .i64) .unit))) .unit)) (pD (.sl (.int .u8))) fun s k => .one ⟨[Q_i_CutKey s k], [⟨(.pair (.int .i64) (.pair (.sl (.int .i64)) (.pair (.sl (.int .i64)) .unit))), (.pr .sh (.pr (.ow .sh) (.pr (.ow .sh) .sh))), F_i_CutKey s k⟩], []⟩, [], false, 0⟩
theorem ok_i_CutKey : ConOk pg 38 con_i_CutKey := ConOk.g2 (Enters.of (by kernel_rfl)) ct_i_CutKey

def F_w_FnExactCutKey (s : (List ((List Int) × (Int) × Unit)) × Unit) (k : List (Int)) : Bool := true
def Q_w_FnExactCutKey (s : (List ((List Int) × (Int) × Unit)) × Unit) (k : List (Int)) : Prop := True
def O_w_FnExactCutKey : Opt := ⟨fun i => false, fun i => [], fun i => (match decide (i = 13) with | true => (.alt 0 (.alt 1 (.alt 2 (.alt 3 (.take 4 .done) .no) .no) .no) (.alt 1 (.alt 0 (.alt 2 (.alt 3 (.take 4 .done) .no) .no) (.alt 2 (.take 0 (.alt 3 (.take 4 .done) .no)) .no)) .no)) | false => .done), fun i => (match decide (i = 13) with | true => some [false, true, true, false, false, false, true, true, true, true, false, false, false, false, false, false, false, false, false, false, false, false, false, false, false, false, false, false, false, false, false, false, false, false, false, false, false, false, false, false, false, false, true, false, false, false, false, false, false, false, false, false, false, false, false, false, false, false, false, false, false, false, false, false, false, false, false, false, false, false, false, false, false, false, false, false, false, false, false, false, false, false, false, false, false, false, false, false, false, false] | false => none), fun i => false, fun i => [], fun i => false, fun i => none⟩
def τ_w_FnExactCutKey : Env := Env.of [(3, (.int .i64)), (4, .bool), (22, (.sl (.int .u8))), (25, (.pair (.sl (.pair .str (.pair (.int .i64) .unit))) .unit)), (32, (.pair (.sl (.pair .str (.pair (.int .i64) .unit))) .unit)), (65, (.pair (.int .i64) (.pair (.sl (.int .i64)) (.pair (.sl (.int .i64)) .unit))))] [] []

theorem ct_w_FnExactCutKey (s : (List ((List Int) × (Int) × Unit)) × Unit) (k : List (Int)) : Ct pg 7 [.dat (.pair (.sl (.pair .str (.pair (.int .i64) .unit))) .unit) s, .dat (.sl (.int .u8)) k] ⟨[Q_w_FnExactCutKey s k], [⟨.bool, .sh, F_w_FnExactCutKey s k⟩], []⟩ := by
  refine ct_claim (O := O_w_FnExactCutKey) (τ := τ_w_FnExactCutKey) (EnvOk.of (by kernel_rfl) (by kernel_rfl)) (GOk.of (.cons ok_w_toByteS (.cons ok_w_eqByteS (.cons ok_w_markByteS (.cons ok_w_toSignature (.cons ok_w_eqSignature (.cons ok_w_szSignature (.cons ok_w_markSignature (.cons ok_w_eqKeyResult (.cons ok_w_markKeyResult (.cons ok_w_heldKeyResult (.cons ok_s_CutKey (.cons ok_i_CutKey .nil))))))))))) : AllOk pg [(15, con_w_toByteS), (18, con_w_eqByteS), (19, con_w_markByteS), (24, con_w_toSignature), (27, con_w_eqSignature), (22, con_w_szSignature), (28, con_w_markSignature), (39, con_w_eqKeyResult), (40, con_w_markKeyResult), (41, con_w_heldKeyResult), (37, con_s_CutKey), (38, con_i_CutKey)])) mixed (Enters.of (by kernel_rfl)) (fn := Go.Proofs.Tryd.f7) (by kernel_rfl) rfl (by kernel_rfl) ?_
  intro hp hw
  have hq : Q_w_FnExactCutKey s k := hp _ (List.mem_singleton.2 rfl)
  clear hp
  change claim Lg.std Alg.std τ_w_FnExactCutKey (Gam.of [(15, ⟨true, g1 (pD (.sl (.int .u8))) fun a => .one ⟨[Q_w_toByteS a], [⟨(.sl (.int .u8)), (.ow .sh), F_w_toByteS a⟩], []⟩, [], false, 0⟩), (18, ⟨true, g2 (pD (.sl (.int .u8))) (pD (.sl (.int .u8))) fun a b => .one ⟨[Q_w_eqByteS a b], [⟨.bool, .sh, F_w_eqByteS a b⟩], []⟩, [], false, 0⟩), (19, ⟨true, g2 (pV (.sl (.int .u8)) (.ow .sh)) (pD (.int .i64)) fun a k => .one ⟨[Q_w_markByteS a k], [⟨(.int .i64), .sh, F_w_markByteS a k⟩], [.mv (.sl (.int .u8)) (.ow .sh) (B_w_markByteS_a a k)]⟩, [(.ow .sh)], false, 0⟩), (24, ⟨true, g1 (pD (.pair (.sl (.pair .str (.pair (.int .i64) .unit))) .unit)) fun a => .one ⟨[Q_w_toSignature a], [⟨(.pair (.sl (.pair .str (.pair (.int .i64) .unit))) .unit), (.pr (.ow (.pr .sh (.pr .sh .sh))) .sh), F_w_toSignature a⟩], []⟩, [], false, 0⟩), (27, ⟨true, g2 (pD (.pair (.sl (.pair .str (.pair (.int .i64) .unit))) .unit)) (pD (.pair (.sl (.pair .str (.pair (.int .i64) .unit))) .unit)) fun a b => .one ⟨[Q_w_eqSignature a b], [⟨.bool, .sh, F_w_eqSignature a b⟩], []⟩, [], false, 0⟩), (22, ⟨true, g2 (pD (.pair (.sl (.pair .str (.pair (.int .i64) .unit))) .unit)) (pD (.int .i64)) fun a left => .one ⟨[Q_w_szSignature a left], [⟨(.int .i64), .sh, F_w_szSignature a left⟩], []⟩, [], false, 0⟩), (28, ⟨true, g2 (pV (.pair (.sl (.pair .str (.pair (.int .i64) .unit))) .unit) (.pr (.ow (.pr .sh (.pr .sh .sh))) .sh)) (pD (.int .i64)) fun a k => .one ⟨[Q_w_markSignature a k], [⟨(.int .i64), .sh, F_w_markSignature a k⟩], [.mv (.pair (.sl (.pair .str (.pair (.int .i64) .unit))) .unit) (.pr (.ow (.pr .sh (.pr .sh .sh))) .sh) (B_w_markSignature_a a k)]⟩, [(.pr (.ow (.pr .sh (.pr .sh .sh))) .sh)], false, 0⟩), (39, ⟨true, g2 (pD (.pair (.int .i64) (.pair (.sl (.int .i64)) (.pair (.sl (.int .i64)) .unit)))) (pD (.pair (.int .i64) (.pair (.sl (.int .i64)) (.pair (.sl (.int .i64)) .unit)))) fun a b => .one ⟨[Q_w_eqKeyResult a b], [⟨.bool, .sh, F_w_eqKeyResult a b⟩], []⟩, [], false, 0⟩), (40, ⟨true, g2 (pV (.pair (.int .i64) (.pair (.sl (.int .i64)) (.pair (.sl (.int .i64)) .unit))) (.pr .sh (.pr (.ow .sh) (.pr (.ow .sh) .sh)))) (pD (.int .i64)) fun a k => .one ⟨[Q_w_markKeyResult a k], [⟨(.int .i64), .sh, F_w_markKeyResult a k⟩], [.mv (.pair (.int .i64) (.pair (.sl (.int .i64)) (.pair (.sl (.int .i64)) .unit))) (.pr .sh (.pr (.ow .sh) (.pr (.ow .sh) .sh))) (B_w_markKeyResult_a a k)]⟩, [(.pr .sh (.pr (.ow .sh) (.pr (.ow .sh) .sh)))], false, 0⟩), (41, ⟨true, g2 (pD (.pair (.int .i64) (.pair (.sl (.int .i64)) (.pair (.sl (.int .i64)) .unit)))) (pD (.int .i64)) fun a k => .one ⟨[Q_w_heldKeyResult a k], [⟨(.int .i64), .sh, F_w_heldKeyResult a k⟩], []⟩, [], false, 0⟩), (37, ⟨true, g2 (pD (.pair (.sl (.pair .str (.pair (.int .i64) .unit))) .unit)) (pD (.sl (.int .u8))) fun s k => .one ⟨[Q_s_CutKey s k], [⟨(.pair (.int .i64) (.pair (.sl (.int .i64)) (.pair (.sl (.int .i64)) .unit))), (.pr .sh (.pr (.ow .sh) (.pr (.ow .sh) .sh))), F_s_CutKey s k⟩], []⟩, [], false, 0⟩), (38, ⟨true, g2 (pD (.pair (.sl (.pair .str (.pair (.int .i64) .unit))) .unit)) (pD (.sl (.int .u8))) fun s k => .one ⟨[Q_i_CutKey s k], [⟨(.pair (.int .i64) (.pair (.sl (.int .i64)) (.pair (.sl (.int .i64)) .unit))), (.pr .sh (.pr (.ow .sh) (.pr (.ow .sh) .sh))), F_i_CutKey s k⟩], []⟩, [], false, 0⟩)]) O_w_FnExactCutKey Go.Proofs.Tryd.f7 [.dat (.pair (.sl (.pair .str (.pair (.int .i64) .unit))) .unit) s, .dat (.sl (.int .u8)) k] ⟨[Q_w_FnExactCutKey s k], [⟨.bool, .sh, F_w_FnExactCutKey s k⟩], []⟩
  generalize hg_F_w_toByteS : F_w_toByteS = g_F_w_toByteS
  generalize hg_Q_w_toByteS : Q_w_toByteS = g_Q_w_toByteS
  generalize hg_F_w_eqByteS : F_w_eqByteS = g_F_w_eqByteS
  generalize hg_Q_w_eqByteS : Q_w_eqByteS = g_Q_w_eqByteS
  generalize hg_F_w_markByteS : F_w_markByteS = g_F_w_markByteS
  generalize hg_B_w_markByteS_a : B_w_markByteS_a = g_B_w_markByteS_a
  generalize hg_Q_w_markByteS : Q_w_markByteS = g_Q_w_markByteS
  generalize hg_F_w_toSignature : F_w_toSignature = g_F_w_toSignature
  generalize hg_Q_w_toSignature : Q_w_toSignature = g_Q_w_toSignature
  generalize hg_F_w_eqSignature : F_w_eqSignature = g_F_w_eqSignature
  generalize hg_Q_w_eqSignature : Q_w_eqSignature = g_Q_w_eqSignature
  generalize hg_F_w_szSignature : F_w_szSignature = g_F_w_szSignature
  generalize hg_Q_w_szSignature : Q_w_szSignature = g_Q_w_szSignature
  generalize hg_F_w_markSignature : F_w_markSignature = g_F_w_markSignature
  generalize hg_B_w_markSignature_a : B_w_markSignature_a = g_B_w_markSignature_a
  generalize hg_Q_w_markSignature : Q_w_markSignature = g_Q_w_markSignature
  generalize hg_F_w_eqKeyResult : F_w_eqKeyResult = g_F_w_eqKeyResult
  generalize hg_Q_w_eqKeyResult : Q_w_eqKeyResult = g_Q_w_eqKeyResult
  generalize hg_F_w_markKeyResult : F_w_markKeyResult = g_F_w_markKeyResult
  generalize hg_B_w_markKeyResult_a : B_w_markKeyResult_a = g_B_w_markKeyResult_a
  generalize hg_Q_w_markKeyResult : Q_w_markKeyResult = g_Q_w_markKeyResult
  generalize hg_F_w_heldKeyResult : F_w_heldKeyResult = g_F_w_heldKeyResult
  generalize hg_Q_w_heldKeyResult : Q_w_heldKeyResult = g_Q_w_heldKeyResult
  generalize hg_F_s_CutKey : F_s_CutKey = g_F_s_CutKey
  generalize hg_Q_s_CutKey : Q_s_CutKey = g_Q_s_CutKey
  generalize hg_F_i_CutKey : F_i_CutKey = g_F_i_CutKey
  generalize hg_Q_i_CutKey : Q_i_CutKey = g_Q_i_CutKey
  generalize hR0 : F_w_FnExactCutKey s k = R0
  generalize Q_w_FnExactCutKey s k = Q0
  generalize hL : Lg.std = L
  generalize hA : Alg.std = A
  cbv
  subst hL hA
  try dsimp only [Ty.den]
  obtain ⟨s_0, ⟨⟩⟩ := s
  have hct_s := cnt_tot (.pair (.sl (.pair .str (.pair (.int .i64) .unit))) .unit) (s_0, PUnit.unit) (by decide)
  have hct_k := cnt_tot (.sl (.int .u8)) k (by decide)
  have hul := cutKey_len (s_0, PUnit.unit) k (u8s hw.2.1.2)
  have hc0 : cnt false (.pair (.int .i64) (.pair (.sl (.int .i64)) (.pair (.sl (.int .i64)) .unit))) (cutKey (s_0, PUnit.unit) k) ≤ 100 := by
    simp only [szf, tot_p, tot_u, tot_i, tot_b, tot_s, cnt_p, cnt_u, cnt_i0, cnt_b0, cnt_s0, cnt_i1, cnt_b1, cnt_s1, cnt_l, mk_p, mk_u, mk_i0, mk_b0, mk_s0, mk_i1, mk_s1, mk_l, hd_p, hd_u, hd_i0, hd_b0, hd_s0, hd_i1, hd_b1, hd_s1, hd_l, cnt_int]
    omega
  have htp : tot (.sl (.int .u8)) k = k.length := tot_int .u8 k
  subst hR0 hg_F_w_toByteS hg_Q_w_toByteS hg_F_w_eqByteS hg_Q_w_eqByteS hg_F_w_markByteS hg_B_w_markByteS_a hg_Q_w_markByteS hg_F_w_toSignature hg_Q_w_toSignature hg_F_w_eqSignature hg_Q_w_eqSignature hg_F_w_szSignature hg_Q_w_szSignature hg_F_w_markSignature hg_B_w_markSignature_a hg_Q_w_markSignature hg_F_w_eqKeyResult hg_Q_w_eqKeyResult hg_F_w_markKeyResult hg_B_w_markKeyResult_a hg_Q_w_markKeyResult hg_F_w_heldKeyResult hg_Q_w_heldKeyResult hg_F_s_CutKey hg_Q_s_CutKey hg_F_i_CutKey hg_Q_i_CutKey
  simp only [Lg.std, Alg.std, List.drop_zero, List.take_length, F_w_toByteS, F_w_eqByteS, F_w_markByteS, F_w_toSignature, F_w_eqSignature, F_w_szSignature, F_w_markSignature, F_w_eqKeyResult, F_w_markKeyResult, F_w_heldKeyResult, F_s_CutKey, F_i_CutKey, B_w_markByteS_a, B_w_markSignature_a, B_w_markKeyResult_a, Q_w_toByteS, Q_w_eqByteS, Q_w_markByteS, Q_w_toSignature, Q_w_eqSignature, Q_w_szSignature, Q_w_markSignature, Q_w_eqKeyResult, Q_w_markKeyResult, Q_w_heldKeyResult, Q_s_CutKey, Q_i_CutKey, F_w_FnExactCutKey]
  generalize hW : (cutKey (s_0, PUnit.unit) k : (Int) × (List (Int)) × (List (Int)) × Unit) = w at *
  clear hW
  obtain ⟨w_0, w_1, w_2, ⟨⟩⟩ := w
  try dsimp only at *
  have hm := hd_mk false (.pair (.int .i64) (.pair (.sl (.int .i64)) (.pair (.sl (.int .i64)) .unit))) (w_0, w_1, w_2, PUnit.unit) 1 (by omega)

  have mt_w_1 := fun k => mk_take false (.int .i64) w_1 k
  dsimp only [Ty.den] at mt_w_1
  have mt_w_2 := fun k => mk_take false (.int .i64) w_2 k
  dsimp only [Ty.den] at mt_w_2
  simp only [tot_p, tot_u, tot_i, tot_b, tot_s, cnt_p, cnt_u, cnt_i0, cnt_b0, cnt_s0, cnt_i1, cnt_b1, cnt_s1, cnt_l, mk_p, mk_u, mk_i0, mk_b0, mk_s0, mk_i1, mk_s1, mk_l, hd_p, hd_u, hd_i0, hd_b0, hd_s0, hd_i1, hd_b1, hd_s1, hd_l, mt_w_1, mt_w_2] at *
  repeat' (first | intro _ | apply And.intro)
  all_goals grind [szf, cnt_mk, hd_mk]
def con_w_FnExactCutKey : Con := ⟨true, g2 (pD (.pair (.sl (.pair .str (.pair (.int .i64) .unit))) .unit)) (pD (.sl (.int .u8))) fun s k => .one ⟨[Q_w_FnExactCutKey s k], [⟨.bool, .sh, F_w_FnExactCutKey s k⟩], []⟩, [], false, 0⟩
theorem ok_w_FnExactCutKey : ConOk pg 7 con_w_FnExactCutKey := ConOk.g2 (Enters.of (by kernel_rfl)) ct_w_FnExactCutKey
end Go.Vee
