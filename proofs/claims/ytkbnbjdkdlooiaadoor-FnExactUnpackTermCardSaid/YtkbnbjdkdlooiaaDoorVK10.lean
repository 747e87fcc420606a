/-
  Contracts of functions of the program: what each returns for all arguments that its precondition lets in.
-/
import Derived.Test.YtkbnbjdkdlooiaaDoorVK9
set_option linter.unusedSimpArgs false
set_option linter.unusedVariables false
set_option maxRecDepth 100000
set_option maxHeartbeats 4000000
set_option synthInstance.maxHeartbeats 4000000
set_option synthInstance.maxSize 20000000
namespace Go.Vee
open Go
def ar (s : SigT) (n : Int) : Int := if n < 0 then 0 else (s.1.getD n.toNat symD).2.1
def isSym (s : SigT) (n : Int) : Bool := decide (0 ≤ n ∧ n ≤ (s.1.length : Int) - 1)
def nodeB (s : SigT) (n : Int) : Bool := isSym s n || decide (-12 ≤ n ∧ n ≤ -1)
theorem sig_ar (s : SigT) (h : sigFault s = 0) (i : Nat) (hi : i < s.1.length) : 0 ≤ (s.1.getD i symD).2.1 ∧ (s.1.getD i symD).2.1 ≤ 2 :=
  ((sig_good s h).2 _ (getD_mem s.1 symD i hi)).2
theorem ar_rng (s : SigT) (h : sigFault s = 0) (n : Int) (hn : nodeB s n = true) : 0 ≤ ar s n ∧ ar s n ≤ 2 := by
  unfold ar
  split
  · omega
  · refine sig_ar s h _ ?_
    simp only [nodeB, isSym, Bool.or_eq_true, decide_eq_true_eq] at hn
    omega
/-- How many terms are open behind a list's nodes, 'k' ahead of it. -/
def opn (s : SigT) : Nat → List Int → Option Nat
  | k, [] => some k
  | 0, _ :: _ => none
  | k + 1, n :: l => opn s (k + (ar s n).toNat) l
/-- What is left behind 'k' terms. -/
def skp (s : SigT) : Nat → List Int → Option (List Int)
  | 0, l => some l
  | _ + 1, [] => none
  | k + 1, n :: l => skp s (k + (ar s n).toNat) l
theorem skp_zero (s : SigT) (l : List Int) : skp s 0 l = some l := by cases l <;> rfl
theorem skp_nil (s : SigT) (k : Nat) : skp s (k + 1) [] = none := rfl
theorem skp_cons (s : SigT) (k : Nat) (n : Int) (l : List Int) : skp s (k + 1) (n :: l) = skp s (k + (ar s n).toNat) l := rfl
theorem skp_add (s : SigT) (b : Nat) : ∀ (l : List Int) (a : Nat), skp s (a + b) l = (skp s a l).bind (skp s b)
  | l, 0 => by rw [skp_zero, Nat.zero_add]; rfl
  | [], a + 1 => by rw [Nat.succ_add, skp_nil, skp_nil]; rfl
  | n :: l, a + 1 => by
    rw [Nat.succ_add, skp_cons, skp_cons, ← skp_add s b l]
    congr 1; omega
theorem skp_suf (s : SigT) : ∀ (l : List Int) (k : Nat) (r : List Int), skp s k l = some r → r.length + k ≤ l.length ∧ r = l.drop (l.length - r.length)
  | l, 0, r, h => by rw [skp_zero] at h; cases h; simp
  | [], k + 1, r, h => by rw [skp_nil] at h; cases h
  | n :: l, k + 1, r, h => by
    rw [skp_cons] at h
    have := skp_suf s l _ r h
    refine ⟨by simp; omega, ?_⟩
    have e : (n :: l).length - r.length = (l.length - r.length) + 1 := by simp; omega
    rw [e, List.drop_succ_cons]
    exact this.2
theorem opn_skp (s : SigT) : ∀ (l : List Int) (k : Nat), skp s k l = some [] ↔ opn s k l = some 0
  | [], 0 => by simp [skp, opn]
  | [], k + 1 => by simp [skp, opn]
  | n :: l, 0 => by simp [skp, opn]
  | n :: l, k + 1 => by rw [skp_cons]; exact opn_skp s l _
theorem opn_snoc (s : SigT) (n : Int) : ∀ (l : List Int) (k j : Nat), opn s k l = some (j + 1) → opn s k (l ++ [n]) = some (j + (ar s n).toNat)
  | [], k, j, h => by
    simp only [opn, Option.some.injEq] at h
    subst h
    rfl
  | x :: l, 0, j, h => by simp [opn] at h
  | x :: l, k + 1, j, h => by
    have h' : opn s (k + (ar s x).toNat) l = some (j + 1) := h
    exact opn_snoc s n l _ j h'
/-- The place behind the term at a place, or -1. -/
def endP (s : SigT) (t : List Int) (a : Int) : Int := match skp s 1 (t.drop a.toNat) with
  | some r => (t.length : Int) - r.length
  | none => -1
theorem endP_ge (s : SigT) (t : List Int) (a : Int) (h : (t.length : Int) ≤ a) : endP s t a = -1 := by
  unfold endP; rw [List.drop_of_length_le (by omega), skp_nil]
theorem endP_cases (s : SigT) (t : List Int) (e : Int) (h0 : 0 ≤ e) (h1 : e ≤ t.length) : (endP s t e = -1 ∧ skp s 1 (t.drop e.toNat) = none) ∨ (e + 1 ≤ endP s t e ∧ endP s t e ≤ t.length ∧ skp s 1 (t.drop e.toNat) = some (t.drop (endP s t e).toNat)) := by
  unfold endP
  cases h : skp s 1 (t.drop e.toNat) with
  | none => exact .inl ⟨rfl, rfl⟩
  | some r =>
    right
    have := skp_suf s _ _ _ h
    rw [List.length_drop] at this
    have e1 : ((t.length : Int) - r.length).toNat = e.toNat + (t.length - e.toNat - r.length) := by omega
    refine ⟨by dsimp only; omega, by dsimp only; omega, ?_⟩
    dsimp only
    rw [e1, ← List.drop_drop]
    exact congrArg some this.2
theorem endP_in (s : SigT) (t : List Int) (a : Int) (h0 : 0 ≤ a) (h1 : a < t.length) : endP s t a = match skp s (ar s (t.getD a.toNat 0)).toNat (t.drop (a.toNat + 1)) with
    | some r => (t.length : Int) - r.length
    | none => -1 := by
  unfold endP
  rw [drop_cons t 0 a.toNat (by omega), skp_cons, Nat.zero_add]
theorem endP_var (s : SigT) (t : List Int) (a : Int) (h0 : 0 ≤ a) (h1 : a < t.length) (h : t.getD a.toNat 0 < 0) : endP s t a = a + 1 := by
  have e : (ar s (t.getD a.toNat 0)).toNat = 0 := by unfold ar; rw [if_pos h]; rfl
  rw [endP_in s t a h0 h1, e, skp_zero]
  simp only [List.length_drop]; omega
/-- A round of the reference's way to an end. -/
theorem endP_round (s : SigT) (t : List Int) (a e k i : Int) (h0 : 0 ≤ a) (h1 : a < t.length) (hk : k = ar s (t.getD a.toNat 0)) (hi : 0 ≤ i ∧ i < k) (he : a + 1 ≤ e ∧ e ≤ t.length)
    (hI : skp s (k - i).toNat (t.drop e.toNat) = skp s k.toNat (t.drop (a.toNat + 1))) :
    (endP s t e = -1 → endP s t a = -1) ∧ (endP s t e ≠ -1 → a + 1 ≤ endP s t e ∧ endP s t e ≤ t.length ∧ skp s (k - (i + 1)).toNat (t.drop (endP s t e).toNat) = skp s k.toNat (t.drop (a.toNat + 1))) := by
  have e1 : (k - i).toNat = 1 + (k - (i + 1)).toNat := by omega
  rw [e1, skp_add] at hI
  rcases endP_cases s t e (by omega) he.2 with ⟨g1, g2⟩ | ⟨g1, g2, g3⟩
  · refine ⟨fun _ => ?_, fun h => absurd g1 h⟩
    rw [endP_in s t a h0 h1, ← hk, ← hI, g2]; rfl
  · refine ⟨fun h => by omega, fun _ => ⟨by omega, g2, ?_⟩⟩
    rw [g3] at hI
    exact hI
theorem endP_done (s : SigT) (t : List Int) (a e k : Int) (h0 : 0 ≤ a) (h1 : a < t.length) (hk : k = ar s (t.getD a.toNat 0)) (he : a + 1 ≤ e ∧ e ≤ t.length) (hI : skp s 0 (t.drop e.toNat) = skp s k.toNat (t.drop (a.toNat + 1))) : endP s t a = e := by
  rw [endP_in s t a h0 h1, ← hk, ← hI, skp_zero]
  simp only [List.length_drop]; omega
def l3F (s : SigT) (t : List Int) : Int := if t.length < 1 ∨ t.length > 24 then 2 else if t.all (nodeB s) = false then 3 else if endP s t 0 ≠ t.length then 1 else 0
theorem endP_full (s : SigT) (t : List Int) : endP s t 0 = t.length ↔ opn s 1 t = some 0 := by
  rw [← opn_skp]
  unfold endP
  simp only [Int.toNat_zero, List.drop_zero]
  cases h : skp s 1 t with
  | none => simp <;> omega
  | some r =>
    cases r with
    | nil => simp
    | cons x r => simp <;> omega
theorem l3F_zero (s : SigT) (t : List Int) (h1 : 1 ≤ t.length) (h2 : t.length ≤ 24) (h3 : t.all (nodeB s) = true) : l3F s t = 0 ↔ opn s 1 t = some 0 := by
  unfold l3F
  rw [if_neg (by omega), if_neg (by rw [h3]; decide), ← endP_full]
  split
  · rename_i h; simp [h]
  · rename_i h; exact ⟨fun _ => Decidable.not_not.1 h, fun _ => rfl⟩
theorem l3F_ok (s : SigT) (t : List Int) (h : l3F s t = 0) : (1 ≤ t.length ∧ t.length ≤ 24) ∧ t.all (nodeB s) = true ∧ opn s 1 t = some 0 := by
  unfold l3F at h
  split at h
  · cases h
  rename_i h1
  split at h
  · cases h
  rename_i h2
  split at h
  · cases h
  rename_i h3
  exact ⟨by omega, by simpa using h2, (endP_full s t).1 (Decidable.not_not.1 h3)⟩
def nodeOf (b : Int) : Int := if b < 32 then b - 1 else 31 - b
def okB (s : SigT) (b : Int) : Bool := if b < 32 then isSym s (b - 1) else nodeB s (31 - b)
theorem okB_node (s : SigT) (b : Int) (h : 0 ≤ b) : okB s b = true ↔ (b ≠ 0 ∧ nodeB s (nodeOf b) = true) := by
  unfold okB nodeOf nodeB isSym
  split
  · simp only [Bool.or_eq_true, decide_eq_true_eq]; omega
  · simp only [Bool.or_eq_true, decide_eq_true_eq]; omega
/-- The reference's way: a term at the beginning of bytes; [] where there is none. -/
def l5L (s : SigT) : List Int → List Int → List Int
  | [], _ => []
  | b :: l, out => if 24 ≤ out.length then [] else if okB s b = false then [] else if l3F s (out ++ [nodeOf b]) = 0 then out ++ [nodeOf b] else l5L s l (out ++ [nodeOf b])
def l5R (s : SigT) (d : List Int) : List Int := l5L s d []
/-- The program's way. -/
def tL (s : SigT) : Nat → Int → RdT → List Int → List Int × RdT
  | 0, _, r, out => (out, r)
  | f + 1, o, r, out => if ¬ 0 < o ∨ r.2.1 = true then (out, r) else
    if rdOne r = 0 ∨ nodeB s (nodeOf (rdOne r)) = false ∨ out.length = 24 then (out, ((rdNext r 1).1, true, ()))
    else tL s f (o + (ar s (nodeOf (rdOne r)) - 1)) (rdNext r 1) (out ++ [nodeOf (rdOne r)])
def termRd (s : SigT) (r : RdT) : List Int × RdT := tL s 26 1 r []
theorem tL_step (s : SigT) (f : Nat) (o : Int) (r : RdT) (out : List Int) (h : 0 < f) : tL s f o r out = if ¬ 0 < o ∨ r.2.1 = true then (out, r) else
    if rdOne r = 0 ∨ nodeB s (nodeOf (rdOne r)) = false ∨ out.length = 24 then (out, ((rdNext r 1).1, true, ()))
    else tL s (f - 1) (o + (ar s (nodeOf (rdOne r)) - 1)) (rdNext r 1) (out ++ [nodeOf (rdOne r)]) := by
  cases f with
  | zero => omega
  | succ f => rfl
theorem rdOne_end : rdOne ([], false, ()) = 0 := rfl
theorem term_main (s : SigT) (hs : sigFault s = 0) : ∀ (l out : List Int) (o f : Nat), (∀ x ∈ l, 0 ≤ x ∧ x ≤ 255) → opn s 1 out = some (o + 1) → out.all (nodeB s) = true → out.length ≤ 24 → 26 ≤ f + out.length →
    (l5L s l out = [] → (tL s f ((o + 1 : Nat) : Int) (l, false, ()) out).2.2.1 = true) ∧
    (l5L s l out ≠ [] → out.length < (l5L s l out).length ∧ (l5L s l out).length ≤ out.length + l.length ∧ l3F s (l5L s l out) = 0 ∧ tL s f ((o + 1 : Nat) : Int) (l, false, ()) out = (l5L s l out, (l.drop ((l5L s l out).length - out.length), false, ())))
  | [], out, o, f, hb, ho, ha, hl, hf => by
    refine ⟨fun _ => ?_, fun h => absurd rfl h⟩
    rw [tL_step s f _ _ _ (by omega), if_neg (by simp), if_pos (.inl rdOne_end)]
  | b :: l, out, o, f, hb, ho, ha, hl, hf => by
    have hb0 := hb b (by simp)
    have e1 := rdOne_cons b l
    have e2 := rdNext_cons b l
    rw [tL_step s f _ _ _ (by omega), if_neg (by simp), e1, e2]
    have hok := okB_node s b hb0.1
    unfold l5L
    by_cases c1 : 24 ≤ out.length
    · rw [if_pos c1, if_pos (.inr (.inr (by omega)))]
      exact ⟨fun _ => rfl, fun h => absurd rfl h⟩
    rw [if_neg c1]
    by_cases c2 : okB s b = false
    · have hc : b = 0 ∨ nodeB s (nodeOf b) = false ∨ out.length = 24 := by
        by_cases c3 : b = 0
        · exact .inl c3
        · right; left
          cases hn : nodeB s (nodeOf b) with
          | false => rfl
          | true => rw [hok.2 ⟨c3, hn⟩] at c2; cases c2
      rw [if_pos c2, if_pos hc]
      exact ⟨fun _ => rfl, fun h => absurd rfl h⟩
    rw [if_neg c2]
    have hg := hok.1 (by simpa using c2)
    have hc : ¬ (b = 0 ∨ nodeB s (nodeOf b) = false ∨ out.length = 24) := by
      rintro (h | h | h)
      · exact hg.1 h
      · rw [hg.2] at h; cases h
      · omega
    rw [if_neg hc]
    have har := ar_rng s hs _ hg.2
    have ho2 := opn_snoc s (nodeOf b) out 1 o ho
    have ha2 : (out ++ [nodeOf b]).all (nodeB s) = true := by rw [List.all_append, ha]; simp [hg.2]
    have hl2 : (out ++ [nodeOf b]).length = out.length + 1 := by simp
    have hz := l3F_zero s (out ++ [nodeOf b]) (by omega) (by omega) ha2
    have eo : ((o + 1 : Nat) : Int) + (ar s (nodeOf b) - 1) = ((o + (ar s (nodeOf b)).toNat : Nat) : Int) := by omega
    rw [eo]
    by_cases c3 : l3F s (out ++ [nodeOf b]) = 0
    · rw [if_pos c3]
      have h0 := hz.1 c3
      rw [ho2] at h0
      have h1 : o + (ar s (nodeOf b)).toNat = 0 := by simpa using h0
      refine ⟨fun h => by simp at h, fun _ => ⟨by omega, by simp, c3, ?_⟩⟩
      rw [h1, tL_step s (f - 1) _ _ _ (by omega), if_pos (.inl (by simp)), hl2]
      simp
    · rw [if_neg c3]
      have h1 : o + (ar s (nodeOf b)).toNat ≠ 0 := fun h => c3 (hz.2 (by rw [ho2, h]))
      obtain ⟨o', ho'⟩ : ∃ o', o + (ar s (nodeOf b)).toNat = o' + 1 := ⟨o + (ar s (nodeOf b)).toNat - 1, by omega⟩
      rw [ho'] at ho2 ⊢
      have ih := term_main s hs l (out ++ [nodeOf b]) o' (f - 1) (fun x hx => hb x (by simp [hx])) ho2 ha2 (by omega) (by omega)
      refine ⟨ih.1, fun h => ?_⟩
      obtain ⟨g1, g2, g3, g4⟩ := ih.2 h
      rw [hl2] at g1 g2
      refine ⟨by omega, by rw [List.length_cons]; omega, g3, ?_⟩
      rw [g4, hl2]
      have e : (l5L s l (out ++ [nodeOf b])).length - out.length = ((l5L s l (out ++ [nodeOf b])).length - (out.length + 1)) + 1 := by omega
      rw [e, List.drop_succ_cons]
theorem term_same (s : SigT) (hs : sigFault s = 0) (x : List Int) (hx : ∀ y ∈ x, 0 ≤ y ∧ y ≤ 255) : (l5R s x = [] → (termRd s (x, false, ())).2.2.1 = true) ∧
    (l5R s x ≠ [] → (1 ≤ (l5R s x).length ∧ (l5R s x).length ≤ x.length) ∧ l3F s (l5R s x) = 0 ∧ termRd s (x, false, ()) = (l5R s x, (x.drop (l5R s x).length, false, ()))) := by
  have h := term_main s hs x [] 0 26 hx rfl rfl (by simp) (by simp)
  refine ⟨h.1, fun hh => ?_⟩
  obtain ⟨g1, g2, g3, g4⟩ := h.2 hh
  exact ⟨⟨g1, by simpa [l5R] using g2⟩, g3, g4⟩
theorem l5R_len (s : SigT) (x : List Int) (hs : sigFault s = 0) (hx : ∀ y ∈ x, 0 ≤ y ∧ y ≤ 255) : (l5R s x).length ≤ 24 := by
  by_cases h : l5R s x = []
  · simp [h]
  · exact (l3F_ok s _ ((term_same s hs x hx).2 h).2.1).1.2
def allN (s : SigT) (t : List Int) : Prop := ∀ n ∈ t, nodeB s n = true
def unpackTerm (s : SigT) (d : List Int) : Int × List Int × Unit := if sigFault s ≠ 0 then (sigFault s, [], ()) else if (l5R s d).length = 0 ∨ (l5R s d).length ≠ d.length then (5, [], ()) else (0, l5R s d, ())
theorem allp_step (p : Int → Bool) (t : List Int) (i : Nat) (h : i < t.length) : (t.drop i).all p = (p (t.getD i 0) && (t.drop (i + 1)).all p) := by
  rw [drop_cons t 0 i h, List.all_cons]
theorem all_allN (s : SigT) (t : List Int) (h : t.all (nodeB s) = true) : allN s t := fun n hn => List.all_eq_true.1 h n hn
theorem l3F_2 (s : SigT) (t : List Int) (h : t.length < 1 ∨ t.length > 24) : l3F s t = 2 := by unfold l3F; exact if_pos h
theorem l3F_3 (s : SigT) (t : List Int) (h : ¬ (t.length < 1 ∨ t.length > 24)) (h2 : t.all (nodeB s) = false) : l3F s t = 3 := by unfold l3F; rw [if_neg h, if_pos h2]
theorem l3F_r (s : SigT) (t : List Int) (h : ¬ (t.length < 1 ∨ t.length > 24)) (h2 : t.all (nodeB s) = true) : l3F s t = if endP s t 0 ≠ t.length then 1 else 0 := by
  unfold l3F; rw [if_neg h, if_neg (by rw [h2]; decide)]
theorem l5L_step (s : SigT) (d : List Int) (i : Nat) (out : List Int) (h : i < d.length) : l5L s (d.drop i) out = if 24 ≤ out.length then [] else if okB s (d.getD i 0) = false then [] else if l3F s (out ++ [nodeOf (d.getD i 0)]) = 0 then out ++ [nodeOf (d.getD i 0)] else l5L s (d.drop (i + 1)) (out ++ [nodeOf (d.getD i 0)]) := by
  rw [drop_cons d 0 i h]; rfl
theorem l5L_end (s : SigT) (d : List Int) (i : Nat) (out : List Int) (h : d.length ≤ i) : l5L s (d.drop i) out = [] := by rw [List.drop_of_length_le h]; rfl
theorem l5L_full (s : SigT) (d out : List Int) (h : 24 ≤ out.length) : l5L s d out = [] := by
  cases d with
  | nil => rfl
  | cons b l => unfold l5L; exact if_pos h
theorem unpack_same (s : SigT) (hs : sigFault s = 0) (d : List Int) (hd : ∀ y ∈ d, 0 ≤ y ∧ y ≤ 255) (t x : List Int) (f : Bool) (h : termRd s (d, false, ()) = (t, (x, f, ()))) :
    unpackTerm s d = if (!f && decide (x.length = 0)) = true then (0, t, ()) else (5, [], ()) := by
  have hm := term_same s hs d hd
  unfold unpackTerm
  rw [if_neg (by simpa using hs)]
  by_cases c : l5R s d = []
  · have := hm.1 c
    rw [h] at this
    dsimp only at this
    rw [c, this]
    rfl
  · obtain ⟨g1, g2, g3⟩ := hm.2 c
    rw [h] at g3
    injection g3 with e1 e2
    injection e2 with e3 e4
    injection e4 with e4 _
    subst e1 e3 e4
    rw [List.length_drop]
    by_cases c2 : (l5R s d).length = d.length
    · rw [if_neg (by omega), if_pos (by simp; omega)]
    · rw [if_pos (by omega), if_neg (by simp; omega)]
theorem unpackTerm_len (s : SigT) (d : List Int) (hd : ∀ y ∈ d, 0 ≤ y ∧ y ≤ 255) : (unpackTerm s d).2.1.length ≤ 24 := by
  unfold unpackTerm
  split
  · simp
  · rename_i h
    split
    · simp
    · exact l5R_len s d (Decidable.not_not.1 h) hd

def F_i_isNode (s : (List ((List Int) × (Int) × Unit)) × Unit) (n : Int) : Bool := nodeB s n
def Q_i_isNode (s : (List ((List Int) × (Int) × Unit)) × Unit) (n : Int) : Prop := True
def O_i_isNode : Opt := ⟨fun i => false, fun i => [], fun i => .done, fun i => none, fun i => false, fun i => [], fun i => false, fun i => none⟩
def τ_i_isNode : Env := Env.of [(2, (.int .i64)), (4, .bool), (32, (.pair (.sl (.pair .str (.pair (.int .i64) .unit))) .unit))] [] []

theorem ct_i_isNode (s : (List ((List Int) × (Int) × Unit)) × Unit) (n : Int) : Ct pg 94 [.dat (.pair (.sl (.pair .str (.pair (.int .i64) .unit))) .unit) s, .dat (.int .i64) n] ⟨[Q_i_isNode s n], [⟨.bool, .sh, F_i_isNode s n⟩], []⟩ := by
  refine ct_claim (O := O_i_isNode) (τ := τ_i_isNode) (EnvOk.of (by kernel_rfl) (by kernel_rfl)) (GOk.of (.cons ok_i_within (.cons ok_i_isSymbol .nil) : AllOk pg [(54, con_i_within), (112, con_i_isSymbol)])) mixed (Enters.of (by kernel_rfl)) (fn := Go.Proofs.Tryd.f94) (by kernel_rfl) rfl (by kernel_rfl) ?_
  intro hp hw
  have hq : Q_i_isNode s n := hp _ (List.mem_singleton.2 rfl)
  clear hp
  change claim Lg.std Alg.std τ_i_isNode (Gam.of [(54, ⟨true, g3 (pD (.int .i64)) (pD (.int .i64)) (pD (.int .i64)) fun n lo hi => .one ⟨[Q_i_within n lo hi], [⟨.bool, .sh, F_i_within n lo hi⟩], []⟩, [], false, 0⟩), (112, ⟨true, g2 (pD (.pair (.sl (.pair .str (.pair (.int .i64) .unit))) .unit)) (pD (.int .i64)) fun s n => .one ⟨[Q_i_isSymbol s n], [⟨.bool, .sh, F_i_isSymbol s n⟩], []⟩, [], false, 0⟩)]) O_i_isNode Go.Proofs.Tryd.f94 [.dat (.pair (.sl (.pair .str (.pair (.int .i64) .unit))) .unit) s, .dat (.int .i64) n] ⟨[Q_i_isNode s n], [⟨.bool, .sh, F_i_isNode s n⟩], []⟩
  generalize hg_F_i_within : F_i_within = g_F_i_within
  generalize hg_Q_i_within : Q_i_within = g_Q_i_within
  generalize hg_F_i_isSymbol : F_i_isSymbol = g_F_i_isSymbol
  generalize hg_Q_i_isSymbol : Q_i_isSymbol = g_Q_i_isSymbol
  generalize hR0 : F_i_isNode s n = R0
  generalize Q_i_isNode s n = Q0
  generalize hL : Lg.std = L
  generalize hA : Alg.std = A
  cbv
  subst hL hA
  try dsimp only [Ty.den]
  obtain ⟨s_0, ⟨⟩⟩ := s
  subst hR0 hg_F_i_within hg_Q_i_within hg_F_i_isSymbol hg_Q_i_isSymbol
  simp only [Lg.std, Alg.std, List.drop_zero, List.take_length, F_i_within, F_i_isSymbol, Q_i_within, Q_i_isSymbol, F_i_isNode, nodeB, isSym] at *
  all_goals grind
def con_i_isNode : Con := ⟨true, g2 (pD (.pair (.sl (.pair .str (.pair (.int .i64) .unit))) .unit)) (pD (.int .i64)) fun s n => .one ⟨[Q_i_isNode s n], [⟨.bool, .sh, F_i_isNode s n⟩], []⟩, [], false, 0⟩
theorem ok_i_isNode : ConOk pg 94 con_i_isNode := ConOk.g2 (Enters.of (by kernel_rfl)) ct_i_isNode

def F_i_arityOf (s : (List ((List Int) × (Int) × Unit)) × Unit) (n : Int) : Int := ar s n
def Q_i_arityOf (s : (List ((List Int) × (Int) × Unit)) × Unit) (n : Int) : Prop := n < s.1.length
def O_i_arityOf : Opt := ⟨fun i => false, fun i => [], fun i => .done, fun i => none, fun i => false, fun i => [], fun i => false, fun i => none⟩
def τ_i_arityOf : Env := Env.of [(2, (.int .i64)), (4, .bool), (30, (.sl (.pair .str (.pair (.int .i64) .unit)))), (32, (.pair (.sl (.pair .str (.pair (.int .i64) .unit))) .unit)), (110, (.pair .str (.pair (.int .i64) .unit)))] [] []

theorem ct_i_arityOf (s : (List ((List Int) × (Int) × Unit)) × Unit) (n : Int) : Ct pg 95 [.dat (.pair (.sl (.pair .str (.pair (.int .i64) .unit))) .unit) s, .dat (.int .i64) n] ⟨[Q_i_arityOf s n], [⟨(.int .i64), .sh, F_i_arityOf s n⟩], []⟩ := by
  refine ct_claim (O := O_i_arityOf) (τ := τ_i_arityOf) (EnvOk.of (by kernel_rfl) (by kernel_rfl)) (GOk.of (.nil : AllOk pg [])) mixed (Enters.of (by kernel_rfl)) (fn := Go.Proofs.Tryd.f95) (by kernel_rfl) rfl (by kernel_rfl) ?_
  intro hp hw
  have hq : Q_i_arityOf s n := hp _ (List.mem_singleton.2 rfl)
  clear hp
  change claim Lg.std Alg.std τ_i_arityOf (Gam.of []) O_i_arityOf Go.Proofs.Tryd.f95 [.dat (.pair (.sl (.pair .str (.pair (.int .i64) .unit))) .unit) s, .dat (.int .i64) n] ⟨[Q_i_arityOf s n], [⟨(.int .i64), .sh, F_i_arityOf s n⟩], []⟩
  generalize hR0 : F_i_arityOf s n = R0
  generalize Q_i_arityOf s n = Q0
  generalize hL : Lg.std = L
  generalize hA : Alg.std = A
  cbv
  subst hL hA
  try dsimp only [Ty.den]
  obtain ⟨s_0, ⟨⟩⟩ := s
  subst hR0
  simp only [Q_i_arityOf] at hq
  simp only [Lg.std, Alg.std, List.drop_zero, List.take_length, F_i_arityOf, ar, symD] at *
  all_goals grind
def con_i_arityOf : Con := ⟨true, g2 (pD (.pair (.sl (.pair .str (.pair (.int .i64) .unit))) .unit)) (pD (.int .i64)) fun s n => .one ⟨[Q_i_arityOf s n], [⟨(.int .i64), .sh, F_i_arityOf s n⟩], []⟩, [], false, 0⟩
theorem ok_i_arityOf : ConOk pg 95 con_i_arityOf := ConOk.g2 (Enters.of (by kernel_rfl)) ct_i_arityOf

def F_s_l2Symbol (s : (List ((List Int) × (Int) × Unit)) × Unit) (n : Int) : Bool := isSym s n
def Q_s_l2Symbol (s : (List ((List Int) × (Int) × Unit)) × Unit) (n : Int) : Prop := True
def O_s_l2Symbol : Opt := ⟨fun i => false, fun i => [], fun i => .done, fun i => none, fun i => false, fun i => [], fun i => false, fun i => none⟩
def τ_s_l2Symbol : Env := Env.of [(2, (.int .i64)), (3, (.int .i64)), (4, .bool), (30, (.sl (.pair .str (.pair (.int .i64) .unit)))), (32, (.pair (.sl (.pair .str (.pair (.int .i64) .unit))) .unit))] [(86, (.pair (.sl (.pair .str (.pair (.int .i64) .unit))) .unit))] []

theorem ct_s_l2Symbol (s : (List ((List Int) × (Int) × Unit)) × Unit) (n : Int) : Ct pg 109 [.dptr (.pair (.sl (.pair .str (.pair (.int .i64) .unit))) .unit) s, .dat (.int .i64) n] ⟨[Q_s_l2Symbol s n], [⟨.bool, .sh, F_s_l2Symbol s n⟩], []⟩ := by
  refine ct_claim (O := O_s_l2Symbol) (τ := τ_s_l2Symbol) (EnvOk.of (by kernel_rfl) (by kernel_rfl)) (GOk.of (.cons ok_s_l1In .nil : AllOk pg [(48, con_s_l1In)])) mixed (Enters.of (by kernel_rfl)) (fn := Go.Proofs.Tryd.f109) (by kernel_rfl) rfl (by kernel_rfl) ?_
  intro hp hw
  have hq : Q_s_l2Symbol s n := hp _ (List.mem_singleton.2 rfl)
  clear hp
  change claim Lg.std Alg.std τ_s_l2Symbol (Gam.of [(48, ⟨true, g3 (pD (.int .i64)) (pD (.int .i64)) (pD (.int .i64)) fun n lo hi => .one ⟨[Q_s_l1In n lo hi], [⟨.bool, .sh, F_s_l1In n lo hi⟩], []⟩, [], false, 0⟩)]) O_s_l2Symbol Go.Proofs.Tryd.f109 [.dptr (.pair (.sl (.pair .str (.pair (.int .i64) .unit))) .unit) s, .dat (.int .i64) n] ⟨[Q_s_l2Symbol s n], [⟨.bool, .sh, F_s_l2Symbol s n⟩], []⟩
  generalize hg_F_s_l1In : F_s_l1In = g_F_s_l1In
  generalize hg_Q_s_l1In : Q_s_l1In = g_Q_s_l1In
  generalize hR0 : F_s_l2Symbol s n = R0
  generalize Q_s_l2Symbol s n = Q0
  generalize hL : Lg.std = L
  generalize hA : Alg.std = A
  cbv
  subst hL hA
  try dsimp only [Ty.den]
  obtain ⟨s_0, ⟨⟩⟩ := s
  have hl := hw.1.1.1
  subst hR0 hg_F_s_l1In hg_Q_s_l1In
  simp only [Q_s_l2Symbol] at hq
  simp only [Lg.std, Alg.std, List.drop_zero, List.take_length, F_s_l1In, Q_s_l1In, F_s_l2Symbol, isSym]
  all_goals grind
def con_s_l2Symbol : Con := ⟨true, g2 (pP (.pair (.sl (.pair .str (.pair (.int .i64) .unit))) .unit)) (pD (.int .i64)) fun s n => .one ⟨[Q_s_l2Symbol s n], [⟨.bool, .sh, F_s_l2Symbol s n⟩], []⟩, [], false, 0⟩
theorem ok_s_l2Symbol : ConOk pg 109 con_s_l2Symbol := ConOk.g2 (Enters.of (by kernel_rfl)) ct_s_l2Symbol

def F_s_l3Node (s : (List ((List Int) × (Int) × Unit)) × Unit) (n : Int) : Bool := nodeB s n
def Q_s_l3Node (s : (List ((List Int) × (Int) × Unit)) × Unit) (n : Int) : Prop := True
def O_s_l3Node : Opt := ⟨fun i => false, fun i => [], fun i => .done, fun i => none, fun i => false, fun i => [], fun i => false, fun i => none⟩
def τ_s_l3Node : Env := Env.of [(2, (.int .i64)), (4, .bool)] [(86, (.pair (.sl (.pair .str (.pair (.int .i64) .unit))) .unit))] []

theorem ct_s_l3Node (s : (List ((List Int) × (Int) × Unit)) × Unit) (n : Int) : Ct pg 110 [.dptr (.pair (.sl (.pair .str (.pair (.int .i64) .unit))) .unit) s, .dat (.int .i64) n] ⟨[Q_s_l3Node s n], [⟨.bool, .sh, F_s_l3Node s n⟩], []⟩ := by
  refine ct_claim (O := O_s_l3Node) (τ := τ_s_l3Node) (EnvOk.of (by kernel_rfl) (by kernel_rfl)) (GOk.of (.cons ok_s_l1In (.cons ok_s_l2Symbol .nil) : AllOk pg [(48, con_s_l1In), (109, con_s_l2Symbol)])) mixed (Enters.of (by kernel_rfl)) (fn := Go.Proofs.Tryd.f110) (by kernel_rfl) rfl (by kernel_rfl) ?_
  intro hp hw
  have hq : Q_s_l3Node s n := hp _ (List.mem_singleton.2 rfl)
  clear hp
  change claim Lg.std Alg.std τ_s_l3Node (Gam.of [(48, ⟨true, g3 (pD (.int .i64)) (pD (.int .i64)) (pD (.int .i64)) fun n lo hi => .one ⟨[Q_s_l1In n lo hi], [⟨.bool, .sh, F_s_l1In n lo hi⟩], []⟩, [], false, 0⟩), (109, ⟨true, g2 (pP (.pair (.sl (.pair .str (.pair (.int .i64) .unit))) .unit)) (pD (.int .i64)) fun s n => .one ⟨[Q_s_l2Symbol s n], [⟨.bool, .sh, F_s_l2Symbol s n⟩], []⟩, [], false, 0⟩)]) O_s_l3Node Go.Proofs.Tryd.f110 [.dptr (.pair (.sl (.pair .str (.pair (.int .i64) .unit))) .unit) s, .dat (.int .i64) n] ⟨[Q_s_l3Node s n], [⟨.bool, .sh, F_s_l3Node s n⟩], []⟩
  generalize hg_F_s_l1In : F_s_l1In = g_F_s_l1In
  generalize hg_Q_s_l1In : Q_s_l1In = g_Q_s_l1In
  generalize hg_F_s_l2Symbol : F_s_l2Symbol = g_F_s_l2Symbol
  generalize hg_Q_s_l2Symbol : Q_s_l2Symbol = g_Q_s_l2Symbol
  generalize hR0 : F_s_l3Node s n = R0
  generalize Q_s_l3Node s n = Q0
  generalize hL : Lg.std = L
  generalize hA : Alg.std = A
  cbv
  subst hL hA
  try dsimp only [Ty.den]
  subst hR0 hg_F_s_l1In hg_Q_s_l1In hg_F_s_l2Symbol hg_Q_s_l2Symbol
  simp only [Q_s_l3Node] at hq
  simp only [Lg.std, Alg.std, List.drop_zero, List.take_length, F_s_l1In, F_s_l2Symbol, Q_s_l1In, Q_s_l2Symbol, F_s_l3Node]
  all_goals grind [nodeB]
def con_s_l3Node : Con := ⟨true, g2 (pP (.pair (.sl (.pair .str (.pair (.int .i64) .unit))) .unit)) (pD (.int .i64)) fun s n => .one ⟨[Q_s_l3Node s n], [⟨.bool, .sh, F_s_l3Node s n⟩], []⟩, [], false, 0⟩
theorem ok_s_l3Node : ConOk pg 110 con_s_l3Node := ConOk.g2 (Enters.of (by kernel_rfl)) ct_s_l3Node

def F_s_l5Node (s : (List ((List Int) × (Int) × Unit)) × Unit) (b : Int) : Int := nodeOf b
def F_s_l5Node_1 (s : (List ((List Int) × (Int) × Unit)) × Unit) (b : Int) : Bool := okB s b
def Q_s_l5Node (s : (List ((List Int) × (Int) × Unit)) × Unit) (b : Int) : Prop := True
def O_s_l5Node : Opt := ⟨fun i => false, fun i => [], fun i => .done, fun i => none, fun i => false, fun i => [], fun i => false, fun i => none⟩
def τ_s_l5Node : Env := Env.of [(2, (.int .i64)), (4, .bool), (5, (.int .u8))] [(86, (.pair (.sl (.pair .str (.pair (.int .i64) .unit))) .unit))] []

theorem ct_s_l5Node (s : (List ((List Int) × (Int) × Unit)) × Unit) (b : Int) : Ct pg 91 [.dptr (.pair (.sl (.pair .str (.pair (.int .i64) .unit))) .unit) s, .dat (.int .u8) b] ⟨[Q_s_l5Node s b], [⟨(.int .i64), .sh, F_s_l5Node s b⟩, ⟨.bool, .sh, F_s_l5Node_1 s b⟩], []⟩ := by
  refine ct_claim (O := O_s_l5Node) (τ := τ_s_l5Node) (EnvOk.of (by kernel_rfl) (by kernel_rfl)) (GOk.of (.cons ok_s_l2Symbol (.cons ok_s_l3Node .nil) : AllOk pg [(109, con_s_l2Symbol), (110, con_s_l3Node)])) mixed (Enters.of (by kernel_rfl)) (fn := Go.Proofs.Tryd.f91) (by kernel_rfl) rfl (by kernel_rfl) ?_
  intro hp hw
  have hq : Q_s_l5Node s b := hp _ (List.mem_singleton.2 rfl)
  clear hp
  change claim Lg.std Alg.std τ_s_l5Node (Gam.of [(109, ⟨true, g2 (pP (.pair (.sl (.pair .str (.pair (.int .i64) .unit))) .unit)) (pD (.int .i64)) fun s n => .one ⟨[Q_s_l2Symbol s n], [⟨.bool, .sh, F_s_l2Symbol s n⟩], []⟩, [], false, 0⟩), (110, ⟨true, g2 (pP (.pair (.sl (.pair .str (.pair (.int .i64) .unit))) .unit)) (pD (.int .i64)) fun s n => .one ⟨[Q_s_l3Node s n], [⟨.bool, .sh, F_s_l3Node s n⟩], []⟩, [], false, 0⟩)]) O_s_l5Node Go.Proofs.Tryd.f91 [.dptr (.pair (.sl (.pair .str (.pair (.int .i64) .unit))) .unit) s, .dat (.int .u8) b] ⟨[Q_s_l5Node s b], [⟨(.int .i64), .sh, F_s_l5Node s b⟩, ⟨.bool, .sh, F_s_l5Node_1 s b⟩], []⟩
  generalize hg_F_s_l2Symbol : F_s_l2Symbol = g_F_s_l2Symbol
  generalize hg_Q_s_l2Symbol : Q_s_l2Symbol = g_Q_s_l2Symbol
  generalize hg_F_s_l3Node : F_s_l3Node = g_F_s_l3Node
  generalize hg_Q_s_l3Node : Q_s_l3Node = g_Q_s_l3Node
  generalize hR0 : F_s_l5Node s b = R0
  generalize hR1 : F_s_l5Node_1 s b = R1
  generalize Q_s_l5Node s b = Q0
  generalize hL : Lg.std = L
  generalize hA : Alg.std = A
  cbv
  subst hL hA
  try dsimp only [Ty.den]
  have hb : 0 ≤ b ∧ b ≤ 255 := u8s (a := [b]) (fun x hx => by rw [List.mem_singleton.1 hx]; exact hw.2.1) b (by simp)
  subst hR0 hR1 hg_F_s_l2Symbol hg_Q_s_l2Symbol hg_F_s_l3Node hg_Q_s_l3Node
  simp only [Lg.std, Alg.std, List.drop_zero, List.take_length, F_s_l2Symbol, F_s_l3Node, Q_s_l2Symbol, Q_s_l3Node, F_s_l5Node, F_s_l5Node_1, nodeOf, okB] at *
  all_goals grind
def con_s_l5Node : Con := ⟨true, g2 (pP (.pair (.sl (.pair .str (.pair (.int .i64) .unit))) .unit)) (pD (.int .u8)) fun s b => .one ⟨[Q_s_l5Node s b], [⟨(.int .i64), .sh, F_s_l5Node s b⟩, ⟨.bool, .sh, F_s_l5Node_1 s b⟩], []⟩, [], false, 0⟩
theorem ok_s_l5Node : ConOk pg 91 con_s_l5Node := ConOk.g2 (Enters.of (by kernel_rfl)) ct_s_l5Node

def F_i_byteReader_term (r : (List (Int)) × (Bool) × Unit) (s : (List ((List Int) × (Int) × Unit)) × Unit) : List (Int) := (termRd s r).1
def B_i_byteReader_term_r (r : (List (Int)) × (Bool) × Unit) (s : (List ((List Int) × (Int) × Unit)) × Unit) : (List (Int)) × (Bool) × Unit := (termRd s r).2
def Q_i_byteReader_term (r : (List (Int)) × (Bool) × Unit) (s : (List ((List Int) × (Int) × Unit)) × Unit) : Prop := sigFault s = 0
def O_i_byteReader_term : Opt := ⟨fun i => false, fun i => (match decide (i = 3) with | true => [true, false, false, true, false, true, true, false, false, false, false, false, false, false, false, false, false, false, false, false, false, false, false, false, false, false, false, false, false, false, false, false, false, false, false, false, false, false, false, false, false, false, false, false, false, false, false, false, false, false, false, false, false, false] | false => []), fun i => .done, fun i => none, fun i => (match decide (i = 3) with | true => true | false => false), fun i => [], fun i => false, fun i => none⟩
def τ_i_byteReader_term : Env := Env.of [(2, (.int .i64)), (3, (.int .i64)), (4, .bool), (32, (.pair (.sl (.pair .str (.pair (.int .i64) .unit))) .unit)), (48, (.sl (.int .i64))), (81, (.pair (.sl (.int .u8)) (.pair .bool .unit)))] [(79, (.pair (.sl (.int .u8)) (.pair .bool .unit)))] []

theorem ct_i_byteReader_term (r : (List (Int)) × (Bool) × Unit) (s : (List ((List Int) × (Int) × Unit)) × Unit) : Ct pg 64 [.mp (.pair (.sl (.int .u8)) (.pair .bool .unit)) .sh r, .dat (.pair (.sl (.pair .str (.pair (.int .i64) .unit))) .unit) s] ⟨[Q_i_byteReader_term r s], [⟨(.sl (.int .i64)), (.ow .sh), F_i_byteReader_term r s⟩], [.mp (.pair (.sl (.int .u8)) (.pair .bool .unit)) .sh (B_i_byteReader_term_r r s)]⟩ := by
  refine ct_claim (O := O_i_byteReader_term) (τ := τ_i_byteReader_term) (EnvOk.of (by kernel_rfl) (by kernel_rfl)) (GOk.of (.cons ok_i_byteReader_one (.cons ok_i_isNode (.cons ok_i_arityOf .nil)) : AllOk pg [(80, con_i_byteReader_one), (94, con_i_isNode), (95, con_i_arityOf)])) mixed (Enters.of (by kernel_rfl)) (fn := Go.Proofs.Tryd.f64) (by kernel_rfl) rfl (by kernel_rfl) ?_
  intro hp hw
  have hq : Q_i_byteReader_term r s := hp _ (List.mem_singleton.2 rfl)
  clear hp
  change claim Lg.std Alg.std τ_i_byteReader_term (Gam.of [(80, ⟨true, g1 (pW (.pair (.sl (.int .u8)) (.pair .bool .unit)) .sh) fun r => .one ⟨[Q_i_byteReader_one r], [⟨(.int .i64), .sh, F_i_byteReader_one r⟩], [.mp (.pair (.sl (.int .u8)) (.pair .bool .unit)) .sh (B_i_byteReader_one_r r)]⟩, [.sh], false, 0⟩), (94, ⟨true, g2 (pD (.pair (.sl (.pair .str (.pair (.int .i64) .unit))) .unit)) (pD (.int .i64)) fun s n => .one ⟨[Q_i_isNode s n], [⟨.bool, .sh, F_i_isNode s n⟩], []⟩, [], false, 0⟩), (95, ⟨true, g2 (pD (.pair (.sl (.pair .str (.pair (.int .i64) .unit))) .unit)) (pD (.int .i64)) fun s n => .one ⟨[Q_i_arityOf s n], [⟨(.int .i64), .sh, F_i_arityOf s n⟩], []⟩, [], false, 0⟩)]) O_i_byteReader_term Go.Proofs.Tryd.f64 [.mp (.pair (.sl (.int .u8)) (.pair .bool .unit)) .sh r, .dat (.pair (.sl (.pair .str (.pair (.int .i64) .unit))) .unit) s] ⟨[Q_i_byteReader_term r s], [⟨(.sl (.int .i64)), (.ow .sh), F_i_byteReader_term r s⟩], [.mp (.pair (.sl (.int .u8)) (.pair .bool .unit)) .sh (B_i_byteReader_term_r r s)]⟩
  generalize hg_F_i_byteReader_one : F_i_byteReader_one = g_F_i_byteReader_one
  generalize hg_B_i_byteReader_one_r : B_i_byteReader_one_r = g_B_i_byteReader_one_r
  generalize hg_Q_i_byteReader_one : Q_i_byteReader_one = g_Q_i_byteReader_one
  generalize hg_F_i_isNode : F_i_isNode = g_F_i_isNode
  generalize hg_Q_i_isNode : Q_i_isNode = g_Q_i_isNode
  generalize hg_F_i_arityOf : F_i_arityOf = g_F_i_arityOf
  generalize hg_Q_i_arityOf : Q_i_arityOf = g_Q_i_arityOf
  generalize hR0 : F_i_byteReader_term r s = R0
  generalize hB_r : B_i_byteReader_term_r r s = B_r
  generalize Q_i_byteReader_term r s = Q0
  generalize hL : Lg.std = L
  generalize hA : Alg.std = A
  cbv
  subst hL hA
  try dsimp only [Ty.den]
  obtain ⟨r_0, r_1, ⟨⟩⟩ := r
  obtain ⟨s_0, ⟨⟩⟩ := s
  simp only [Q_i_byteReader_term] at hq
  have hby := u8s hw.1.1.2
  refine lp_v (V := (Nat) × (Int) × (List Int) × (Bool) × (Nat) × (List Int)) (fun ((g, o, x, f, N, out) : (Nat) × (Int) × (List Int) × (Bool) × (Nat) × (List Int)) => ⟨[.bptr 0 0, .junk, .junk, .bptr 1 0, .junk, .ref (.int .i64) 2 0 [] 0 N, .dat (.int .i64) o, .junk, .junk, .junk, .junk, .junk, .junk, .junk, .junk, .junk, .junk, .junk, .junk, .junk, .junk, .junk, .junk, .junk, .junk, .junk, .junk, .junk, .junk, .junk, .junk, .junk, .junk, .junk, .junk, .junk, .junk, .junk, .junk, .junk, .junk, .junk, .junk, .junk, .junk, .junk, .junk, .junk, .junk, .junk, .junk, .junk, .junk, .junk], [some (.box [.dat (.sl (.int .u8)) x, .dat .bool f]), some (.box [.dat (.sl (.pair .str (.pair (.int .i64) .unit))) s_0]), some (.row 0 (.int .i64) .sh out), some (.gh [.bptr 0 0])]⟩) (fun ((g, o, x, f, N, out) : (Nat) × (Int) × (List Int) × (Bool) × (Nat) × (List Int)) => sigFault (s_0, PUnit.unit) = 0 ∧ N = out.length ∧ out.length ≤ 24 ∧ g + out.length = 26 ∧ 0 ≤ o ∧ o ≤ 1 + out.length ∧ (∀ y ∈ x, 0 ≤ y ∧ y ≤ 255) ∧ tL (s_0, PUnit.unit) g o (x, f, ()) out = termRd (s_0, PUnit.unit) (r_0, r_1, ())) (fun ((g, o, x, f, N, out) : (Nat) × (Int) × (List Int) × (Bool) × (Nat) × (List Int)) => g) (26, 1, _, _, _, _) rfl ?_ ?_
  · (subst hR0 hB_r hg_F_i_byteReader_one hg_B_i_byteReader_one_r hg_Q_i_byteReader_one hg_F_i_isNode hg_Q_i_isNode hg_F_i_arityOf hg_Q_i_arityOf; simp only [Alg.std] at *; exact ⟨hq, rfl, by simp, by simp, by simp, by simp, hby, rfl⟩)
  rintro ⟨g, o, x, f, N, out⟩ hf I hI
  replace hf : sigFault (s_0, PUnit.unit) = 0 ∧ N = out.length ∧ out.length ≤ 24 ∧ g + out.length = 26 ∧ 0 ≤ o ∧ o ≤ 1 + out.length ∧ (∀ y ∈ x, 0 ≤ y ∧ y ≤ 255) ∧ tL (s_0, PUnit.unit) g o (x, f, ()) out = termRd (s_0, PUnit.unit) (r_0, r_1, ()) := hf
  generalize hL : Lg.std = L
  generalize hA : Alg.std = A
  cbv
  subst hL hA
  try dsimp only [Ty.den]
  subst hI
  generalize g1 : g_B_i_byteReader_one_r (x, f, PUnit.unit) = r1 at *
  obtain ⟨x1, f1, ⟨⟩⟩ := r1
  try dsimp only
  have by1 := rdOne_byte x f hf.2.2.2.2.2.2.1
  have by2 := fun (e : rdNext (x, f, ()) 1 = (x1, f1, ())) => rdNext_bytes x f 1 x1 f1 e hf.2.2.2.2.2.2.1
  have st := tL_step (s_0, PUnit.unit) g o (x, f, ()) out (by have := hf.2.2.1; have := hf.2.2.2.1; omega)
  have ha := ar_rng (s_0, PUnit.unit) hf.1 (nodeOf (rdOne (x, f, ())))
  have hn : nodeB (s_0, PUnit.unit) (nodeOf (rdOne (x, f, ()))) = true → nodeOf (rdOne (x, f, ())) < s_0.length := fun h => by simp only [nodeB, isSym, Bool.or_eq_true, decide_eq_true_eq] at h; omega
  have hno : nodeOf (rdOne (x, f, ())) = if rdOne (x, f, ()) < 32 then rdOne (x, f, ()) - 1 else 31 - rdOne (x, f, ()) := rfl
  obtain ⟨h1, h2, h3, h4, h5, h6, h7, h8⟩ := hf
  repeat' (first | intro _ | apply And.intro)
  all_goals first | (with_reducible exact True.intro) | ((fail_if_success (refine lp_v (V := Unit) (fun _ => ⟨[], []⟩) (fun _ => True) (fun _ => 0) () ?_ ?_ ?_)); (try simp only [Lg.std, Alg.std, List.drop_zero, List.take_length] at *); (try refine ⟨(g - 1, _, _, _, _, _), rfl, ?_, ?_⟩); (all_goals (subst hR0 hB_r hg_F_i_byteReader_one hg_B_i_byteReader_one_r hg_Q_i_byteReader_one hg_F_i_isNode hg_Q_i_isNode hg_F_i_arityOf hg_Q_i_arityOf; (try simp only [Lg.std, Alg.std, List.drop_zero, List.take_length, F_i_byteReader_one, F_i_isNode, F_i_arityOf, B_i_byteReader_one_r, Q_i_byteReader_one, Q_i_isNode, Q_i_arityOf, F_i_byteReader_term, B_i_byteReader_term_r] at *); first | done | ((try simp only [g1, decide_eq_true_eq, decide_eq_false_iff_not, Bool.not_eq_eq_eq_not, Bool.not_true, Bool.not_false] at *); grind)))) | skip
def con_i_byteReader_term : Con := ⟨true, g2 (pW (.pair (.sl (.int .u8)) (.pair .bool .unit)) .sh) (pD (.pair (.sl (.pair .str (.pair (.int .i64) .unit))) .unit)) fun r s => .one ⟨[Q_i_byteReader_term r s], [⟨(.sl (.int .i64)), (.ow .sh), F_i_byteReader_term r s⟩], [.mp (.pair (.sl (.int .u8)) (.pair .bool .unit)) .sh (B_i_byteReader_term_r r s)]⟩, [.sh], false, 0⟩
theorem ok_i_byteReader_term : ConOk pg 64 con_i_byteReader_term := ConOk.g2 (Enters.of (by kernel_rfl)) ct_i_byteReader_term

def F_s_l3End (s : (List ((List Int) × (Int) × Unit)) × Unit) (t : List (Int)) (a : Int) : Int := endP s t a
def Q_s_l3End (s : (List ((List Int) × (Int) × Unit)) × Unit) (t : List (Int)) (a : Int) : Prop := sigFault s = 0 ∧ allN s t ∧ 0 ≤ a ∧ t.length ≤ 1048576
def O_s_l3End : Opt := ⟨fun i => (match decide (i = 7) with | true => true | false => false), fun i => (match decide (i = 7) with | true => [true, true, true, false, false, false, false, true, true, false, false, false, false, false, false, false, false, false, false, false, false, false, false, false, false, false, false, false, false, false, false, false, false, false, false, false, false, false, false, false, false, false, false, false] | false => []), fun i => .done, fun i => none, fun i => false, fun i => [], fun i => false, fun i => none⟩
def τ_s_l3End : Env := Env.of [(2, (.int .i64)), (3, (.int .i64)), (4, .bool), (30, (.sl (.pair .str (.pair (.int .i64) .unit)))), (32, (.pair (.sl (.pair .str (.pair (.int .i64) .unit))) .unit)), (48, (.sl (.int .i64))), (110, (.pair .str (.pair (.int .i64) .unit)))] [(86, (.pair (.sl (.pair .str (.pair (.int .i64) .unit))) .unit))] []

def Qr_s_l3End (n : Nat) (s : (List ((List Int) × (Int) × Unit)) × Unit) (t : List (Int)) (a : Int) : Prop := Q_s_l3End s t a ∧ (t.length - a.toNat) < n
def conr_s_l3End (n : Nat) : Con := ⟨true, g3 (pP (.pair (.sl (.pair .str (.pair (.int .i64) .unit))) .unit)) (pD (.sl (.int .i64))) (pD (.int .i64)) fun s t a => .one ⟨[Qr_s_l3End n s t a], [⟨(.int .i64), .sh, F_s_l3End s t a⟩], []⟩, [], false, 0⟩
theorem ctr_s_l3End (n : Nat) : ∀ (s : (List ((List Int) × (Int) × Unit)) × Unit) (t : List (Int)) (a : Int), Ct pg 111 [.dptr (.pair (.sl (.pair .str (.pair (.int .i64) .unit))) .unit) s, .dat (.sl (.int .i64)) t, .dat (.int .i64) a] ⟨[Qr_s_l3End n s t a], [⟨(.int .i64), .sh, F_s_l3End s t a⟩], []⟩ := by
  induction n with
  | zero => exact fun s t a => Ct.never (fun hp => Nat.not_lt_zero _ (hp _ (List.mem_singleton.2 rfl)).2)
  | succ n ih =>
    have okr : ConOk pg 111 (conr_s_l3End n) := ConOk.g3 (Enters.of (by kernel_rfl)) ih
    intro s t a
    refine ct_claim (O := O_s_l3End) (τ := τ_s_l3End) (EnvOk.of (by kernel_rfl) (by kernel_rfl)) (GOk.of (.cons okr .nil : AllOk pg [(111, conr_s_l3End n)])) mixed (Enters.of (by kernel_rfl)) (fn := Go.Proofs.Tryd.f111) (by kernel_rfl) rfl (by kernel_rfl) ?_
    intro hp hw
    clear okr ih
    have hq : (Qr_s_l3End (n + 1)) s t a := hp _ (List.mem_singleton.2 rfl)
    clear hp
    change claim Lg.std Alg.std τ_s_l3End (Gam.of [(111, ⟨true, g3 (pP (.pair (.sl (.pair .str (.pair (.int .i64) .unit))) .unit)) (pD (.sl (.int .i64))) (pD (.int .i64)) fun s t a => .one ⟨[Qr_s_l3End n s t a], [⟨(.int .i64), .sh, F_s_l3End s t a⟩], []⟩, [], false, 0⟩)]) O_s_l3End Go.Proofs.Tryd.f111 [.dptr (.pair (.sl (.pair .str (.pair (.int .i64) .unit))) .unit) s, .dat (.sl (.int .i64)) t, .dat (.int .i64) a] ⟨[Qr_s_l3End (n + 1) s t a], [⟨(.int .i64), .sh, F_s_l3End s t a⟩], []⟩
    generalize hR0 : F_s_l3End s t a = R0
    generalize (Qr_s_l3End (n + 1)) s t a = Q0
    generalize hg_F_s_l3End : F_s_l3End = g_F_s_l3End
    generalize hg_Qr_s_l3End : Qr_s_l3End n = g_Qr_s_l3End
    generalize hL : Lg.std = L
    generalize hA : Alg.std = A
    cbv
    subst hL hA
    try dsimp only [Ty.den]
    obtain ⟨s_0, ⟨⟩⟩ := s
    simp only [Qr_s_l3End, Q_s_l3End] at hq
    obtain ⟨⟨hqs, hqt, hk0, hql⟩, hqm⟩ := hq
    have key : a < t.length → (t.getD a.toNat 0 < s_0.length ∧ 0 ≤ ar (s_0, PUnit.unit) (t.getD a.toNat 0) ∧ ar (s_0, PUnit.unit) (t.getD a.toNat 0) ≤ 2 ∧ (0 ≤ t.getD a.toNat 0 → ar (s_0, PUnit.unit) (t.getD a.toNat 0) = (s_0.getD (t.getD a.toNat 0).toNat ([], 0, PUnit.unit)).2.1)) := fun h => by
      have hn := hqt _ (getD_mem t 0 a.toNat (by omega))
      have hr := ar_rng _ hqs _ hn
      simp only [nodeB, isSym, Bool.or_eq_true, decide_eq_true_eq] at hn
      have hs1 := (sig_good _ hqs).1
      dsimp only at hs1
      exact ⟨by omega, hr.1, hr.2, fun h => by unfold ar; rw [if_neg (by omega)]⟩
    have w1 := endP_ge (s_0, PUnit.unit) t a
    have w2 := endP_var (s_0, PUnit.unit) t a hk0
    repeat' (first | intro _ | apply And.intro)
    all_goals first | trivial | ((fail_if_success (refine lp_v (V := Unit) (fun _ => ⟨[], []⟩) (fun _ => True) (fun _ => 0) () ?_ ?_ ?_)); subst hR0 hg_F_s_l3End hg_Qr_s_l3End; (try simp only [Alg.std, F_s_l3End, Qr_s_l3End, Q_s_l3End] at *); all_goals grind) | skip
    all_goals (
      refine lp_v (V := (Int) × (Int)) (fun ((i, e) : (Int) × (Int)) => ⟨[.dptr (.pair (.sl (.pair .str (.pair (.int .i64) .unit))) .unit) (s_0, PUnit.unit), .dat (.sl (.int .i64)) t, .dat (.int .i64) a, .junk, .junk, .junk, .junk, .dat (.int .i64) e, .dat (.int .i64) i, .junk, .junk, .junk, .junk, .junk, .junk, .junk, .junk, .junk, .junk, .junk, .junk, .junk, .junk, .junk, .junk, .junk, .junk, .junk, .junk, .junk, .junk, .junk, .junk, .junk, .junk, .junk, .junk, .junk, .junk, .junk, .junk, .junk, .junk, .junk], []⟩) (fun ((i, e) : (Int) × (Int)) => a < t.length ∧ 0 ≤ t.getD a.toNat 0 ∧ 0 ≤ i ∧ i ≤ ar (s_0, PUnit.unit) (t.getD a.toNat 0) ∧ a + 1 ≤ e ∧ e ≤ t.length ∧ skp (s_0, PUnit.unit) (ar (s_0, PUnit.unit) (t.getD a.toNat 0) - i).toNat (t.drop e.toNat) = skp (s_0, PUnit.unit) (ar (s_0, PUnit.unit) (t.getD a.toNat 0)).toNat (t.drop (a.toNat + 1))) (fun ((i, e) : (Int) × (Int)) => (ar (s_0, PUnit.unit) (t.getD a.toNat 0) - i).toNat) (0, _) rfl ?_ ?_
      · (subst hR0 hg_F_s_l3End hg_Qr_s_l3End; simp only [Alg.std, decide_eq_true_eq, decide_eq_false_iff_not] at *; have ea : (a + 1).toNat = a.toNat + 1 := (by omega); have key := key (by omega); refine ⟨by omega, by omega, by omega, by omega, by omega, by omega, ?_⟩; rw [ea, Int.sub_zero])
      rintro ⟨i, e⟩ hf I hI
      replace hf : a < t.length ∧ 0 ≤ t.getD a.toNat 0 ∧ 0 ≤ i ∧ i ≤ ar (s_0, PUnit.unit) (t.getD a.toNat 0) ∧ a + 1 ≤ e ∧ e ≤ t.length ∧ skp (s_0, PUnit.unit) (ar (s_0, PUnit.unit) (t.getD a.toNat 0) - i).toNat (t.drop e.toNat) = skp (s_0, PUnit.unit) (ar (s_0, PUnit.unit) (t.getD a.toNat 0)).toNat (t.drop (a.toNat + 1)) := hf
      generalize hL : Lg.std = L
      generalize hA : Alg.std = A
      cbv
      subst hL hA
      try dsimp only [Ty.den]
      subst hI
      obtain ⟨h1, h2, h3, h4, h5, h6, h7⟩ := hf
      have rr := fun (hik : i < ar (s_0, PUnit.unit) (t.getD a.toNat 0)) => endP_round (s_0, PUnit.unit) t a e _ i hk0 h1 rfl ⟨h3, hik⟩ ⟨h5, h6⟩ h7
      have dd := fun (hik : ¬ i < ar (s_0, PUnit.unit) (t.getD a.toNat 0)) => endP_done (s_0, PUnit.unit) t a e _ hk0 h1 rfl ⟨h5, h6⟩ ((show (ar (s_0, PUnit.unit) (t.getD a.toNat 0) - i).toNat = 0 by omega) ▸ h7)
      have ec := endP_cases (s_0, PUnit.unit) t e (by omega) h6
      replace key := key h1
      repeat' (first | intro _ | apply And.intro)
      all_goals first | (with_reducible exact True.intro) | ((fail_if_success (refine lp_v (V := Unit) (fun _ => ⟨[], []⟩) (fun _ => True) (fun _ => 0) () ?_ ?_ ?_)); (try simp only [Lg.std, Alg.std, List.drop_zero, List.take_length] at *); (try refine ⟨(_, _), rfl, ?_, ?_⟩); (all_goals (subst hR0 hg_F_s_l3End hg_Qr_s_l3End; (try simp only [Lg.std, Alg.std, List.drop_zero, List.take_length, F_s_l3End, Qr_s_l3End, Q_s_l3End] at *); first | done | (grind)))) | skip)
theorem ct_s_l3End (s : (List ((List Int) × (Int) × Unit)) × Unit) (t : List (Int)) (a : Int) : Ct pg 111 [.dptr (.pair (.sl (.pair .str (.pair (.int .i64) .unit))) .unit) s, .dat (.sl (.int .i64)) t, .dat (.int .i64) a] ⟨[Q_s_l3End s t a], [⟨(.int .i64), .sh, F_s_l3End s t a⟩], []⟩ := (ctr_s_l3End ((t.length - a.toNat) + 1) s t a).pre (fun h p hp => by rw [List.mem_singleton.1 hp]; exact ⟨h _ (List.mem_singleton.2 rfl), Nat.lt_succ_self _⟩)
def con_s_l3End : Con := ⟨true, g3 (pP (.pair (.sl (.pair .str (.pair (.int .i64) .unit))) .unit)) (pD (.sl (.int .i64))) (pD (.int .i64)) fun s t a => .one ⟨[Q_s_l3End s t a], [⟨(.int .i64), .sh, F_s_l3End s t a⟩], []⟩, [], false, 0⟩
theorem ok_s_l3End : ConOk pg 111 con_s_l3End := ConOk.g3 (Enters.of (by kernel_rfl)) ct_s_l3End

def F_s_l3Fault (s : (List ((List Int) × (Int) × Unit)) × Unit) (t : List (Int)) : Int := l3F s t
def Q_s_l3Fault (s : (List ((List Int) × (Int) × Unit)) × Unit) (t : List (Int)) : Prop := sigFault s = 0
def O_s_l3Fault : Opt := ⟨fun i => false, fun i => (match decide (i = 4) with | true => [true, true, false, false, false, true, false, false, false, false, false, false, false, false, false, false, false, false, false, false, false, false, false, false, false, false, false, false, false, false, false, false, false] | false => []), fun i => .done, fun i => none, fun i => false, fun i => [], fun i => false, fun i => none⟩
def τ_s_l3Fault : Env := Env.of [(2, (.int .i64)), (3, (.int .i64)), (4, .bool), (48, (.sl (.int .i64)))] [(86, (.pair (.sl (.pair .str (.pair (.int .i64) .unit))) .unit))] []

theorem ct_s_l3Fault (s : (List ((List Int) × (Int) × Unit)) × Unit) (t : List (Int)) : Ct pg 92 [.dptr (.pair (.sl (.pair .str (.pair (.int .i64) .unit))) .unit) s, .dat (.sl (.int .i64)) t] ⟨[Q_s_l3Fault s t], [⟨(.int .i64), .sh, F_s_l3Fault s t⟩], []⟩ := by
  refine ct_claim (O := O_s_l3Fault) (τ := τ_s_l3Fault) (EnvOk.of (by kernel_rfl) (by kernel_rfl)) (GOk.of (.cons ok_s_l3Node (.cons ok_s_l3End .nil) : AllOk pg [(110, con_s_l3Node), (111, con_s_l3End)])) mixed (Enters.of (by kernel_rfl)) (fn := Go.Proofs.Tryd.f92) (by kernel_rfl) rfl (by kernel_rfl) ?_
  intro hp hw
  have hq : Q_s_l3Fault s t := hp _ (List.mem_singleton.2 rfl)
  clear hp
  change claim Lg.std Alg.std τ_s_l3Fault (Gam.of [(110, ⟨true, g2 (pP (.pair (.sl (.pair .str (.pair (.int .i64) .unit))) .unit)) (pD (.int .i64)) fun s n => .one ⟨[Q_s_l3Node s n], [⟨.bool, .sh, F_s_l3Node s n⟩], []⟩, [], false, 0⟩), (111, ⟨true, g3 (pP (.pair (.sl (.pair .str (.pair (.int .i64) .unit))) .unit)) (pD (.sl (.int .i64))) (pD (.int .i64)) fun s t a => .one ⟨[Q_s_l3End s t a], [⟨(.int .i64), .sh, F_s_l3End s t a⟩], []⟩, [], false, 0⟩)]) O_s_l3Fault Go.Proofs.Tryd.f92 [.dptr (.pair (.sl (.pair .str (.pair (.int .i64) .unit))) .unit) s, .dat (.sl (.int .i64)) t] ⟨[Q_s_l3Fault s t], [⟨(.int .i64), .sh, F_s_l3Fault s t⟩], []⟩
  generalize hg_F_s_l3Node : F_s_l3Node = g_F_s_l3Node
  generalize hg_Q_s_l3Node : Q_s_l3Node = g_Q_s_l3Node
  generalize hg_F_s_l3End : F_s_l3End = g_F_s_l3End
  generalize hg_Q_s_l3End : Q_s_l3End = g_Q_s_l3End
  generalize hR0 : F_s_l3Fault s t = R0
  generalize Q_s_l3Fault s t = Q0
  generalize hL : Lg.std = L
  generalize hA : Alg.std = A
  cbv
  subst hL hA
  try dsimp only [Ty.den]
  obtain ⟨s_0, ⟨⟩⟩ := s
  simp only [Q_s_l3Fault] at hq
  have a2 := l3F_2 (s_0, PUnit.unit) t
  have a3 := l3F_3 (s_0, PUnit.unit) t
  have ar3 := l3F_r (s_0, PUnit.unit) t
  have an := all_allN (s_0, PUnit.unit) t
  repeat' (first | intro _ | apply And.intro)
  all_goals first | trivial | ((fail_if_success (refine lp_v (V := Unit) (fun _ => ⟨[], []⟩) (fun _ => True) (fun _ => 0) () ?_ ?_ ?_)); subst hR0 hg_F_s_l3Node hg_Q_s_l3Node hg_F_s_l3End hg_Q_s_l3End; (try simp only [Alg.std, F_s_l3Node, F_s_l3End, Q_s_l3Node, Q_s_l3End, F_s_l3Fault] at *); all_goals grind) | skip
  all_goals (
    refine lp_v (V := (Int)) (fun (i : Int) => ⟨[.dptr (.pair (.sl (.pair .str (.pair (.int .i64) .unit))) .unit) (s_0, PUnit.unit), .dat (.sl (.int .i64)) t, .junk, .junk, .junk, .dat (.int .i64) i, .junk, .junk, .junk, .junk, .junk, .junk, .junk, .junk, .junk, .junk, .junk, .junk, .junk, .junk, .junk, .junk, .junk, .junk, .junk, .junk, .junk, .junk, .junk, .junk, .junk, .junk, .junk], []⟩) (fun (i : Int) => ¬ (t.length < 1 ∨ t.length > 24) ∧ 0 ≤ i ∧ i ≤ t.length ∧ t.all (nodeB (s_0, PUnit.unit)) = (t.drop i.toNat).all (nodeB (s_0, PUnit.unit))) (fun (i : Int) => t.length - i.toNat) (0) rfl ?_ ?_
    · (subst hR0 hg_F_s_l3Node hg_Q_s_l3Node hg_F_s_l3End hg_Q_s_l3End; simp only [Alg.std, decide_eq_true_eq, decide_eq_false_iff_not] at *; refine ⟨by omega, by omega, by omega, rfl⟩)
    rintro i hf I hI
    replace hf : ¬ (t.length < 1 ∨ t.length > 24) ∧ 0 ≤ i ∧ i ≤ t.length ∧ t.all (nodeB (s_0, PUnit.unit)) = (t.drop i.toNat).all (nodeB (s_0, PUnit.unit)) := hf
    generalize hL : Lg.std = L
    generalize hA : Alg.std = A
    cbv
    subst hL hA
    try dsimp only [Ty.den]
    subst hI
    obtain ⟨h1, h2, h3, h4⟩ := hf
    have st := fun (h : i.toNat < t.length) => allp_step (nodeB (s_0, PUnit.unit)) t i.toNat h
    have es : (i + 1).toNat = i.toNat + 1 := by omega
    have en := fun (h : t.length ≤ i.toNat) => (by rw [List.drop_of_length_le h]; rfl : (t.drop i.toNat).all (nodeB (s_0, PUnit.unit)) = true)
    repeat' (first | intro _ | apply And.intro)
    all_goals first | (with_reducible exact True.intro) | ((fail_if_success (refine lp_v (V := Unit) (fun _ => ⟨[], []⟩) (fun _ => True) (fun _ => 0) () ?_ ?_ ?_)); (try simp only [Lg.std, Alg.std, List.drop_zero, List.take_length] at *); (try refine ⟨_, rfl, ?_, ?_⟩); (all_goals (subst hR0 hg_F_s_l3Node hg_Q_s_l3Node hg_F_s_l3End hg_Q_s_l3End; (try simp only [Lg.std, Alg.std, List.drop_zero, List.take_length, F_s_l3Node, F_s_l3End, Q_s_l3Node, Q_s_l3End, F_s_l3Fault] at *); first | done | (grind)))) | skip)
def con_s_l3Fault : Con := ⟨true, g2 (pP (.pair (.sl (.pair .str (.pair (.int .i64) .unit))) .unit)) (pD (.sl (.int .i64))) fun s t => .one ⟨[Q_s_l3Fault s t], [⟨(.int .i64), .sh, F_s_l3Fault s t⟩], []⟩, [], false, 0⟩
theorem ok_s_l3Fault : ConOk pg 92 con_s_l3Fault := ConOk.g2 (Enters.of (by kernel_rfl)) ct_s_l3Fault

def F_s_l5Read (s : (List ((List Int) × (Int) × Unit)) × Unit) (d : List (Int)) : List (Int) := l5R s d
def Q_s_l5Read (s : (List ((List Int) × (Int) × Unit)) × Unit) (d : List (Int)) : Prop := sigFault s = 0
def O_s_l5Read : Opt := ⟨fun i => false, fun i => (match decide (i = 3) with | true => [true, true, false, false, false, true, true, false, false, false, false, false, false, false, false, false, false, false, false, false, false, false, false, false, false, false, false, false, false, false, false, false, false, false, false, false, false, false, false, false] | false => []), fun i => .done, fun i => none, fun i => false, fun i => [], fun i => false, fun i => none⟩
def τ_s_l5Read : Env := Env.of [(2, (.int .i64)), (3, (.int .i64)), (4, .bool), (5, (.int .u8)), (22, (.sl (.int .u8))), (48, (.sl (.int .i64)))] [(86, (.pair (.sl (.pair .str (.pair (.int .i64) .unit))) .unit))] []

theorem ct_s_l5Read (s : (List ((List Int) × (Int) × Unit)) × Unit) (d : List (Int)) : Ct pg 62 [.dptr (.pair (.sl (.pair .str (.pair (.int .i64) .unit))) .unit) s, .dat (.sl (.int .u8)) d] ⟨[Q_s_l5Read s d], [⟨(.sl (.int .i64)), (.ow .sh), F_s_l5Read s d⟩], []⟩ := by
  refine ct_claim (O := O_s_l5Read) (τ := τ_s_l5Read) (EnvOk.of (by kernel_rfl) (by kernel_rfl)) (GOk.of (.cons ok_s_l5Node (.cons ok_s_l3Fault .nil) : AllOk pg [(91, con_s_l5Node), (92, con_s_l3Fault)])) mixed (Enters.of (by kernel_rfl)) (fn := Go.Proofs.Tryd.f62) (by kernel_rfl) rfl (by kernel_rfl) ?_
  intro hp hw
  have hq : Q_s_l5Read s d := hp _ (List.mem_singleton.2 rfl)
  clear hp
  change claim Lg.std Alg.std τ_s_l5Read (Gam.of [(91, ⟨true, g2 (pP (.pair (.sl (.pair .str (.pair (.int .i64) .unit))) .unit)) (pD (.int .u8)) fun s b => .one ⟨[Q_s_l5Node s b], [⟨(.int .i64), .sh, F_s_l5Node s b⟩, ⟨.bool, .sh, F_s_l5Node_1 s b⟩], []⟩, [], false, 0⟩), (92, ⟨true, g2 (pP (.pair (.sl (.pair .str (.pair (.int .i64) .unit))) .unit)) (pD (.sl (.int .i64))) fun s t => .one ⟨[Q_s_l3Fault s t], [⟨(.int .i64), .sh, F_s_l3Fault s t⟩], []⟩, [], false, 0⟩)]) O_s_l5Read Go.Proofs.Tryd.f62 [.dptr (.pair (.sl (.pair .str (.pair (.int .i64) .unit))) .unit) s, .dat (.sl (.int .u8)) d] ⟨[Q_s_l5Read s d], [⟨(.sl (.int .i64)), (.ow .sh), F_s_l5Read s d⟩], []⟩
  generalize hg_F_s_l5Node : F_s_l5Node = g_F_s_l5Node
  generalize hg_F_s_l5Node_1 : F_s_l5Node_1 = g_F_s_l5Node_1
  generalize hg_Q_s_l5Node : Q_s_l5Node = g_Q_s_l5Node
  generalize hg_F_s_l3Fault : F_s_l3Fault = g_F_s_l3Fault
  generalize hg_Q_s_l3Fault : Q_s_l3Fault = g_Q_s_l3Fault
  generalize hR0 : F_s_l5Read s d = R0
  generalize Q_s_l5Read s d = Q0
  generalize hL : Lg.std = L
  generalize hA : Alg.std = A
  cbv
  subst hL hA
  try dsimp only [Ty.den]
  obtain ⟨s_0, ⟨⟩⟩ := s
  simp only [Q_s_l5Read] at hq
  have hby := u8s hw.2.1.2
  refine lp_v (V := (Int) × (Nat) × (List Int)) (fun ((i, N, out) : (Int) × (Nat) × (List Int)) => ⟨[.dptr (.pair (.sl (.pair .str (.pair (.int .i64) .unit))) .unit) (s_0, PUnit.unit), .dat (.sl (.int .u8)) d, .junk, .junk, .junk, .ref (.int .i64) 0 0 [] 0 N, .dat (.int .i64) i, .junk, .junk, .junk, .junk, .junk, .junk, .junk, .junk, .junk, .junk, .junk, .junk, .junk, .junk, .junk, .junk, .junk, .junk, .junk, .junk, .junk, .junk, .junk, .junk, .junk, .junk, .junk, .junk, .junk, .junk, .junk, .junk, .junk], [some (.row 0 (.int .i64) .sh out)]⟩) (fun ((i, N, out) : (Int) × (Nat) × (List Int)) => 0 ≤ i ∧ i ≤ 24 ∧ N = out.length ∧ i.toNat = out.length ∧ l5L (s_0, PUnit.unit) (d.drop i.toNat) out = l5R (s_0, PUnit.unit) d) (fun ((i, N, out) : (Int) × (Nat) × (List Int)) => 24 - i.toNat) (0, _, _) rfl ?_ ?_
  · (subst hR0 hg_F_s_l5Node hg_F_s_l5Node_1 hg_Q_s_l5Node hg_F_s_l3Fault hg_Q_s_l3Fault; simp only [Alg.std] at *; exact ⟨by decide, by decide, rfl, rfl, rfl⟩)
  rintro ⟨i, N, out⟩ hf I hI
  replace hf : 0 ≤ i ∧ i ≤ 24 ∧ N = out.length ∧ i.toNat = out.length ∧ l5L (s_0, PUnit.unit) (d.drop i.toNat) out = l5R (s_0, PUnit.unit) d := hf
  generalize hL : Lg.std = L
  generalize hA : Alg.std = A
  cbv
  subst hL hA
  try dsimp only [Ty.den]
  subst hI
  obtain ⟨h1, h2, h3, h4, h5⟩ := hf
  have st := fun (h : i.toNat < d.length) => l5L_step (s_0, PUnit.unit) d i.toNat out h
  have en := fun (h : d.length ≤ i.toNat) => l5L_end (s_0, PUnit.unit) d i.toNat out h
  have fu := fun (h : 24 ≤ out.length) => l5L_full (s_0, PUnit.unit) (d.drop i.toNat) out h
  have es : (i + 1).toNat = i.toNat + 1 := by omega
  have hla : ∀ y, (out ++ [y]).length = out.length + 1 := by simp
  repeat' (first | intro _ | apply And.intro)
  all_goals first | (with_reducible exact True.intro) | ((fail_if_success (refine lp_v (V := Unit) (fun _ => ⟨[], []⟩) (fun _ => True) (fun _ => 0) () ?_ ?_ ?_)); (try simp only [Lg.std, Alg.std, List.drop_zero, List.take_length] at *); (try refine ⟨(_, _, _), rfl, ?_, ?_⟩); (all_goals (subst hR0 hg_F_s_l5Node hg_F_s_l5Node_1 hg_Q_s_l5Node hg_F_s_l3Fault hg_Q_s_l3Fault; (try simp only [Lg.std, Alg.std, List.drop_zero, List.take_length, F_s_l5Node, F_s_l3Fault, F_s_l5Node_1, Q_s_l5Node, Q_s_l3Fault, F_s_l5Read] at *); first | done | (grind)))) | skip
def con_s_l5Read : Con := ⟨true, g2 (pP (.pair (.sl (.pair .str (.pair (.int .i64) .unit))) .unit)) (pD (.sl (.int .u8))) fun s d => .one ⟨[Q_s_l5Read s d], [⟨(.sl (.int .i64)), (.ow .sh), F_s_l5Read s d⟩], []⟩, [], false, 0⟩
theorem ok_s_l5Read : ConOk pg 62 con_s_l5Read := ConOk.g2 (Enters.of (by kernel_rfl)) ct_s_l5Read

def F_s_UnpackTerm (s : (List ((List Int) × (Int) × Unit)) × Unit) (d : List (Int)) : (Int) × (List (Int)) × Unit := unpackTerm s d
def Q_s_UnpackTerm (s : (List ((List Int) × (Int) × Unit)) × Unit) (d : List (Int)) : Prop := True
def O_s_UnpackTerm : Opt := ⟨fun i => false, fun i => [], fun i => .done, fun i => none, fun i => false, fun i => [], fun i => false, fun i => none⟩
def τ_s_UnpackTerm : Env := Env.of [(2, (.int .i64)), (3, (.int .i64)), (4, .bool), (22, (.sl (.int .u8))), (32, (.pair (.sl (.pair .str (.pair (.int .i64) .unit))) .unit)), (48, (.sl (.int .i64))), (50, (.pair (.int .i64) (.pair (.sl (.int .i64)) .unit)))] [(86, (.pair (.sl (.pair .str (.pair (.int .i64) .unit))) .unit))] []

theorem ct_s_UnpackTerm (s : (List ((List Int) × (Int) × Unit)) × Unit) (d : List (Int)) : Ct pg 23 [.dat (.pair (.sl (.pair .str (.pair (.int .i64) .unit))) .unit) s, .dat (.sl (.int .u8)) d] ⟨[Q_s_UnpackTerm s d], [⟨(.pair (.int .i64) (.pair (.sl (.int .i64)) .unit)), (.pr .sh (.pr (.ow .sh) .sh)), F_s_UnpackTerm s d⟩], []⟩ := by
  refine ct_claim (O := O_s_UnpackTerm) (τ := τ_s_UnpackTerm) (EnvOk.of (by kernel_rfl) (by kernel_rfl)) (GOk.of (.cons ok_s_SignatureFault (.cons ok_s_l5Read .nil) : AllOk pg [(51, con_s_SignatureFault), (62, con_s_l5Read)])) mixed (Enters.of (by kernel_rfl)) (fn := Go.Proofs.Tryd.f23) (by kernel_rfl) rfl (by kernel_rfl) ?_
  intro hp hw
  have hq : Q_s_UnpackTerm s d := hp _ (List.mem_singleton.2 rfl)
  clear hp
  change claim Lg.std Alg.std τ_s_UnpackTerm (Gam.of [(51, ⟨true, g1 (pD (.pair (.sl (.pair .str (.pair (.int .i64) .unit))) .unit)) fun s => .one ⟨[Q_s_SignatureFault s], [⟨(.int .i64), .sh, F_s_SignatureFault s⟩], []⟩, [], false, 0⟩), (62, ⟨true, g2 (pP (.pair (.sl (.pair .str (.pair (.int .i64) .unit))) .unit)) (pD (.sl (.int .u8))) fun s d => .one ⟨[Q_s_l5Read s d], [⟨(.sl (.int .i64)), (.ow .sh), F_s_l5Read s d⟩], []⟩, [], false, 0⟩)]) O_s_UnpackTerm Go.Proofs.Tryd.f23 [.dat (.pair (.sl (.pair .str (.pair (.int .i64) .unit))) .unit) s, .dat (.sl (.int .u8)) d] ⟨[Q_s_UnpackTerm s d], [⟨(.pair (.int .i64) (.pair (.sl (.int .i64)) .unit)), (.pr .sh (.pr (.ow .sh) .sh)), F_s_UnpackTerm s d⟩], []⟩
  generalize hg_F_s_SignatureFault : F_s_SignatureFault = g_F_s_SignatureFault
  generalize hg_Q_s_SignatureFault : Q_s_SignatureFault = g_Q_s_SignatureFault
  generalize hg_F_s_l5Read : F_s_l5Read = g_F_s_l5Read
  generalize hg_Q_s_l5Read : Q_s_l5Read = g_Q_s_l5Read
  generalize hR0 : F_s_UnpackTerm s d = R0
  generalize Q_s_UnpackTerm s d = Q0
  generalize hL : Lg.std = L
  generalize hA : Alg.std = A
  cbv
  subst hL hA
  try dsimp only [Ty.den]
  obtain ⟨s_0, ⟨⟩⟩ := s
  have hl := fun h => l5R_len (s_0, PUnit.unit) d h (u8s hw.2.1.2)
  subst hR0 hg_F_s_SignatureFault hg_Q_s_SignatureFault hg_F_s_l5Read hg_Q_s_l5Read
  simp only [Lg.std, Alg.std, List.drop_zero, List.take_length, F_s_SignatureFault, F_s_l5Read, Q_s_SignatureFault, Q_s_l5Read, F_s_UnpackTerm, unpackTerm] at *
  all_goals grind
def con_s_UnpackTerm : Con := ⟨true, g2 (pD (.pair (.sl (.pair .str (.pair (.int .i64) .unit))) .unit)) (pD (.sl (.int .u8))) fun s d => .one ⟨[Q_s_UnpackTerm s d], [⟨(.pair (.int .i64) (.pair (.sl (.int .i64)) .unit)), (.pr .sh (.pr (.ow .sh) .sh)), F_s_UnpackTerm s d⟩], []⟩, [], false, 0⟩
theorem ok_s_UnpackTerm : ConOk pg 23 con_s_UnpackTerm := ConOk.g2 (Enters.of (by kernel_rfl)) ct_s_UnpackTerm

def F_i_UnpackTerm (s : (List ((List Int) × (Int) × Unit)) × Unit) (d : List (Int)) : (Int) × (List (Int)) × Unit := unpackTerm s d
def Q_i_UnpackTerm (s : (List ((List Int) × (Int) × Unit)) × Unit) (d : List (Int)) : Prop := True
def O_i_UnpackTerm : Opt := ⟨fun i => false, fun i => [], fun i => .done, fun i => none, fun i => false, fun i => [], fun i => false, fun i => none⟩
def τ_i_UnpackTerm : Env := Env.of [(2, (.int .i64)), (4, .bool), (22, (.sl (.int .u8))), (32, (.pair (.sl (.pair .str (.pair (.int .i64) .unit))) .unit)), (48, (.sl (.int .i64))), (50, (.pair (.int .i64) (.pair (.sl (.int .i64)) .unit))), (81, (.pair (.sl (.int .u8)) (.pair .bool .unit)))] [(79, (.pair (.sl (.int .u8)) (.pair .bool .unit)))] []

theorem ct_i_UnpackTerm (s : (List ((List Int) × (Int) × Unit)) × Unit) (d : List (Int)) : Ct pg 25 [.dat (.pair (.sl (.pair .str (.pair (.int .i64) .unit))) .unit) s, .dat (.sl (.int .u8)) d] ⟨[Q_i_UnpackTerm s d], [⟨(.pair (.int .i64) (.pair (.sl (.int .i64)) .unit)), (.pr .sh (.pr (.ow .sh) .sh)), F_i_UnpackTerm s d⟩], []⟩ := by
  refine ct_claim (O := O_i_UnpackTerm) (τ := τ_i_UnpackTerm) (EnvOk.of (by kernel_rfl) (by kernel_rfl)) (GOk.of (.cons ok_i_byteReader_ended (.cons ok_i_SignatureFault (.cons ok_i_byteReader_term .nil)) : AllOk pg [(65, con_i_byteReader_ended), (55, con_i_SignatureFault), (64, con_i_byteReader_term)])) mixed (Enters.of (by kernel_rfl)) (fn := Go.Proofs.Tryd.f25) (by kernel_rfl) rfl (by kernel_rfl) ?_
  intro hp hw
  have hq : Q_i_UnpackTerm s d := hp _ (List.mem_singleton.2 rfl)
  clear hp
  change claim Lg.std Alg.std τ_i_UnpackTerm (Gam.of [(65, ⟨true, g1 (pP (.pair (.sl (.int .u8)) (.pair .bool .unit))) fun r => .one ⟨[Q_i_byteReader_ended r], [⟨.bool, .sh, F_i_byteReader_ended r⟩], []⟩, [], false, 0⟩), (55, ⟨true, g1 (pD (.pair (.sl (.pair .str (.pair (.int .i64) .unit))) .unit)) fun s => .one ⟨[Q_i_SignatureFault s], [⟨(.int .i64), .sh, F_i_SignatureFault s⟩], []⟩, [], false, 0⟩), (64, ⟨true, g2 (pW (.pair (.sl (.int .u8)) (.pair .bool .unit)) .sh) (pD (.pair (.sl (.pair .str (.pair (.int .i64) .unit))) .unit)) fun r s => .one ⟨[Q_i_byteReader_term r s], [⟨(.sl (.int .i64)), (.ow .sh), F_i_byteReader_term r s⟩], [.mp (.pair (.sl (.int .u8)) (.pair .bool .unit)) .sh (B_i_byteReader_term_r r s)]⟩, [.sh], false, 0⟩)]) O_i_UnpackTerm Go.Proofs.Tryd.f25 [.dat (.pair (.sl (.pair .str (.pair (.int .i64) .unit))) .unit) s, .dat (.sl (.int .u8)) d] ⟨[Q_i_UnpackTerm s d], [⟨(.pair (.int .i64) (.pair (.sl (.int .i64)) .unit)), (.pr .sh (.pr (.ow .sh) .sh)), F_i_UnpackTerm s d⟩], []⟩
  generalize hg_F_i_byteReader_ended : F_i_byteReader_ended = g_F_i_byteReader_ended
  generalize hg_Q_i_byteReader_ended : Q_i_byteReader_ended = g_Q_i_byteReader_ended
  generalize hg_F_i_SignatureFault : F_i_SignatureFault = g_F_i_SignatureFault
  generalize hg_Q_i_SignatureFault : Q_i_SignatureFault = g_Q_i_SignatureFault
  generalize hg_F_i_byteReader_term : F_i_byteReader_term = g_F_i_byteReader_term
  generalize hg_B_i_byteReader_term_r : B_i_byteReader_term_r = g_B_i_byteReader_term_r
  generalize hg_Q_i_byteReader_term : Q_i_byteReader_term = g_Q_i_byteReader_term
  generalize hR0 : F_i_UnpackTerm s d = R0
  generalize Q_i_UnpackTerm s d = Q0
  generalize hL : Lg.std = L
  generalize hA : Alg.std = A
  cbv
  subst hL hA
  try dsimp only [Ty.den]
  obtain ⟨s_0, ⟨⟩⟩ := s
  generalize k1 : g_B_i_byteReader_term_r (d, false, PUnit.unit) (s_0, PUnit.unit) = rk at *
  obtain ⟨x, f, ⟨⟩⟩ := rk
  try dsimp only
  generalize k2 : g_F_i_byteReader_term (d, false, PUnit.unit) (s_0, PUnit.unit) = t at *
  have hus := fun h h2 => unpack_same (s_0, PUnit.unit) h d (u8s hw.2.1.2) t x f h2
  have hu0 : sigFault (s_0, PUnit.unit) ≠ 0 → unpackTerm (s_0, PUnit.unit) d = (sigFault (s_0, PUnit.unit), [], ()) := fun h => by unfold unpackTerm; exact if_pos h
  subst hR0 hg_F_i_byteReader_ended hg_Q_i_byteReader_ended hg_F_i_SignatureFault hg_Q_i_SignatureFault hg_F_i_byteReader_term hg_B_i_byteReader_term_r hg_Q_i_byteReader_term
  simp only [Lg.std, Alg.std, List.drop_zero, List.take_length, F_i_byteReader_ended, F_i_SignatureFault, F_i_byteReader_term, B_i_byteReader_term_r, Q_i_byteReader_ended, Q_i_SignatureFault, Q_i_byteReader_term, F_i_UnpackTerm] at *
  have hz : termRd (s_0, PUnit.unit) (d, false, PUnit.unit) = (t, (x, f, PUnit.unit)) := by rw [← k1, ← k2]
  replace hus := fun h => hus h hz
  clear hz k1 k2
  all_goals grind
def con_i_UnpackTerm : Con := ⟨true, g2 (pD (.pair (.sl (.pair .str (.pair (.int .i64) .unit))) .unit)) (pD (.sl (.int .u8))) fun s d => .one ⟨[Q_i_UnpackTerm s d], [⟨(.pair (.int .i64) (.pair (.sl (.int .i64)) .unit)), (.pr .sh (.pr (.ow .sh) .sh)), F_i_UnpackTerm s d⟩], []⟩, [], false, 0⟩
theorem ok_i_UnpackTerm : ConOk pg 25 con_i_UnpackTerm := ConOk.g2 (Enters.of (by kernel_rfl)) ct_i_UnpackTerm

def F_w_FnExactUnpackTerm (s : (List ((List Int) × (Int) × Unit)) × Unit) (d : List (Int)) : Bool := true
def Q_w_FnExactUnpackTerm (s : (List ((List Int) × (Int) × Unit)) × Unit) (d : List (Int)) : Prop := True
def O_w_FnExactUnpackTerm : Opt := ⟨fun i => false, fun i => [], fun i => (match decide (i = 13) with | true => (.alt 0 (.alt 1 (.alt 2 (.alt 3 (.take 4 .done) .no) .no) .no) (.alt 1 (.alt 0 (.alt 2 (.alt 3 (.take 4 .done) .no) .no) (.alt 2 (.take 0 (.alt 3 (.take 4 .done) .no)) .no)) .no)) | false => .done), fun i => (match decide (i = 13) with | true => some [false, true, true, false, false, false, true, true, true, true, false, false, false, false, false, false, false, false, false, false, false, false, false, false, false, false, false, false, false, false, false, false, false, false, false, false, false, false, false, false, false, false, true, false, false, false, false, false, false, false, false, false, false, false, false, false, false, false, false, false, false, false, false, false, false, false, false, false, false, false, false, false, false, false, false, false, false, false, false, false, false, false, false, false, false, false, false, false, false, false] | false => none), fun i => false, fun i => [], fun i => false, fun i => none⟩
def τ_w_FnExactUnpackTerm : Env := Env.of [(3, (.int .i64)), (4, .bool), (22, (.sl (.int .u8))), (25, (.pair (.sl (.pair .str (.pair (.int .i64) .unit))) .unit)), (32, (.pair (.sl (.pair .str (.pair (.int .i64) .unit))) .unit)), (50, (.pair (.int .i64) (.pair (.sl (.int .i64)) .unit)))] [] []

theorem ct_w_FnExactUnpackTerm (s : (List ((List Int) × (Int) × Unit)) × Unit) (d : List (Int)) : Ct pg 5 [.dat (.pair (.sl (.pair .str (.pair (.int .i64) .unit))) .unit) s, .dat (.sl (.int .u8)) d] ⟨[Q_w_FnExactUnpackTerm s d], [⟨.bool, .sh, F_w_FnExactUnpackTerm s d⟩], []⟩ := by
  refine ct_claim (O := O_w_FnExactUnpackTerm) (τ := τ_w_FnExactUnpackTerm) (EnvOk.of (by kernel_rfl) (by kernel_rfl)) (GOk.of (.cons ok_w_toByteS (.cons ok_w_eqByteS (.cons ok_w_markByteS (.cons ok_w_toSignature (.cons ok_w_eqSignature (.cons ok_w_szSignature (.cons ok_w_markSignature (.cons ok_w_eqTermResult (.cons ok_w_markTermResult (.cons ok_w_heldTermResult (.cons ok_s_UnpackTerm (.cons ok_i_UnpackTerm .nil))))))))))) : AllOk pg [(15, con_w_toByteS), (18, con_w_eqByteS), (19, con_w_markByteS), (24, con_w_toSignature), (27, con_w_eqSignature), (22, con_w_szSignature), (28, con_w_markSignature), (26, con_w_eqTermResult), (29, con_w_markTermResult), (30, con_w_heldTermResult), (23, con_s_UnpackTerm), (25, con_i_UnpackTerm)])) mixed (Enters.of (by kernel_rfl)) (fn := Go.Proofs.Tryd.f5) (by kernel_rfl) rfl (by kernel_rfl) ?_
  intro hp hw
  have hq : Q_w_FnExactUnpackTerm s d := hp _ (List.mem_singleton.2 rfl)
  clear hp
  change claim Lg.std Alg.std τ_w_FnExactUnpackTerm (Gam.of [(15, ⟨true, g1 (pD (.sl (.int .u8))) fun a => .one ⟨[Q_w_toByteS a], [⟨(.sl (.int .u8)), (.ow .sh), F_w_toByteS a⟩], []⟩, [], false, 0⟩), (18, ⟨true, g2 (pD (.sl (.int .u8))) (pD (.sl (.int .u8))) fun a b => .one ⟨[Q_w_eqByteS a b], [⟨.bool, .sh, F_w_eqByteS a b⟩], []⟩, [], false, 0⟩), (19, ⟨true, g2 (pV (.sl (.int .u8)) (.ow .sh)) (pD (.int .i64)) fun a k => .one ⟨[Q_w_markByteS a k], [⟨(.int .i64), .sh, F_w_markByteS a k⟩], [.mv (.sl (.int .u8)) (.ow .sh) (B_w_markByteS_a a k)]⟩, [(.ow .sh)], false, 0⟩), (24, ⟨true, g1 (pD (.pair (.sl (.pair .str (.pair (.int .i64) .unit))) .unit)) fun a => .one ⟨[Q_w_toSignature a], [⟨(.pair (.sl (.pair .str (.pair (.int .i64) .unit))) .unit), (.pr (.ow (.pr .sh (.pr .sh .sh))) .sh), F_w_toSignature a⟩], []⟩, [], false, 0⟩), (27, ⟨true, g2 (pD (.pair (.sl (.pair .str (.pair (.int .i64) .unit))) .unit)) (pD (.pair (.sl (.pair .str (.pair (.int .i64) .unit))) .unit)) fun a b => .one ⟨[Q_w_eqSignature a b], [⟨.bool, .sh, F_w_eqSignature a b⟩], []⟩, [], false, 0⟩), (22, ⟨true, g2 (pD (.pair (.sl (.pair .str (.pair (.int .i64) .unit))) .unit)) (pD (.int .i64)) fun a left => .one ⟨[Q_w_szSignature a left], [⟨(.int .i64), .sh, F_w_szSignature a left⟩], []⟩, [], false, 0⟩), (28, ⟨true, g2 (pV (.pair (.sl (.pair .str (.pair (.int .i64) .unit))) .unit) (.pr (.ow (.pr .sh (.pr .sh .sh))) .sh)) (pD (.int .i64)) fun a k => .one ⟨[Q_w_markSignature a k], [⟨(.int .i64), .sh, F_w_markSignature a k⟩], [.mv (.pair (.sl (.pair .str (.pair (.int .i64) .unit))) .unit) (.pr (.ow (.pr .sh (.pr .sh .sh))) .sh) (B_w_markSignature_a a k)]⟩, [(.pr (.ow (.pr .sh (.pr .sh .sh))) .sh)], false, 0⟩), (26, ⟨true, g2 (pD (.pair (.int .i64) (.pair (.sl (.int .i64)) .unit))) (pD (.pair (.int .i64) (.pair (.sl (.int .i64)) .unit))) fun a b => .one ⟨[Q_w_eqTermResult a b], [⟨.bool, .sh, F_w_eqTermResult a b⟩], []⟩, [], false, 0⟩), (29, ⟨true, g2 (pV (.pair (.int .i64) (.pair (.sl (.int .i64)) .unit)) (.pr .sh (.pr (.ow .sh) .sh))) (pD (.int .i64)) fun a k => .one ⟨[Q_w_markTermResult a k], [⟨(.int .i64), .sh, F_w_markTermResult a k⟩], [.mv (.pair (.int .i64) (.pair (.sl (.int .i64)) .unit)) (.pr .sh (.pr (.ow .sh) .sh)) (B_w_markTermResult_a a k)]⟩, [(.pr .sh (.pr (.ow .sh) .sh))], false, 0⟩), (30, ⟨true, g2 (pD (.pair (.int .i64) (.pair (.sl (.int .i64)) .unit))) (pD (.int .i64)) fun a k => .one ⟨[Q_w_heldTermResult a k], [⟨(.int .i64), .sh, F_w_heldTermResult a k⟩], []⟩, [], false, 0⟩), (23, ⟨true, g2 (pD (.pair (.sl (.pair .str (.pair (.int .i64) .unit))) .unit)) (pD (.sl (.int .u8))) fun s d => .one ⟨[Q_s_UnpackTerm s d], [⟨(.pair (.int .i64) (.pair (.sl (.int .i64)) .unit)), (.pr .sh (.pr (.ow .sh) .sh)), F_s_UnpackTerm s d⟩], []⟩, [], false, 0⟩), (25, ⟨true, g2 (pD (.pair (.sl (.pair .str (.pair (.int .i64) .unit))) .unit)) (pD (.sl (.int .u8))) fun s d => .one ⟨[Q_i_UnpackTerm s d], [⟨(.pair (.int .i64) (.pair (.sl (.int .i64)) .unit)), (.pr .sh (.pr (.ow .sh) .sh)), F_i_UnpackTerm s d⟩], []⟩, [], false, 0⟩)]) O_w_FnExactUnpackTerm Go.Proofs.Tryd.f5 [.dat (.pair (.sl (.pair .str (.pair (.int .i64) .unit))) .unit) s, .dat (.sl (.int .u8)) d] ⟨[Q_w_FnExactUnpackTerm s d], [⟨.bool, .sh, F_w_FnExactUnpackTerm s d⟩], []⟩
  generalize hg_F_w_toByteS : F_w_toByteS = g_F_w_toByteS
  generalize hg_Q_w_toByteS : Q_w_toByteS = g_Q_w_toByteS
  generalize hg_F_w_eqByteS : F_w_eqByteS = g_F_w_eqByteS
  generalize hg_Q_w_eqByteS : Q_w_eqByteS = g_Q_w_eqByteS
  generalize hg_F_w_markByteS : F_w_markByteS = g_F_w_markByteS
  generalize hg_B_w_markByteS_a : B_w_markByteS_a = g_B_w_markByteS_a
  generalize hg_Q_w_markByteS : Q_w_markByteS = g_Q_w_markByteS
  generalize hg_F_w_toSignature : F_w_toSignature = g_F_w_toSignature
  generalize hg_Q_w_toSignature : Q_w_toSignature = g_Q_w_toSignature
  generalize hg_F_w_eqSignature : F_w_eqSignature = g_F_w_eqSignature
  generalize hg_Q_w_eqSignature : Q_w_eqSignature = g_Q_w_eqSignature
  generalize hg_F_w_szSignature : F_w_szSignature = g_F_w_szSignature
  generalize hg_Q_w_szSignature : Q_w_szSignature = g_Q_w_szSignature
  generalize hg_F_w_markSignature : F_w_markSignature = g_F_w_markSignature
  generalize hg_B_w_markSignature_a : B_w_markSignature_a = g_B_w_markSignature_a
  generalize hg_Q_w_markSignature : Q_w_markSignature = g_Q_w_markSignature
  generalize hg_F_w_eqTermResult : F_w_eqTermResult = g_F_w_eqTermResult
  generalize hg_Q_w_eqTermResult : Q_w_eqTermResult = g_Q_w_eqTermResult
  generalize hg_F_w_markTermResult : F_w_markTermResult = g_F_w_markTermResult
  generalize hg_B_w_markTermResult_a : B_w_markTermResult_a = g_B_w_markTermResult_a
  generalize hg_Q_w_markTermResult : Q_w_markTermResult = g_Q_w_markTermResult
  generalize hg_F_w_heldTermResult : F_w_heldTermResult = g_F_w_heldTermResult
  generalize hg_Q_w_heldTermResult : Q_w_heldTermResult = g_Q_w_heldTermResult
  generalize hg_F_s_UnpackTerm : F_s_UnpackTerm = g_F_s_UnpackTerm
  generalize hg_Q_s_UnpackTerm : Q_s_UnpackTerm = g_Q_s_UnpackTerm
  generalize hg_F_i_UnpackTerm : F_i_UnpackTerm = g_F_i_UnpackTerm
  generalize hg_Q_i_UnpackTerm : Q_i_UnpackTerm = g_Q_i_UnpackTerm
  generalize hR0 : F_w_FnExactUnpackTerm s d = R0
  generalize Q_w_FnExactUnpackTerm s d = Q0
  generalize hL : Lg.std = L
  generalize hA : Alg.std = A
  cbv
  subst hL hA
  try dsimp only [Ty.den]
  obtain ⟨s_0, ⟨⟩⟩ := s
  have hct_s := cnt_tot (.pair (.sl (.pair .str (.pair (.int .i64) .unit))) .unit) (s_0, PUnit.unit) (by decide)
  have hct_d := cnt_tot (.sl (.int .u8)) d (by decide)
  have hul := unpackTerm_len (s_0, PUnit.unit) d (u8s hw.2.1.2)
  have hc0 : cnt false (.pair (.int .i64) (.pair (.sl (.int .i64)) .unit)) (unpackTerm (s_0, PUnit.unit) d) ≤ 100 := by
    simp only [szf, tot_p, tot_u, tot_i, tot_b, tot_s, cnt_p, cnt_u, cnt_i0, cnt_b0, cnt_s0, cnt_i1, cnt_b1, cnt_s1, cnt_l, mk_p, mk_u, mk_i0, mk_b0, mk_s0, mk_i1, mk_s1, mk_l, hd_p, hd_u, hd_i0, hd_b0, hd_s0, hd_i1, hd_b1, hd_s1, hd_l, cnt_int]
    omega
  have htp : tot (.sl (.int .u8)) d = d.length := tot_int .u8 d
  subst hR0 hg_F_w_toByteS hg_Q_w_toByteS hg_F_w_eqByteS hg_Q_w_eqByteS hg_F_w_markByteS hg_B_w_markByteS_a hg_Q_w_markByteS hg_F_w_toSignature hg_Q_w_toSignature hg_F_w_eqSignature hg_Q_w_eqSignature hg_F_w_szSignature hg_Q_w_szSignature hg_F_w_markSignature hg_B_w_markSignature_a hg_Q_w_markSignature hg_F_w_eqTermResult hg_Q_w_eqTermResult hg_F_w_markTermResult hg_B_w_markTermResult_a hg_Q_w_markTermResult hg_F_w_heldTermResult hg_Q_w_heldTermResult hg_F_s_UnpackTerm hg_Q_s_UnpackTerm hg_F_i_UnpackTerm hg_Q_i_UnpackTerm
  simp only [Lg.std, Alg.std, List.drop_zero, List.take_length, F_w_toByteS, F_w_eqByteS, F_w_markByteS, F_w_toSignature, F_w_eqSignature, F_w_szSignature, F_w_markSignature, F_w_eqTermResult, F_w_markTermResult, F_w_heldTermResult, F_s_UnpackTerm, F_i_UnpackTerm, B_w_markByteS_a, B_w_markSignature_a, B_w_markTermResult_a, Q_w_toByteS, Q_w_eqByteS, Q_w_markByteS, Q_w_toSignature, Q_w_eqSignature, Q_w_szSignature, Q_w_markSignature, Q_w_eqTermResult, Q_w_markTermResult, Q_w_heldTermResult, Q_s_UnpackTerm, Q_i_UnpackTerm, F_w_FnExactUnpackTerm]
  generalize hW : (unpackTerm (s_0, PUnit.unit) d : (Int) × (List (Int)) × Unit) = w at *
  clear hW
  obtain ⟨w_0, w_1, ⟨⟩⟩ := w
  try dsimp only at *
  have hm := hd_mk false (.pair (.int .i64) (.pair (.sl (.int .i64)) .unit)) (w_0, w_1, PUnit.unit) 1 (by omega)

  have mt_w_1 := fun k => mk_take false (.int .i64) w_1 k
  dsimp only [Ty.den] at mt_w_1
  simp only [tot_p, tot_u, tot_i, tot_b, tot_s, cnt_p, cnt_u, cnt_i0, cnt_b0, cnt_s0, cnt_i1, cnt_b1, cnt_s1, cnt_l, mk_p, mk_u, mk_i0, mk_b0, mk_s0, mk_i1, mk_s1, mk_l, hd_p, hd_u, hd_i0, hd_b0, hd_s0, hd_i1, hd_b1, hd_s1, hd_l, mt_w_1] at *
  repeat' (first | intro _ | apply And.intro)
  all_goals grind [szf, cnt_mk, hd_mk]
def con_w_FnExactUnpackTerm : Con := ⟨true, g2 (pD (.pair (.sl (.pair .str (.pair (.int .i64) .unit))) .unit)) (pD (.sl (.int .u8))) fun s d => .one ⟨[Q_w_FnExactUnpackTerm s d], [⟨.bool, .sh, F_w_FnExactUnpackTerm s d⟩], []⟩, [], false, 0⟩
theorem ok_w_FnExactUnpackTerm : ConOk pg 5 con_w_FnExactUnpackTerm := ConOk.g2 (Enters.of (by kernel_rfl)) ct_w_FnExactUnpackTerm
end Go.Vee
