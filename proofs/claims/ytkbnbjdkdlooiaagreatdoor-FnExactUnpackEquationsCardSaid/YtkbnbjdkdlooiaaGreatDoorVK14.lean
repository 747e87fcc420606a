/-
  Contracts of functions of the program: what each returns for all arguments that its precondition lets in.
-/
import Derived.Test.YtkbnbjdkdlooiaaGreatDoorVK13
set_option linter.unusedSimpArgs false
set_option linter.unusedVariables false
set_option maxRecDepth 100000
set_option maxHeartbeats 4000000
set_option synthInstance.maxHeartbeats 4000000
set_option synthInstance.maxSize 20000000
namespace Go.Vee
open Go
abbrev EqT := List Int × List Int × Unit
def low (t : List Int) : Bool := t.all fun n => decide (-6 ≤ n)
def eqF (s : SigT) (e : EqT) : Int := if l3F s e.1 ≠ 0 then l3F s e.1 else if l3F s e.2.1 ≠ 0 then l3F s e.2.1 else if low e.1 = false ∨ low e.2.1 = false then 3 else 0
def eqFault (s : SigT) (e : EqT) : Int := if sigFault s ≠ 0 then sigFault s else eqF s e
def eqsBad (s : SigT) : List EqT → Int
  | [] => 0
  | e :: l => if eqF s e ≠ 0 then eqF s e else eqsBad s l
def eqsFault (s : SigT) (l : List EqT) : Int := if sigFault s ≠ 0 then sigFault s else if l.length > 12 then 2 else eqsBad s l
theorem eqsBad_step (s : SigT) (l : List EqT) (i : Nat) (h : i < l.length) : eqsBad s (l.drop i) = if eqF s (l.getD i ([], [], PUnit.unit)) ≠ 0 then eqF s (l.getD i ([], [], PUnit.unit)) else eqsBad s (l.drop (i + 1)) := by
  rw [drop_cons l ([], [], PUnit.unit) i h]; rfl
theorem eqsBad_end (s : SigT) (l : List EqT) (i : Nat) (h : l.length ≤ i) : eqsBad s (l.drop i) = 0 := by rw [List.drop_of_length_le h]; rfl
theorem eqsBad_zero (s : SigT) : ∀ (l : List EqT), eqsBad s l = 0 ↔ ∀ e ∈ l, eqF s e = 0
  | [] => by simp [eqsBad]
  | x :: l => by
    unfold eqsBad
    have ih := eqsBad_zero s l
    by_cases h : eqF s x = 0
    · rw [if_neg (by simpa using h), ih]
      simp [h]
    · rw [if_pos h]
      simp [h]
/-- The numbers of a term's variables. -/
def negs (t : List Int) : List Int := (t.filter fun n => decide (n < 0)).map fun n => -1 - n
def negsL (ts : List (List Int)) : List Int := (ts.map negs).flatten
theorem negs_step (t : List Int) (i : Nat) (h : i < t.length) : negs (t.drop i) = if t.getD i 0 < 0 then (-1 - t.getD i 0) :: negs (t.drop (i + 1)) else negs (t.drop (i + 1)) := by
  rw [drop_cons t 0 i h]
  unfold negs
  rw [List.filter_cons]
  by_cases c : t.getD i 0 < 0
  · rw [if_pos c, if_pos (by simpa using c)]; rfl
  · rw [if_neg c, if_neg (by simpa using c)]
theorem negs_end (t : List Int) (i : Nat) (h : t.length ≤ i) : negs (t.drop i) = [] := by rw [List.drop_of_length_le h]; rfl
theorem negsL_step (ts : List (List Int)) (i : Nat) (h : i < ts.length) : negsL (ts.drop i) = negs (ts.getD i []) ++ negsL (ts.drop (i + 1)) := by
  rw [drop_cons ts [] i h]; rfl
theorem negsL_end (ts : List (List Int)) (i : Nat) (h : ts.length ≤ i) : negsL (ts.drop i) = [] := by rw [List.drop_of_length_le h]; rfl
theorem negs_any (t : List Int) : (negs t).any (fun v => decide (6 ≤ v)) = !low t := by
  unfold negs low
  induction t with
  | nil => rfl
  | cons x t ih =>
    rw [List.filter_cons, List.all_cons, Bool.not_and, ← ih]
    by_cases c : x < 0
    · rw [if_pos (by simpa using c), List.map_cons, List.any_cons]
      congr 1
      by_cases d : -6 ≤ x
      · simp [d]; omega
      · simp [d]; omega
    · rw [if_neg (by simpa using c)]
      have : decide (-6 ≤ x) = true := by simp; omega
      rw [this]; simp
def varsI (ts : List (List Int)) : List Int := compI (sortI (negsL ts))
theorem any_mem {p : Int → Bool} {a b : List Int} (h : ∀ v, v ∈ a ↔ v ∈ b) : a.any p = b.any p := by
  cases ha : a.any p with
  | true =>
    obtain ⟨x, h1, h2⟩ := List.any_eq_true.1 ha
    exact (List.any_eq_true.2 ⟨x, (h x).1 h1, h2⟩).symm
  | false =>
    cases hb : b.any p with
    | false => rfl
    | true =>
      obtain ⟨x, h1, h2⟩ := List.any_eq_true.1 hb
      rw [List.any_eq_true.2 ⟨x, (h x).2 h1, h2⟩] at ha
      cases ha
theorem varsI_two (a b : List Int) : (varsI [a, b]).any (fun v => decide (6 ≤ v)) = !(low a && low b) := by
  have h1 : (varsI [a, b]).any (fun v => decide (6 ≤ v)) = (negs a ++ negs b).any (fun v => decide (6 ≤ v)) := any_mem fun v => by
    unfold varsI
    rw [compI_mem]
    have : v ∈ sortI (negsL [a, b]) ↔ v ∈ negsL [a, b] := (List.mergeSort_perm _ _).mem_iff
    rw [this]
    simp [negsL]
  rw [h1, List.any_append, negs_any, negs_any]
  cases low a <;> cases low b <;> rfl
def okT (t : List Int) : Prop := t.length ≤ 24 ∧ ∀ i, i < t.length → -12 ≤ t.getD i 0 ∧ t.getD i 0 ≤ 64
def okE (e : EqT) : Prop := okT e.1 ∧ okT e.2.1
theorem okE_rng (e : EqT) (h : okE e) : (∀ k : Nat, k < e.1.length → -12 ≤ e.1.getD k 0 ∧ e.1.getD k 0 ≤ 64) ∧ (∀ k : Nat, k < e.2.1.length → -12 ≤ e.2.1.getD k 0 ∧ e.2.1.getD k 0 ≤ 64) := ⟨h.1.2, h.2.2⟩
theorem okE_len (e : EqT) (h : okE e) : e.1.length ≤ 24 ∧ e.2.1.length ≤ 24 := ⟨h.1.1, h.2.1⟩
def qEqs (l : List EqT) : Prop := l.length ≤ 300 ∧ ∀ i, i < l.length → okE (l.getD i ([], [], PUnit.unit))
theorem l3F_okT (s : SigT) (hs : sigFault s = 0) (t : List Int) (h : l3F s t = 0) : okT t := by
  obtain ⟨h1, h2, _⟩ := l3F_ok s t h
  refine ⟨h1.2, fun i hi => ?_⟩
  have := List.all_eq_true.1 h2 _ (getD_mem t 0 i hi)
  have hl := (sig_good s hs).1
  simp only [nodeB, isSym, Bool.or_eq_true, decide_eq_true_eq] at this
  omega
theorem eqs_q (s : SigT) (hs : sigFault s = 0) (l : List EqT) (h : eqsFault s l = 0) : qEqs l := by
  unfold eqsFault at h
  rw [if_neg (by simpa using hs)] at h
  split at h
  · cases h
  rename_i h1
  refine ⟨by omega, fun i hi => ?_⟩
  have he := (eqsBad_zero s l).1 h _ (getD_mem l ([], [], PUnit.unit) i hi)
  have hp : l3F s (l.getD i ([], [], PUnit.unit)).1 = 0 ∧ l3F s (l.getD i ([], [], PUnit.unit)).2.1 = 0 := by
    unfold eqF at he
    split at he
    · omega
    split at he
    · omega
    omega
  exact ⟨l3F_okT s hs _ hp.1, l3F_okT s hs _ hp.2⟩
def qVars (ts : List (List Int)) : Prop := ts.length ≤ 2 ∧ ∀ i, i < ts.length → (ts.getD i []).length ≤ 24
def packT (t : List Int) : List Int := t.map fun n => (if n < 0 then 31 - n else n + 1) % 256
theorem packT_step (t : List Int) (i : Nat) (h : i < t.length) : packT (t.drop i) = (if t.getD i 0 < 0 then 31 - t.getD i 0 else t.getD i 0 + 1) % 256 :: packT (t.drop (i + 1)) := by
  rw [drop_cons t 0 i h]; rfl
theorem packT_end (t : List Int) (i : Nat) (h : t.length ≤ i) : packT (t.drop i) = [] := by rw [List.drop_of_length_le h]; rfl
theorem packT_len (t : List Int) : (packT t).length = t.length := by simp [packT]
def packE (e : EqT) : List Int := packT e.1 ++ packT e.2.1
def pkEqs (l : List EqT) : List Int := (l.map packE).flatten
def packEqs (l : List EqT) : List Int := (l.length : Int) % 256 :: pkEqs l
theorem pkEqs_step (l : List EqT) (i : Nat) (h : i < l.length) : pkEqs (l.drop i) = packT (l.getD i ([], [], PUnit.unit)).1 ++ (packT (l.getD i ([], [], PUnit.unit)).2.1 ++ pkEqs (l.drop (i + 1))) := by
  rw [drop_cons l ([], [], PUnit.unit) i h, ← List.append_assoc]; rfl
theorem pkEqs_end (l : List EqT) (i : Nat) (h : l.length ≤ i) : pkEqs (l.drop i) = [] := by rw [List.drop_of_length_le h]; rfl
/-- What is read is what is packed. -/
theorem pack_node (s : SigT) (b : Int) (h : 0 ≤ b ∧ b ≤ 255) (hok : okB s b = true) : (if nodeOf b < 0 then 31 - nodeOf b else nodeOf b + 1) % 256 = b := by
  have h0 := (okB_node s b h.1).1 hok
  unfold nodeOf
  split <;> split <;> omega
theorem l5L_pack (s : SigT) : ∀ (l out : List Int), (∀ x ∈ l, 0 ≤ x ∧ x ≤ 255) → l5L s l out ≠ [] → ∃ es, l5L s l out = out ++ es ∧ packT es = l.take es.length ∧ es.length ≤ l.length
  | [], out, _, h => absurd rfl h
  | b :: l, out, hb, h => by
    unfold l5L at h ⊢
    by_cases c1 : 24 ≤ out.length
    · rw [if_pos c1] at h; exact absurd rfl h
    rw [if_neg c1] at h ⊢
    by_cases c2 : okB s b = false
    · rw [if_pos c2] at h; exact absurd rfl h
    rw [if_neg c2] at h ⊢
    have hp := pack_node s b (hb b (by simp)) (by simpa using c2)
    by_cases c3 : l3F s (out ++ [nodeOf b]) = 0
    · rw [if_pos c3] at h ⊢
      exact ⟨[nodeOf b], rfl, by simp [packT, hp], by simp⟩
    · rw [if_neg c3] at h ⊢
      obtain ⟨es, e1, e2, e3⟩ := l5L_pack s l _ (fun x hx => hb x (by simp [hx])) h
      refine ⟨nodeOf b :: es, by rw [e1]; simp, ?_, by simp; omega⟩
      have : packT (nodeOf b :: es) = b :: packT es := by simp only [packT, List.map_cons, hp]
      rw [this, e2]; rfl
theorem l5R_pack (s : SigT) (x : List Int) (hx : ∀ y ∈ x, 0 ≤ y ∧ y ≤ 255) : packT (l5R s x) = x.take (l5R s x).length ∧ (l5R s x).length ≤ x.length := by
  by_cases h : l5R s x = []
  · rw [h]; simp [packT]
  · obtain ⟨es, e1, e2, e3⟩ := l5L_pack s x [] hx h
    have e : l5R s x = es := by unfold l5R; rw [e1]; rfl
    rw [e]; exact ⟨e2, e3⟩
/-- The program's way through equations. -/
def rdL (s : SigT) (r : RdT) : List Int := (termRd s r).1
def rdR (s : SigT) (r : RdT) : List Int := (termRd s (termRd s r).2).1
def rd2 (s : SigT) (r : RdT) : RdT := (termRd s (termRd s r).2).2
def eqL (s : SigT) : Nat → RdT → List EqT → List EqT × RdT
  | 0, r, out => (out, r)
  | n + 1, r, out => if r.2.1 = true then (out, r) else eqL s n (rd2 s r) (out ++ [(rdL s r, rdR s r, ())])
theorem eqL_step (s : SigT) (n : Nat) (r : RdT) (out : List EqT) (h : 0 < n) : eqL s n r out = if r.2.1 = true then (out, r) else eqL s (n - 1) (rd2 s r) (out ++ [(rdL s r, rdR s r, PUnit.unit)]) := by
  cases n with
  | zero => omega
  | succ n => rfl
def eqRd0 (s : SigT) (r : RdT) : List EqT × RdT := eqL s (rdOne r).toNat (rdNext r 1) []
def eqsRd (s : SigT) (r : RdT) : List EqT × RdT := ((eqRd0 s r).1, ((eqRd0 s r).2.1, (eqRd0 s r).2.2.1 || decide (eqsFault s (eqRd0 s r).1 ≠ 0), ()))
/-- The reference's. -/
def l5A (s : SigT) : Nat → List Int → List EqT → Option (List EqT × List Int)
  | 0, d, out => some (out, d)
  | n + 1, d, out => if eqF s (l5R s d, l5R s (d.drop (l5R s d).length), ()) ≠ 0 then none else l5A s n (d.drop ((l5R s d).length + (l5R s (d.drop (l5R s d).length)).length)) (out ++ [(l5R s d, l5R s (d.drop (l5R s d).length), ())])
theorem l5A_step (s : SigT) (n : Nat) (d : List Int) (out : List EqT) (h : 0 < n) : l5A s n d out = if eqF s (l5R s d, l5R s (d.drop (l5R s d).length), PUnit.unit) ≠ 0 then none else l5A s (n - 1) (d.drop ((l5R s d).length + (l5R s (d.drop (l5R s d).length)).length)) (out ++ [(l5R s d, l5R s (d.drop (l5R s d).length), PUnit.unit)]) := by
  cases n with
  | zero => omega
  | succ n => rfl
theorem l5A_zero (s : SigT) (d : List Int) (out : List EqT) : l5A s 0 d out = some (out, d) := rfl
def l5All (s : SigT) (d : List Int) : List EqT × Int := if d.length < 1 ∨ d.getD 0 0 > 12 then ([], 0) else match l5A s (d.getD 0 0).toNat (d.drop 1) [] with
  | none => ([], 0)
  | some (o, x) => (o, (d.length : Int) - x.length)
def unpackEqs (s : SigT) (d : List Int) : Int × List EqT × Unit := if sigFault s ≠ 0 then (sigFault s, [], ()) else if (l5All s d).2 = 0 ∨ (l5All s d).2 ≠ d.length then (5, [], ()) else (0, (l5All s d).1, ())
theorem eqF_parts (s : SigT) (e : EqT) (h : eqF s e = 0) : l3F s e.1 = 0 ∧ l3F s e.2.1 = 0 := by
  unfold eqF at h
  split at h
  · omega
  split at h
  · omega
  omega
theorem l3F_nil (s : SigT) : l3F s [] ≠ 0 := by unfold l3F; simp
theorem eqL_pre (s : SigT) : ∀ (n : Nat) (r : RdT) (out : List EqT), ∃ es, (eqL s n r out).1 = out ++ es
  | 0, r, out => ⟨[], by simp [eqL]⟩
  | n + 1, r, out => by
    unfold eqL
    split
    · exact ⟨[], by simp⟩
    · obtain ⟨es, h⟩ := eqL_pre s n (rd2 s r) (out ++ [(rdL s r, rdR s r, ())])
      exact ⟨(rdL s r, rdR s r, ()) :: es, by rw [h]; simp⟩
theorem eqL_failed (s : SigT) (n : Nat) (x : List Int) (out : List EqT) : eqL s n (x, true, ()) out = (out, (x, true, ())) := by
  cases n with
  | zero => rfl
  | succ n => unfold eqL; exact if_pos rfl
theorem eq_main (s : SigT) (hs : sigFault s = 0) : ∀ (n : Nat) (d : List Int) (out : List EqT), (∀ y ∈ d, 0 ≤ y ∧ y ≤ 255) →
    (l5A s n d out = none → (eqL s n (d, false, ()) out).2.2.1 = true ∨ eqsBad s (eqL s n (d, false, ()) out).1 ≠ 0) ∧
    (∀ o x, l5A s n d out = some (o, x) → eqL s n (d, false, ()) out = (o, (x, false, ())) ∧ (eqsBad s out = 0 → eqsBad s o = 0) ∧ ∃ es : List EqT, o = out ++ es ∧ es.length = n ∧ d = pkEqs es ++ x)
  | 0, d, out, hd => ⟨fun h => by simp [l5A] at h, fun o x h => by
      simp only [l5A, Option.some.injEq, Prod.mk.injEq] at h
      obtain ⟨rfl, rfl⟩ := h
      exact ⟨rfl, id, [], by simp, rfl, by simp [pkEqs]⟩⟩
  | n + 1, d, out, hd => by
    have hm := term_same s hs d hd
    have hd2 : ∀ y ∈ d.drop (l5R s d).length, 0 ≤ y ∧ y ≤ 255 := fun y hy => hd y (List.mem_of_mem_drop hy)
    have hm2 := term_same s hs (d.drop (l5R s d).length) hd2
    unfold l5A eqL
    rw [if_neg (show ¬ (d, false, ()).2.1 = true by simp)]
    by_cases c : eqF s (l5R s d, l5R s (d.drop (l5R s d).length), ()) ≠ 0
    · rw [if_pos c]
      refine ⟨fun _ => ?_, fun o x h => by cases h⟩
      by_cases c1 : l5R s d = []
      · left
        have hf := hm.1 c1
        have e1 : (termRd s (d, false, ())).2 = ((termRd s (d, false, ())).2.1, true, ()) := by
          generalize termRd s (d, false, ()) = z at hf
          obtain ⟨a, x, f, ⟨⟩⟩ := z
          dsimp only at hf ⊢
          rw [hf]
        have e2 : rd2 s (d, false, ()) = ((termRd s (d, false, ())).2.1, true, ()) := by unfold rd2; rw [e1, termRd_failed]
        rw [e2, eqL_failed]
      · obtain ⟨q1, q2, q3⟩ := hm.2 c1
        by_cases c2 : l5R s (d.drop (l5R s d).length) = []
        · left
          have hf := hm2.1 c2
          have e2 : rd2 s (d, false, ()) = ((termRd s (d.drop (l5R s d).length, false, ())).2.1, true, ()) := by
            unfold rd2
            rw [q3]
            dsimp only
            generalize termRd s (d.drop (l5R s d).length, false, ()) = z at hf
            obtain ⟨a, x, f, ⟨⟩⟩ := z
            dsimp only at hf ⊢
            rw [hf]
          rw [e2, eqL_failed]
        · right
          obtain ⟨p1, p2, p3⟩ := hm2.2 c2
          have e1 : rdL s (d, false, ()) = l5R s d := by unfold rdL; rw [q3]
          have e2 : rdR s (d, false, ()) = l5R s (d.drop (l5R s d).length) := by unfold rdR; rw [q3]; dsimp only; rw [p3]
          obtain ⟨es, he⟩ := eqL_pre s n (rd2 s (d, false, ())) (out ++ [(rdL s (d, false, ()), rdR s (d, false, ()), ())])
          rw [he]
          intro h0
          rw [eqsBad_zero] at h0
          refine c (h0 _ ?_)
          rw [e1, e2]
          simp
    · rw [if_neg c]
      have hz := Decidable.not_not.1 c
      obtain ⟨g1, g2⟩ := eqF_parts s _ hz
      have c1 : l5R s d ≠ [] := fun h => l3F_nil s (by rw [← h]; exact g1)
      have c2 : l5R s (d.drop (l5R s d).length) ≠ [] := fun h => l3F_nil s (by rw [← h]; exact g2)
      obtain ⟨q1, q2, q3⟩ := hm.2 c1
      obtain ⟨p1, p2, p3⟩ := hm2.2 c2
      have e1 : rdL s (d, false, ()) = l5R s d := by unfold rdL; rw [q3]
      have e2 : rdR s (d, false, ()) = l5R s (d.drop (l5R s d).length) := by unfold rdR; rw [q3]; dsimp only; rw [p3]
      have e3 : rd2 s (d, false, ()) = (d.drop ((l5R s d).length + (l5R s (d.drop (l5R s d).length)).length), false, ()) := by
        unfold rd2; rw [q3]; dsimp only; rw [p3]; dsimp only; rw [List.drop_drop]
      rw [e1, e2, e3]
      have ih := eq_main s hs n (d.drop ((l5R s d).length + (l5R s (d.drop (l5R s d).length)).length)) (out ++ [(l5R s d, l5R s (d.drop (l5R s d).length), ())]) (fun y hy => hd y (List.mem_of_mem_drop hy))
      refine ⟨ih.1, fun o x h => ?_⟩
      obtain ⟨i1, i2, es, i3, i4, i5⟩ := ih.2 o x h
      refine ⟨i1, fun h0 => i2 ?_, (l5R s d, l5R s (d.drop (l5R s d).length), ()) :: es, by rw [i3]; simp, by simp [i4], ?_⟩
      · rw [eqsBad_zero] at h0 ⊢
        intro e he
        rcases List.mem_append.1 he with he | he
        · exact h0 e he
        · rw [List.mem_singleton.1 he]; exact hz
      · have k1 := (l5R_pack s d hd).1
        have k2 := (l5R_pack s (d.drop (l5R s d).length) hd2).1
        have e5 : pkEqs ((l5R s d, l5R s (d.drop (l5R s d).length), ()) :: es) ++ x = packT (l5R s d) ++ (packT (l5R s (d.drop (l5R s d).length)) ++ (pkEqs es ++ x)) := by simp [pkEqs, packE]
        rw [e5, k1, k2, ← i5, ← List.drop_drop, List.take_append_drop, List.take_append_drop]
theorem eqsRd_failed (s : SigT) (d : List Int) (h : (eqRd0 s (d, false, ())).2.2.1 = true ∨ eqsFault s (eqRd0 s (d, false, ())).1 ≠ 0) : (eqsRd s (d, false, ())).2.2.1 = true := by
  unfold eqsRd
  rcases h with h | h
  · simp [h]
  · simp [h]
theorem eqs_same (s : SigT) (hs : sigFault s = 0) (d : List Int) (hd : ∀ y ∈ d, 0 ≤ y ∧ y ≤ 255) (l : List EqT) (x : List Int) (f : Bool) (h : eqsRd s (d, false, ()) = (l, (x, f, ()))) :
    unpackEqs s d = if (!f && decide (x.length = 0)) = true ∧ packEqs l = d then (0, l, ()) else (5, [], ()) := by
  have bad : ((eqRd0 s (d, false, ())).2.2.1 = true ∨ eqsFault s (eqRd0 s (d, false, ())).1 ≠ 0) → f = true := fun hh => by
    have := eqsRd_failed s d hh
    rw [h] at this
    exact this
  unfold unpackEqs
  rw [if_neg (by simpa using hs)]
  have fin : (l5All s d).2 = 0 → f = true → (if (l5All s d).2 = 0 ∨ (l5All s d).2 ≠ d.length then (5, [], ()) else (0, (l5All s d).1, ())) = if (!f && decide (x.length = 0)) = true ∧ packEqs l = d then (0, l, ()) else ((5, [], ()) : Int × List EqT × Unit) := fun h1 h2 => by
    rw [if_pos (.inl h1), if_neg]
    rw [h2]; simp
  cases d with
  | nil =>
    refine fin rfl (bad (.inl ?_))
    rfl
  | cons b t =>
    have hb := hd b (by simp)
    have ht : ∀ y ∈ t, 0 ≤ y ∧ y ≤ 255 := fun y hy => hd y (by simp [hy])
    have e0 : eqRd0 s (b :: t, false, ()) = eqL s b.toNat (t, false, ()) [] := by unfold eqRd0; rw [rdOne_cons, rdNext_cons]
    have em := eq_main s hs b.toNat t [] ht
    by_cases c : b > 12
    · refine fin (by unfold l5All; rw [if_pos (.inr c)]) ?_
      cases hA : l5A s b.toNat t [] with
      | none =>
        rcases em.1 hA with g | g
        · exact bad (.inl (by rw [e0]; exact g))
        · refine bad (.inr fun g2 => ?_)
          rw [e0] at g2
          unfold eqsFault at g2
          rw [if_neg (by simpa using hs)] at g2
          split at g2
          · cases g2
          · exact g g2
      | some z =>
        obtain ⟨o, y⟩ := z
        obtain ⟨g1, _, es, g3, g4, _⟩ := em.2 o y hA
        refine bad (.inr fun g2 => ?_)
        rw [e0, g1] at g2
        unfold eqsFault at g2
        rw [if_neg (by simpa using hs)] at g2
        have : o.length = b.toNat := by rw [g3]; simpa using g4
        dsimp only at g2
        rw [if_pos (by omega)] at g2
        cases g2
    · have eA : l5All s (b :: t) = match l5A s b.toNat t [] with
        | none => ([], 0)
        | some (o, x) => (o, ((b :: t).length : Int) - x.length) := by
        unfold l5All
        rw [if_neg (by simp; omega)]; rfl
      cases hA : l5A s b.toNat t [] with
      | none =>
        refine fin (by rw [eA, hA]) ?_
        rcases em.1 hA with g | g
        · exact bad (.inl (by rw [e0]; exact g))
        · refine bad (.inr fun g2 => ?_)
          rw [e0] at g2
          unfold eqsFault at g2
          rw [if_neg (by simpa using hs)] at g2
          split at g2
          · cases g2
          · exact g g2
      | some z =>
        obtain ⟨o, y⟩ := z
        obtain ⟨g1, g2, es, g3, g4, g5⟩ := em.2 o y hA
        rw [hA] at eA
        dsimp only at eA
        have hol : o.length = b.toNat := by rw [g3]; simpa using g4
        have hg : eqsFault s o = 0 := by
          unfold eqsFault
          rw [if_neg (by simpa using hs), if_neg (by omega)]
          exact g2 rfl
        have hrd : eqsRd s (b :: t, false, ()) = (o, (y, false, ())) := by
          unfold eqsRd
          rw [e0, g1]
          simp [hg]
        rw [h] at hrd
        injection hrd with q1 q2
        injection q2 with q3 q4
        injection q4 with q4 _
        subst q1 q3 q4
        rw [eA]
        dsimp only
        have hlen := congrArg List.length g5
        rw [List.length_append] at hlen
        have hes : l = es := by simpa using g3
        subst hes
        by_cases k : x.length = 0
        · have kx : x = [] := List.eq_nil_of_length_eq_zero k
          subst kx
          have hp : packEqs l = b :: t := by
            unfold packEqs
            rw [hol, g5, List.append_nil]
            congr 1; omega
          rw [if_neg (by simp; omega), if_pos ⟨by simp, hp⟩]
        · rw [if_pos (.inr (by simp only [List.length_cons]; omega)), if_neg]
          rintro ⟨g, _⟩
          simp at g
          exact k (by rw [g]; rfl)
theorem eqs_end (s : SigT) (hs : sigFault s = 0) (d : List Int) (l : List EqT) (x : List Int) (f : Bool) (h : eqsRd s (d, false, ()) = (l, (x, f, ()))) (hf : f = false) : qEqs l := by
  subst hf
  have e1 : (eqsRd s (d, false, ())).1 = l := by rw [h]
  have e2 : (eqsRd s (d, false, ())).2.2.1 = false := by rw [h]
  unfold eqsRd at e1 e2
  dsimp only at e1 e2
  rw [e1] at e2
  simp only [Bool.or_eq_false_iff, decide_eq_false_iff_not, Decidable.not_not] at e2
  exact eqs_q s hs l e2.2
theorem unpackEqs_ok (s : SigT) (d : List Int) (hd : ∀ y ∈ d, 0 ≤ y ∧ y ≤ 255) : (unpackEqs s d).2.1 = [] ∨ sigFault s = 0 ∧ qEqs (unpackEqs s d).2.1 ∧ (unpackEqs s d).2.1.length ≤ 12 := by
  by_cases hs : sigFault s = 0
  · generalize hz : eqsRd s (d, false, ()) = z
    obtain ⟨l, x, f, ⟨⟩⟩ := z
    have h := eqs_same s hs d hd l x f hz
    rw [h]
    split
    · rename_i hc
      right
      have hf : eqsFault s l = 0 := by
        have hf : f = false := by
          have := hc.1
          cases f <;> simp at this ⊢
        subst hf
        have e1 : (eqsRd s (d, false, ())).1 = l := by rw [hz]
        have e2 : (eqsRd s (d, false, ())).2.2.1 = false := by rw [hz]
        unfold eqsRd at e1 e2
        dsimp only at e1 e2
        rw [e1] at e2
        simp only [Bool.or_eq_false_iff, decide_eq_false_iff_not, Decidable.not_not] at e2
        exact e2.2
      refine ⟨hs, eqs_q s hs l hf, ?_⟩
      unfold eqsFault at hf
      rw [if_neg (by simpa using hs)] at hf
      split at hf
      · cases hf
      · rename_i h12
        exact Nat.le_of_not_lt h12
    · exact .inl rfl
  · left
    unfold unpackEqs
    rw [if_pos hs]
theorem cnt_eqs : ∀ (l : List EqT), (∀ e ∈ l, e.1.length ≤ 24 ∧ e.2.1.length ≤ 24) → cnt false (.sl (.pair (.sl (.int .i64)) (.pair (.sl (.int .i64)) .unit))) l ≤ 49 * l.length
  | [], _ => by simp [cnt, cntL]
  | x :: l, h => by
    have := cnt_eqs l (fun e he => h e (by simp [he]))
    have hx := h x (by simp)
    simp only [cnt, cntL, List.length_cons] at this ⊢
    have e1 := cnt_int false .i64 x.1
    have e2 := cnt_int false .i64 x.2.1
    simp only [cnt] at e1 e2
    omega
theorem unpackEqs_cnt (s : SigT) (d : List Int) (hd : ∀ y ∈ d, 0 ≤ y ∧ y ≤ 255) : cnt false (.pair (.int .i64) (.pair (.sl (.pair (.sl (.int .i64)) (.pair (.sl (.int .i64)) .unit))) .unit)) (unpackEqs s d) ≤ 1000 := by
  have e : cnt false (.pair (.int .i64) (.pair (.sl (.pair (.sl (.int .i64)) (.pair (.sl (.int .i64)) .unit))) .unit)) (unpackEqs s d) = cnt false (.sl (.pair (.sl (.int .i64)) (.pair (.sl (.int .i64)) .unit))) (unpackEqs s d).2.1 := by simp [cnt]
  rw [e]
  rcases unpackEqs_ok s d hd with h | ⟨_, h, h2⟩
  · rw [h]; simp [cnt, cntL]
  · have := cnt_eqs (unpackEqs s d).2.1 fun e he => by
      obtain ⟨i, hi, rfl⟩ := List.mem_iff_getElem.1 he
      have := okE_len _ (h.2 i hi)
      rwa [List.getD_eq_getElem?_getD, List.getElem?_eq_getElem hi] at this
    omega


def F_sl_Compact_int64 (s : List (Int)) : List (Int) := compI s
def Q_sl_Compact_int64 (s : List (Int)) : Prop := s.length < 4611686018427387904
open Go.Shelf in
def laysCompact_ren : Go.Shelf.Ren := ⟨fun | 43 => 257 | n => n, fun | 22 => 62 | 23 => 2 | 3 => 3 | 4 => 4 | 0 => 0 | n => n, fun | n => n⟩
open Go.Shelf in
theorem laysCompact : Go.Proofs.SlLaysN.n43 pg laysCompact_ren := {
  mixed := (by kernel_rfl),
  f43 := ⟨Go.Proofs.Tryz.f257.name, by decide, Go.Proofs.Tryz.func257.trans (congrArg some (by kernel_rfl))⟩,
  t0 := Go.Proofs.Tryz.underlying0,
  a0 := Go.Proofs.Tryz.isAgg0,
  z0 := Go.Proofs.Tryz.sizeOf0,
  v0 := Go.Proofs.Tryz.zeroValue0,
  t3 := Go.Proofs.Tryz.underlying3,
  a3 := Go.Proofs.Tryz.isAgg3,
  z3 := Go.Proofs.Tryz.sizeOf3,
  v3 := Go.Proofs.Tryz.zeroValue3,
  t4 := Go.Proofs.Tryz.underlying4,
  a4 := Go.Proofs.Tryz.isAgg4,
  z4 := Go.Proofs.Tryz.sizeOf4,
  v4 := Go.Proofs.Tryz.zeroValue4,
  t22 := Go.Proofs.Tryz.underlying62,
  a22 := Go.Proofs.Tryz.isAgg62,
  z22 := Go.Proofs.Tryz.sizeOf62,
  v22 := Go.Proofs.Tryz.zeroValue62,
  t23 := Go.Proofs.Tryz.underlying2,
  a23 := Go.Proofs.Tryz.isAgg2,
  z23 := Go.Proofs.Tryz.sizeOf2,
  v23 := Go.Proofs.Tryz.zeroValue2,
  i23 := (by kernel_rfl) }

def con_sl_Compact_int64 : Con := ⟨false, g1 (pV (.sl (.int .i64)) (.ow .sh)) fun s => .one ⟨[Q_sl_Compact_int64 s], [⟨(.sl (.int .i64)), (.ow .sh), F_sl_Compact_int64 s⟩], [.junk]⟩, [(.ow .sh)], false, 0⟩
theorem ok_sl_Compact_int64 : ConOk pg 257 con_sl_Compact_int64 := ok_compact laysCompact (by rfl) (Enters.of (by kernel_rfl)) Q_sl_Compact_int64 F_sl_Compact_int64 (fun xs => rfl)

def F_i_varsOf (ts : List (List (Int))) : List (Int) := varsI ts
def Q_i_varsOf (ts : List (List (Int))) : Prop := qVars ts
def O_i_varsOf : Opt := ⟨fun i => false, fun i => (match decide (i = 6) with | true => [false, false, false, true, false, false, false, false, false, true, true, true, false, false, false, true, true, true, false, false, false, false, false, false, false, false, false, false, false, false, false, false, false, false] | false => (match decide (i = 3) with | true => [false, false, false, true, false, false, false, false, false, true, true, true, false, false, false, false, false, false, false, false, false, false, false, false, false, false, false, false, false, false, false, false, false, false] | false => [])), fun i => .done, fun i => none, fun i => false, fun i => [], fun i => false, fun i => none⟩
def τ_i_varsOf : Env := Env.of [(2, (.int .i64)), (3, (.int .i64)), (4, .bool), (62, (.sl (.int .i64))), (283, (.sl (.sl (.int .i64))))] [] []

theorem ct_i_varsOf (ts : List (List (Int))) : Ct pg 234 [.dat (.sl (.sl (.int .i64))) ts] ⟨[Q_i_varsOf ts], [⟨(.sl (.int .i64)), (.ow .sh), F_i_varsOf ts⟩], []⟩ := by
  refine ct_claim (O := O_i_varsOf) (τ := τ_i_varsOf) (EnvOk.of (by kernel_rfl) (by kernel_rfl)) (GOk.of (.cons ok_sl_Sort_int64 (.cons ok_sl_Compact_int64 .nil) : AllOk pg [(221, con_sl_Sort_int64), (257, con_sl_Compact_int64)])) mixed (Enters.of (by kernel_rfl)) (fn := Go.Proofs.Tryz.f234) (by kernel_rfl) rfl (by kernel_rfl) ?_
  intro hp hw
  have hq : Q_i_varsOf ts := hp _ (List.mem_singleton.2 rfl)
  clear hp
  change claim Lg.std Alg.std τ_i_varsOf (Gam.of [(221, ⟨false, g1 (pV (.sl (.int .i64)) (.ow .sh)) fun s => .one ⟨[Q_sl_Sort_int64 s], [], [.mv (.sl (.int .i64)) (.ow .sh) (B_sl_Sort_int64_s s)]⟩, [(.ow .sh)], false, 0⟩), (257, ⟨false, g1 (pV (.sl (.int .i64)) (.ow .sh)) fun s => .one ⟨[Q_sl_Compact_int64 s], [⟨(.sl (.int .i64)), (.ow .sh), F_sl_Compact_int64 s⟩], [.junk]⟩, [(.ow .sh)], false, 0⟩)]) O_i_varsOf Go.Proofs.Tryz.f234 [.dat (.sl (.sl (.int .i64))) ts] ⟨[Q_i_varsOf ts], [⟨(.sl (.int .i64)), (.ow .sh), F_i_varsOf ts⟩], []⟩
  generalize hg_B_sl_Sort_int64_s : B_sl_Sort_int64_s = g_B_sl_Sort_int64_s
  generalize hg_Q_sl_Sort_int64 : Q_sl_Sort_int64 = g_Q_sl_Sort_int64
  generalize hg_F_sl_Compact_int64 : F_sl_Compact_int64 = g_F_sl_Compact_int64
  generalize hg_Q_sl_Compact_int64 : Q_sl_Compact_int64 = g_Q_sl_Compact_int64
  generalize hR0 : F_i_varsOf ts = R0
  generalize Q_i_varsOf ts = Q0
  generalize hL : Lg.std = L
  generalize hA : Alg.std = A
  cbv
  subst hL hA
  try dsimp only [Ty.den]
  simp only [Q_i_varsOf] at hq
  have hqv := hq
  obtain ⟨hq1, hq2⟩ := hqv
  refine lp_v (V := (Int) × (Int) × (Nat) × (List Int)) (fun ((i, M, N, out) : (Int) × (Int) × (Nat) × (List Int)) => ⟨[.junk, .junk, .junk, .ref (.int .i64) 0 0 [] 0 N, .junk, .junk, .junk, .junk, .junk, .dat (.sl (.sl (.int .i64))) ts, .dat (.int .i64) M, .dat (.int .i64) i, .junk, .junk, .junk, .junk, .junk, .junk, .junk, .junk, .junk, .junk, .junk, .junk, .junk, .junk, .junk, .junk, .junk, .junk, .junk, .junk, .junk, .junk], [some (.row 0 (.int .i64) .sh out)]⟩) (fun ((i, M, N, out) : (Int) × (Int) × (Nat) × (List Int)) => M = ts.length ∧ 0 ≤ i ∧ i ≤ ts.length ∧ N = out.length ∧ (out.length : Int) ≤ 24 * i ∧ out ++ negsL (ts.drop i.toNat) = negsL ts) (fun ((i, M, N, out) : (Int) × (Int) × (Nat) × (List Int)) => ts.length - i.toNat) (0, _, _, _) rfl ?_ ?_
  · (subst hR0 hg_B_sl_Sort_int64_s hg_Q_sl_Sort_int64 hg_F_sl_Compact_int64 hg_Q_sl_Compact_int64; simp only [Alg.std] at *; exact ⟨by simp, by simp, by simp, by simp, by simp, by simp⟩)
  rintro ⟨i, M, N, out⟩ hf I hI
  replace hf : M = ts.length ∧ 0 ≤ i ∧ i ≤ ts.length ∧ N = out.length ∧ (out.length : Int) ≤ 24 * i ∧ out ++ negsL (ts.drop i.toNat) = negsL ts := hf
  generalize hL : Lg.std = L
  generalize hA : Alg.std = A
  cbv
  subst hL hA
  try dsimp only [Ty.den]
  subst hI
  obtain ⟨h1, h2, h3, h4, h5, h6⟩ := hf
  have sj := fun (h : i.toNat < ts.length) => negsL_step ts i.toNat h
  have ej := fun (h : ts.length ≤ i.toNat) => negsL_end ts i.toNat h
  have lj := fun (h : i.toNat < ts.length) => hq2 i.toNat h
  have sl := sortI_len out
  have es : (i + 1).toNat = i.toNat + 1 := by omega
  clear hq hq2
  repeat' (first | intro _ | apply And.intro)
  all_goals first | (with_reducible exact True.intro) | ((fail_if_success (refine lp_v (V := Unit) (fun _ => ⟨[], []⟩) (fun _ => True) (fun _ => 0) () ?_ ?_ ?_)); (try simp only [Lg.std, Alg.std, List.drop_zero, List.take_length] at *); (first | refine ⟨(_, _, _, _), rfl, ?_, ?_⟩ | refine ⟨(_, _, _, _, _, _, _), rfl, ?_, ?_⟩ | skip); (all_goals (subst hR0 hg_B_sl_Sort_int64_s hg_Q_sl_Sort_int64 hg_F_sl_Compact_int64 hg_Q_sl_Compact_int64; (try simp only [Lg.std, Alg.std, List.drop_zero, List.take_length, F_sl_Compact_int64, B_sl_Sort_int64_s, Q_sl_Sort_int64, Q_sl_Compact_int64, F_i_varsOf] at *); first | done | (grind [varsI])))) | skip
  all_goals (
    refine lp_v (V := (Int) × (Int) × (List Int) × (Nat) × (List Int)) (fun ((j, L, t, K, o2) : (Int) × (Int) × (List Int) × (Nat) × (List Int)) => ⟨[.junk, .junk, .junk, .ref (.int .i64) 0 0 [] 0 K, .junk, .junk, .junk, .junk, .junk, .dat (.sl (.sl (.int .i64))) ts, .dat (.int .i64) M, .dat (.int .i64) i, .junk, .junk, .junk, .dat (.sl (.int .i64)) t, .dat (.int .i64) L, .dat (.int .i64) j, .junk, .junk, .junk, .junk, .junk, .junk, .junk, .junk, .junk, .junk, .junk, .junk, .junk, .junk, .junk, .junk], [some (.row 0 (.int .i64) .sh o2)]⟩) (fun ((j, L, t, K, o2) : (Int) × (Int) × (List Int) × (Nat) × (List Int)) => i < ts.length ∧ t = ts.getD i.toNat [] ∧ L = t.length ∧ 0 ≤ j ∧ j ≤ t.length ∧ K = o2.length ∧ (o2.length : Int) ≤ 24 * i + j ∧ o2 ++ negs (t.drop j.toNat) = out ++ negs t) (fun ((j, L, t, K, o2) : (Int) × (Int) × (List Int) × (Nat) × (List Int)) => t.length - j.toNat) (0, _, _, _, _) rfl ?_ ?_
    · (subst hR0 hg_B_sl_Sort_int64_s hg_Q_sl_Sort_int64 hg_F_sl_Compact_int64 hg_Q_sl_Compact_int64; simp only [Alg.std, decide_eq_true_eq] at *; refine ⟨?_, ?_, ?_, ?_, ?_, ?_, ?_, ?_⟩ <;> grind)
    rintro ⟨j, L, t, K, o2⟩ hf I hI
    replace hf : i < ts.length ∧ t = ts.getD i.toNat [] ∧ L = t.length ∧ 0 ≤ j ∧ j ≤ t.length ∧ K = o2.length ∧ (o2.length : Int) ≤ 24 * i + j ∧ o2 ++ negs (t.drop j.toNat) = out ++ negs t := hf
    generalize hL : Lg.std = L
    generalize hA : Alg.std = A
    cbv
    subst hL hA
    try dsimp only [Ty.den]
    subst hI
    obtain ⟨g1, g2, g3, g4, g5, g6, g7, g8⟩ := hf
    replace g1 : i < ts.length := g1
    replace h2 : 0 ≤ i := h2
    have sj := sj (by omega)
    have lj := lj (by omega)
    have s2 := fun (h : j.toNat < t.length) => negs_step t j.toNat h
    have e2 := fun (h : t.length ≤ j.toNat) => negs_end t j.toNat h
    have e3 : (j + 1).toNat = j.toNat + 1 := by omega
    have hti := fun (h : j.toNat < t.length) => i64at (a := t) (by rw [g2]; exact hw.1.2 _ (getD_mem ts [] i.toNat (by omega)) |>.2) j.toNat h
    repeat' (first | intro _ | apply And.intro)
    all_goals first | (with_reducible exact True.intro) | ((fail_if_success (refine lp_v (V := Unit) (fun _ => ⟨[], []⟩) (fun _ => True) (fun _ => 0) () ?_ ?_ ?_)); (try simp only [Lg.std, Alg.std, List.drop_zero, List.take_length] at *); (first | refine ⟨(_, _, _, _, _), rfl, ?_, ?_⟩ | refine ⟨(_, _, _, _), rfl, ?_, ?_⟩ | skip); (all_goals (subst hR0 hg_B_sl_Sort_int64_s hg_Q_sl_Sort_int64 hg_F_sl_Compact_int64 hg_Q_sl_Compact_int64; (try simp only [Lg.std, Alg.std, List.drop_zero, List.take_length, F_sl_Compact_int64, B_sl_Sort_int64_s, Q_sl_Sort_int64, Q_sl_Compact_int64, F_i_varsOf] at *); first | done | (grind)))) | skip)
def con_i_varsOf : Con := ⟨true, g1 (pD (.sl (.sl (.int .i64)))) fun ts => .one ⟨[Q_i_varsOf ts], [⟨(.sl (.int .i64)), (.ow .sh), F_i_varsOf ts⟩], []⟩, [], false, 0⟩
theorem ok_i_varsOf : ConOk pg 234 con_i_varsOf := ConOk.g1 (Enters.of (by kernel_rfl)) ct_i_varsOf

def F_i_EquationFault_1 (v : Int) : Bool := decide (6 ≤ v)
def Q_i_EquationFault_1 (v : Int) : Prop := True
def O_i_EquationFault_1 : Opt := ⟨fun i => false, fun i => [], fun i => .done, fun i => none, fun i => false, fun i => [], fun i => false, fun i => none⟩
def τ_i_EquationFault_1 : Env := Env.of [(2, (.int .i64)), (4, .bool)] [] []

theorem ct_i_EquationFault_1 (v : Int) : Ct pg 235 [.dat (.int .i64) v] ⟨[Q_i_EquationFault_1 v], [⟨.bool, .sh, F_i_EquationFault_1 v⟩], []⟩ := by
  refine ct_claim (O := O_i_EquationFault_1) (τ := τ_i_EquationFault_1) (EnvOk.of (by kernel_rfl) (by kernel_rfl)) (GOk.of (.nil : AllOk pg [])) mixed (Enters.of (by kernel_rfl)) (fn := Go.Proofs.Tryz.f235) (by kernel_rfl) rfl (by kernel_rfl) ?_
  intro hp hw
  have hq : Q_i_EquationFault_1 v := hp _ (List.mem_singleton.2 rfl)
  clear hp
  change claim Lg.std Alg.std τ_i_EquationFault_1 (Gam.of []) O_i_EquationFault_1 Go.Proofs.Tryz.f235 [.dat (.int .i64) v] ⟨[Q_i_EquationFault_1 v], [⟨.bool, .sh, F_i_EquationFault_1 v⟩], []⟩
  generalize hR0 : F_i_EquationFault_1 v = R0
  generalize Q_i_EquationFault_1 v = Q0
  generalize hL : Lg.std = L
  generalize hA : Alg.std = A
  cbv
  subst hL hA
  try dsimp only [Ty.den]
  subst hR0
  simp only [Q_i_EquationFault_1] at hq
  simp only [Lg.std, Alg.std, List.drop_zero, List.take_length, F_i_EquationFault_1]
  all_goals grind
def con_i_EquationFault_1 : Con := ⟨true, g1 (pD (.int .i64)) fun v => .one ⟨[Q_i_EquationFault_1 v], [⟨.bool, .sh, F_i_EquationFault_1 v⟩], []⟩, [], false, 0⟩
theorem ok_i_EquationFault_1 : ConOk pg 235 con_i_EquationFault_1 := ConOk.g1 (Enters.of (by kernel_rfl)) ct_i_EquationFault_1

def F_sl_IndexFunc_int64__i_EquationFault_1 (s : List (Int)) (u : Unit) : Int := findG (fun v => decide (6 ≤ v)) s 0
def Q_sl_IndexFunc_int64__i_EquationFault_1 (s : List (Int)) (u : Unit) : Prop := True
def O_sl_IndexFunc_int64__i_EquationFault_1 : Opt := ⟨fun i => false, fun i => (match decide (i = 2) with | true => [true, true, false, false, false, false, false, true, true, false, false, false, false, false, false, false, false, false, false] | false => []), fun i => .done, fun i => none, fun i => false, fun i => [], fun i => false, fun i => none⟩
def τ_sl_IndexFunc_int64__i_EquationFault_1 : Env := Env.of [(2, (.int .i64)), (3, (.int .i64)), (4, .bool), (62, (.sl (.int .i64)))] [] []

theorem ct_sl_IndexFunc_int64__i_EquationFault_1 (s : List (Int)) (u : Unit) : Ct pg 200 [.dat (.sl (.int .i64)) s, .clo 235 []] ⟨[Q_sl_IndexFunc_int64__i_EquationFault_1 s u], [⟨(.int .i64), .sh, F_sl_IndexFunc_int64__i_EquationFault_1 s u⟩], []⟩ := by
  refine ct_claim (O := O_sl_IndexFunc_int64__i_EquationFault_1) (τ := τ_sl_IndexFunc_int64__i_EquationFault_1) (EnvOk.of (by kernel_rfl) (by kernel_rfl)) (GOk.of (.cons ok_i_EquationFault_1 .nil : AllOk pg [(235, con_i_EquationFault_1)])) mixed (Enters.of (by kernel_rfl)) (fn := Go.Proofs.Tryz.f200) (by kernel_rfl) rfl (by kernel_rfl) ?_
  intro hp hw
  have hq : Q_sl_IndexFunc_int64__i_EquationFault_1 s u := hp _ (List.mem_singleton.2 rfl)
  clear hp
  change claim Lg.std Alg.std τ_sl_IndexFunc_int64__i_EquationFault_1 (Gam.of [(235, ⟨true, g1 (pD (.int .i64)) fun v => .one ⟨[Q_i_EquationFault_1 v], [⟨.bool, .sh, F_i_EquationFault_1 v⟩], []⟩, [], false, 0⟩)]) O_sl_IndexFunc_int64__i_EquationFault_1 Go.Proofs.Tryz.f200 [.dat (.sl (.int .i64)) s, .clo 235 []] ⟨[Q_sl_IndexFunc_int64__i_EquationFault_1 s u], [⟨(.int .i64), .sh, F_sl_IndexFunc_int64__i_EquationFault_1 s u⟩], []⟩
  generalize hg_F_i_EquationFault_1 : F_i_EquationFault_1 = g_F_i_EquationFault_1
  generalize hg_Q_i_EquationFault_1 : Q_i_EquationFault_1 = g_Q_i_EquationFault_1
  generalize hR0 : F_sl_IndexFunc_int64__i_EquationFault_1 s u = R0
  generalize Q_sl_IndexFunc_int64__i_EquationFault_1 s u = Q0
  generalize hL : Lg.std = L
  generalize hA : Alg.std = A
  cbv
  subst hL hA
  try dsimp only [Ty.den]
  refine lp_v (V := (Int) × (Int)) (fun ((i, M) : (Int) × (Int)) => ⟨[.dat (.sl (.int .i64)) s, .clo 235 [], .junk, .junk, .junk, .junk, .junk, .dat (.int .i64) M, .dat (.int .i64) i, .junk, .junk, .junk, .junk, .junk, .junk, .junk, .junk, .junk, .junk], []⟩) (fun ((i, M) : (Int) × (Int)) => M = s.length ∧ 0 ≤ i ∧ i ≤ s.length ∧ findG (fun v => decide (6 ≤ v)) s 0 = findG (fun v => decide (6 ≤ v)) (s.drop i.toNat) i) (fun ((i, M) : (Int) × (Int)) => s.length - i.toNat) (0, _) rfl ?_ ?_
  · simp [Alg.std]
  rintro ⟨i, M⟩ hf I hI
  replace hf : M = s.length ∧ 0 ≤ i ∧ i ≤ s.length ∧ findG (fun v => decide (6 ≤ v)) s 0 = findG (fun v => decide (6 ≤ v)) (s.drop i.toNat) i := hf
  generalize hL : Lg.std = L
  generalize hA : Alg.std = A
  cbv
  subst hL hA
  try dsimp only [Ty.den]
  subst hI
  simp only [Lg.std, Alg.std, List.drop_zero, List.take_length]
  obtain ⟨h1, h2, h3, h4⟩ := hf
  have hl := hw.1.1
  have hdc := fun (h : i.toNat < s.length) => drop_cons s (0 : Int) i.toNat h
  have he := fun (h : s.length ≤ i.toNat) => drop_nil s i.toNat h
  repeat' (first | intro _ | apply And.intro)
  all_goals (try refine ⟨(_, _), rfl, ?_, ?_⟩)
  all_goals subst hR0 hg_F_i_EquationFault_1 hg_Q_i_EquationFault_1
  all_goals (try simp only [F_i_EquationFault_1, Q_i_EquationFault_1, F_sl_IndexFunc_int64__i_EquationFault_1] at *)
  all_goals grind [findG_cons, findG_nil]
def con_sl_IndexFunc_int64__i_EquationFault_1 : Con := ⟨true, g2 (pD (.sl (.int .i64))) (pC0 235) fun s u => .one ⟨[Q_sl_IndexFunc_int64__i_EquationFault_1 s u], [⟨(.int .i64), .sh, F_sl_IndexFunc_int64__i_EquationFault_1 s u⟩], []⟩, [], false, 0⟩
theorem ok_sl_IndexFunc_int64__i_EquationFault_1 : ConOk pg 200 con_sl_IndexFunc_int64__i_EquationFault_1 := ConOk.g2 (Enters.of (by kernel_rfl)) ct_sl_IndexFunc_int64__i_EquationFault_1

def F_sl_ContainsFunc_int64__i_EquationFault_1 (s : List (Int)) (u : Unit) : Bool := s.any (fun v => decide (6 ≤ v))
def Q_sl_ContainsFunc_int64__i_EquationFault_1 (s : List (Int)) (u : Unit) : Prop := True
def O_sl_ContainsFunc_int64__i_EquationFault_1 : Opt := ⟨fun i => false, fun i => [], fun i => .done, fun i => none, fun i => false, fun i => [], fun i => false, fun i => none⟩
def τ_sl_ContainsFunc_int64__i_EquationFault_1 : Env := Env.of [(3, (.int .i64)), (4, .bool), (62, (.sl (.int .i64)))] [] []

theorem ct_sl_ContainsFunc_int64__i_EquationFault_1 (s : List (Int)) (u : Unit) : Ct pg 150 [.dat (.sl (.int .i64)) s, .clo 235 []] ⟨[Q_sl_ContainsFunc_int64__i_EquationFault_1 s u], [⟨.bool, .sh, F_sl_ContainsFunc_int64__i_EquationFault_1 s u⟩], []⟩ := by
  refine ct_claim (O := O_sl_ContainsFunc_int64__i_EquationFault_1) (τ := τ_sl_ContainsFunc_int64__i_EquationFault_1) (EnvOk.of (by kernel_rfl) (by kernel_rfl)) (GOk.of (.cons (ConOk.or ok_sl_IndexFunc_int64__i_DraftFault_1 (ConOk.or ok_sl_IndexFunc_int64__i_TermFault_1 ok_sl_IndexFunc_int64__i_EquationFault_1)) (.cons ok_i_EquationFault_1 .nil) : AllOk pg [(200, (Con.or con_sl_IndexFunc_int64__i_DraftFault_1 (Con.or con_sl_IndexFunc_int64__i_TermFault_1 con_sl_IndexFunc_int64__i_EquationFault_1))), (235, con_i_EquationFault_1)])) mixed (Enters.of (by kernel_rfl)) (fn := Go.Proofs.Tryz.f150) (by kernel_rfl) rfl (by kernel_rfl) ?_
  intro hp hw
  have hq : Q_sl_ContainsFunc_int64__i_EquationFault_1 s u := hp _ (List.mem_singleton.2 rfl)
  clear hp
  change claim Lg.std Alg.std τ_sl_ContainsFunc_int64__i_EquationFault_1 (Gam.of [(200, Con.or (⟨true, g2 (pD (.sl (.int .i64))) (pC1 151 (pP (.pair (.pair (.sl (.sl (.int .u8))) (.pair (.sl (.pair (.int .i64) (.pair (.sl (.int .u8)) .unit))) .unit)) (.pair (.sl (.int .i64)) (.pair (.sl (.int .i64)) .unit))))) fun s d => .one ⟨[Q_sl_IndexFunc_int64__i_DraftFault_1 s d], [⟨(.int .i64), .sh, F_sl_IndexFunc_int64__i_DraftFault_1 s d⟩], []⟩, [], false, 0⟩ : Con) (Con.or (⟨true, g2 (pD (.sl (.int .i64))) (pC1 255 (pP (.pair (.sl (.pair .str (.pair (.int .i64) .unit))) .unit))) fun s g => .one ⟨[Q_sl_IndexFunc_int64__i_TermFault_1 s g], [⟨(.int .i64), .sh, F_sl_IndexFunc_int64__i_TermFault_1 s g⟩], []⟩, [], false, 0⟩ : Con) (⟨true, g2 (pD (.sl (.int .i64))) (pC0 235) fun s u => .one ⟨[Q_sl_IndexFunc_int64__i_EquationFault_1 s u], [⟨(.int .i64), .sh, F_sl_IndexFunc_int64__i_EquationFault_1 s u⟩], []⟩, [], false, 0⟩))), (235, ⟨true, g1 (pD (.int .i64)) fun v => .one ⟨[Q_i_EquationFault_1 v], [⟨.bool, .sh, F_i_EquationFault_1 v⟩], []⟩, [], false, 0⟩)]) O_sl_ContainsFunc_int64__i_EquationFault_1 Go.Proofs.Tryz.f150 [.dat (.sl (.int .i64)) s, .clo 235 []] ⟨[Q_sl_ContainsFunc_int64__i_EquationFault_1 s u], [⟨.bool, .sh, F_sl_ContainsFunc_int64__i_EquationFault_1 s u⟩], []⟩
  generalize hg_F_sl_IndexFunc_int64__i_DraftFault_1 : F_sl_IndexFunc_int64__i_DraftFault_1 = g_F_sl_IndexFunc_int64__i_DraftFault_1
  generalize hg_Q_sl_IndexFunc_int64__i_DraftFault_1 : Q_sl_IndexFunc_int64__i_DraftFault_1 = g_Q_sl_IndexFunc_int64__i_DraftFault_1
  generalize hg_F_sl_IndexFunc_int64__i_TermFault_1 : F_sl_IndexFunc_int64__i_TermFault_1 = g_F_sl_IndexFunc_int64__i_TermFault_1
  generalize hg_Q_sl_IndexFunc_int64__i_TermFault_1 : Q_sl_IndexFunc_int64__i_TermFault_1 = g_Q_sl_IndexFunc_int64__i_TermFault_1
  generalize hg_F_i_EquationFault_1 : F_i_EquationFault_1 = g_F_i_EquationFault_1
  generalize hg_Q_i_EquationFault_1 : Q_i_EquationFault_1 = g_Q_i_EquationFault_1
  generalize hg_F_sl_IndexFunc_int64__i_EquationFault_1 : F_sl_IndexFunc_int64__i_EquationFault_1 = g_F_sl_IndexFunc_int64__i_EquationFault_1
  generalize hg_Q_sl_IndexFunc_int64__i_EquationFault_1 : Q_sl_IndexFunc_int64__i_EquationFault_1 = g_Q_sl_IndexFunc_int64__i_EquationFault_1
  generalize hR0 : F_sl_ContainsFunc_int64__i_EquationFault_1 s u = R0
  generalize Q_sl_ContainsFunc_int64__i_EquationFault_1 s u = Q0
  generalize hL : Lg.std = L
  generalize hA : Alg.std = A
  cbv
  subst hL hA
  try dsimp only [Ty.den]
  have hf := findG_any (fun v => decide (6 ≤ v)) s 0 (by omega)
  subst hR0 hg_F_sl_IndexFunc_int64__i_DraftFault_1 hg_Q_sl_IndexFunc_int64__i_DraftFault_1 hg_F_sl_IndexFunc_int64__i_TermFault_1 hg_Q_sl_IndexFunc_int64__i_TermFault_1 hg_F_i_EquationFault_1 hg_Q_i_EquationFault_1 hg_F_sl_IndexFunc_int64__i_EquationFault_1 hg_Q_sl_IndexFunc_int64__i_EquationFault_1
  simp only [Q_sl_ContainsFunc_int64__i_EquationFault_1] at hq
  simp only [Lg.std, Alg.std, List.drop_zero, List.take_length, F_sl_IndexFunc_int64__i_DraftFault_1, F_sl_IndexFunc_int64__i_TermFault_1, F_i_EquationFault_1, F_sl_IndexFunc_int64__i_EquationFault_1, Q_sl_IndexFunc_int64__i_DraftFault_1, Q_sl_IndexFunc_int64__i_TermFault_1, Q_i_EquationFault_1, Q_sl_IndexFunc_int64__i_EquationFault_1, F_sl_ContainsFunc_int64__i_EquationFault_1]
  all_goals grind
def con_sl_ContainsFunc_int64__i_EquationFault_1 : Con := ⟨true, g2 (pD (.sl (.int .i64))) (pC0 235) fun s u => .one ⟨[Q_sl_ContainsFunc_int64__i_EquationFault_1 s u], [⟨.bool, .sh, F_sl_ContainsFunc_int64__i_EquationFault_1 s u⟩], []⟩, [], false, 0⟩
theorem ok_sl_ContainsFunc_int64__i_EquationFault_1 : ConOk pg 150 con_sl_ContainsFunc_int64__i_EquationFault_1 := ConOk.g2 (Enters.of (by kernel_rfl)) ct_sl_ContainsFunc_int64__i_EquationFault_1

def F_s_l4Low (t : List (Int)) : Bool := low t
def Q_s_l4Low (t : List (Int)) : Prop := True
def O_s_l4Low : Opt := ⟨fun i => false, fun i => (match decide (i = 2) with | true => [true, false, false, true, false, false, false, false, false, false, false, false, false, false, false] | false => []), fun i => .done, fun i => none, fun i => false, fun i => [], fun i => false, fun i => none⟩
def τ_s_l4Low : Env := Env.of [(2, (.int .i64)), (3, (.int .i64)), (4, .bool), (62, (.sl (.int .i64)))] [] []

theorem ct_s_l4Low (t : List (Int)) : Ct pg 190 [.dat (.sl (.int .i64)) t] ⟨[Q_s_l4Low t], [⟨.bool, .sh, F_s_l4Low t⟩], []⟩ := by
  refine ct_claim (O := O_s_l4Low) (τ := τ_s_l4Low) (EnvOk.of (by kernel_rfl) (by kernel_rfl)) (GOk.of (.nil : AllOk pg [])) mixed (Enters.of (by kernel_rfl)) (fn := Go.Proofs.Tryz.f190) (by kernel_rfl) rfl (by kernel_rfl) ?_
  intro hp hw
  have hq : Q_s_l4Low t := hp _ (List.mem_singleton.2 rfl)
  clear hp
  change claim Lg.std Alg.std τ_s_l4Low (Gam.of []) O_s_l4Low Go.Proofs.Tryz.f190 [.dat (.sl (.int .i64)) t] ⟨[Q_s_l4Low t], [⟨.bool, .sh, F_s_l4Low t⟩], []⟩
  generalize hR0 : F_s_l4Low t = R0
  generalize Q_s_l4Low t = Q0
  generalize hL : Lg.std = L
  generalize hA : Alg.std = A
  cbv
  subst hL hA
  try dsimp only [Ty.den]
  refine lp_v (V := (Int)) (fun (i : Int) => ⟨[.dat (.sl (.int .i64)) t, .junk, .junk, .dat (.int .i64) i, .junk, .junk, .junk, .junk, .junk, .junk, .junk, .junk, .junk, .junk, .junk], []⟩) (fun (i : Int) => 0 ≤ i ∧ i ≤ t.length ∧ low t = low (t.drop i.toNat)) (fun (i : Int) => t.length - i.toNat) (0) rfl ?_ ?_
  · simp
  rintro i hf I hI
  replace hf : 0 ≤ i ∧ i ≤ t.length ∧ low t = low (t.drop i.toNat) := hf
  generalize hL : Lg.std = L
  generalize hA : Alg.std = A
  cbv
  subst hL hA
  try dsimp only [Ty.den]
  subst hI
  obtain ⟨h1, h2, h3⟩ := hf
  have st := fun (h : i.toNat < t.length) => allp_step (fun n => decide (-6 ≤ n)) t i.toNat h
  have en := fun (h : t.length ≤ i.toNat) => (by rw [List.drop_of_length_le h]; rfl : low (t.drop i.toNat) = true)
  have gd : ∀ l, low l = l.all fun n => decide (-6 ≤ n) := fun _ => rfl
  have es : (i + 1).toNat = i.toNat + 1 := by omega
  have hl := hw.1.1
  repeat' (first | intro _ | apply And.intro)
  all_goals first | (with_reducible exact True.intro) | ((fail_if_success (refine lp_v (V := Unit) (fun _ => ⟨[], []⟩) (fun _ => True) (fun _ => 0) () ?_ ?_ ?_)); (try simp only [Lg.std, Alg.std, List.drop_zero, List.take_length] at *); (try refine ⟨_, rfl, ?_, ?_⟩); (all_goals (subst hR0; (try simp only [Lg.std, Alg.std, List.drop_zero, List.take_length, F_s_l4Low] at *); first | done | (grind)))) | skip
def con_s_l4Low : Con := ⟨true, g1 (pD (.sl (.int .i64))) fun t => .one ⟨[Q_s_l4Low t], [⟨.bool, .sh, F_s_l4Low t⟩], []⟩, [], false, 0⟩
theorem ok_s_l4Low : ConOk pg 190 con_s_l4Low := ConOk.g1 (Enters.of (by kernel_rfl)) ct_s_l4Low

def F_s_l4Fault (s : (List ((List Int) × (Int) × Unit)) × Unit) (e : (List (Int)) × (List (Int)) × Unit) : Int := eqF s e
def Q_s_l4Fault (s : (List ((List Int) × (Int) × Unit)) × Unit) (e : (List (Int)) × (List (Int)) × Unit) : Prop := sigFault s = 0
def O_s_l4Fault : Opt := ⟨fun i => false, fun i => [], fun i => .done, fun i => none, fun i => false, fun i => [], fun i => false, fun i => none⟩
def τ_s_l4Fault : Env := Env.of [(2, (.int .i64)), (4, .bool), (62, (.sl (.int .i64))), (177, (.pair (.sl (.int .i64)) (.pair (.sl (.int .i64)) .unit)))] [(113, (.pair (.sl (.pair .str (.pair (.int .i64) .unit))) .unit)), (180, (.pair (.sl (.int .i64)) (.pair (.sl (.int .i64)) .unit)))] []

theorem ct_s_l4Fault (s : (List ((List Int) × (Int) × Unit)) × Unit) (e : (List (Int)) × (List (Int)) × Unit) : Ct pg 129 [.dptr (.pair (.sl (.pair .str (.pair (.int .i64) .unit))) .unit) s, .dptr (.pair (.sl (.int .i64)) (.pair (.sl (.int .i64)) .unit)) e] ⟨[Q_s_l4Fault s e], [⟨(.int .i64), .sh, F_s_l4Fault s e⟩], []⟩ := by
  refine ct_claim (O := O_s_l4Fault) (τ := τ_s_l4Fault) (EnvOk.of (by kernel_rfl) (by kernel_rfl)) (GOk.of (.cons ok_s_l3Fault (.cons ok_s_l4Low .nil) : AllOk pg [(189, con_s_l3Fault), (190, con_s_l4Low)])) mixed (Enters.of (by kernel_rfl)) (fn := Go.Proofs.Tryz.f129) (by kernel_rfl) rfl (by kernel_rfl) ?_
  intro hp hw
  have hq : Q_s_l4Fault s e := hp _ (List.mem_singleton.2 rfl)
  clear hp
  change claim Lg.std Alg.std τ_s_l4Fault (Gam.of [(189, ⟨true, g2 (pP (.pair (.sl (.pair .str (.pair (.int .i64) .unit))) .unit)) (pD (.sl (.int .i64))) fun s t => .one ⟨[Q_s_l3Fault s t], [⟨(.int .i64), .sh, F_s_l3Fault s t⟩], []⟩, [], false, 0⟩), (190, ⟨true, g1 (pD (.sl (.int .i64))) fun t => .one ⟨[Q_s_l4Low t], [⟨.bool, .sh, F_s_l4Low t⟩], []⟩, [], false, 0⟩)]) O_s_l4Fault Go.Proofs.Tryz.f129 [.dptr (.pair (.sl (.pair .str (.pair (.int .i64) .unit))) .unit) s, .dptr (.pair (.sl (.int .i64)) (.pair (.sl (.int .i64)) .unit)) e] ⟨[Q_s_l4Fault s e], [⟨(.int .i64), .sh, F_s_l4Fault s e⟩], []⟩
  generalize hg_F_s_l3Fault : F_s_l3Fault = g_F_s_l3Fault
  generalize hg_Q_s_l3Fault : Q_s_l3Fault = g_Q_s_l3Fault
  generalize hg_F_s_l4Low : F_s_l4Low = g_F_s_l4Low
  generalize hg_Q_s_l4Low : Q_s_l4Low = g_Q_s_l4Low
  generalize hR0 : F_s_l4Fault s e = R0
  generalize Q_s_l4Fault s e = Q0
  generalize hL : Lg.std = L
  generalize hA : Alg.std = A
  cbv
  subst hL hA
  try dsimp only [Ty.den]
  obtain ⟨e_0, e_1, ⟨⟩⟩ := e
  subst hR0 hg_F_s_l3Fault hg_Q_s_l3Fault hg_F_s_l4Low hg_Q_s_l4Low
  simp only [Q_s_l4Fault] at hq
  simp only [Lg.std, Alg.std, List.drop_zero, List.take_length, F_s_l3Fault, F_s_l4Low, Q_s_l3Fault, Q_s_l4Low, F_s_l4Fault, eqF] at *
  repeat' (first | intro _ | apply And.intro)
  all_goals grind
def con_s_l4Fault : Con := ⟨true, g2 (pP (.pair (.sl (.pair .str (.pair (.int .i64) .unit))) .unit)) (pP (.pair (.sl (.int .i64)) (.pair (.sl (.int .i64)) .unit))) fun s e => .one ⟨[Q_s_l4Fault s e], [⟨(.int .i64), .sh, F_s_l4Fault s e⟩], []⟩, [], false, 0⟩
theorem ok_s_l4Fault : ConOk pg 129 con_s_l4Fault := ConOk.g2 (Enters.of (by kernel_rfl)) ct_s_l4Fault

def F_i_EquationFault (s : (List ((List Int) × (Int) × Unit)) × Unit) (e : (List (Int)) × (List (Int)) × Unit) : Int := eqFault s e
def Q_i_EquationFault (s : (List ((List Int) × (Int) × Unit)) × Unit) (e : (List (Int)) × (List (Int)) × Unit) : Prop := True
def O_i_EquationFault : Opt := ⟨fun i => false, fun i => [], fun i => (match decide (i = 1) with | true => (.take 1 (.take 5 (.alt 0 (.alt 2 (.alt 3 (.alt 4 (.alt 6 (.alt 7 (.alt 8 (.alt 9 (.take 10 .done) .no) .no) .no) .no) (.alt 6 (.alt 4 (.alt 7 (.alt 8 (.alt 9 (.take 10 .done) .no) .no) .no) .no) .no)) (.alt 4 (.alt 3 (.alt 6 (.alt 7 (.alt 8 (.alt 9 (.take 10 .done) .no) .no) .no) .no) (.alt 6 (.alt 3 (.alt 7 (.alt 8 (.alt 9 (.take 10 .done) .no) .no) .no) .no) .no)) (.alt 6 (.alt 3 (.alt 4 (.alt 7 (.alt 8 (.alt 9 (.take 10 .done) .no) .no) .no) .no) (.alt 4 (.alt 3 (.alt 7 (.alt 8 (.alt 9 (.take 10 .done) .no) .no) .no) .no) .no)) .no))) (.alt 4 (.alt 2 (.alt 3 (.alt 6 (.alt 7 (.alt 8 (.alt 9 (.take 10 .done) .no) .no) .no) .no) (.alt 6 (.alt 3 (.alt 7 (.alt 8 (.alt 9 (.take 10 .done) .no) .no) .no) .no) .no)) (.alt 6 (.alt 2 (.alt 3 (.alt 7 (.alt 8 (.alt 9 (.take 10 .done) .no) .no) .no) .no) .no) .no)) (.alt 6 (.alt 2 (.alt 3 (.alt 4 (.alt 7 (.alt 8 (.alt 9 (.take 10 .done) .no) .no) .no) .no) (.alt 4 (.alt 3 (.alt 7 (.alt 8 (.alt 9 (.take 10 .done) .no) .no) .no) .no) .no)) (.alt 4 (.alt 2 (.alt 3 (.alt 7 (.alt 8 (.alt 9 (.take 10 .done) .no) .no) .no) .no) .no) .no)) .no))) (.alt 2 (.alt 0 (.alt 3 (.alt 4 (.alt 6 (.alt 7 (.alt 8 (.alt 9 (.take 10 .done) .no) .no) .no) .no) (.alt 6 (.alt 4 (.alt 7 (.alt 8 (.alt 9 (.take 10 .done) .no) .no) .no) .no) .no)) (.alt 4 (.alt 3 (.alt 6 (.alt 7 (.alt 8 (.alt 9 (.take 10 .done) .no) .no) .no) .no) (.alt 6 (.alt 3 (.alt 7 (.alt 8 (.alt 9 (.take 10 .done) .no) .no) .no) .no) .no)) (.alt 6 (.alt 3 (.alt 4 (.alt 7 (.alt 8 (.alt 9 (.take 10 .done) .no) .no) .no) .no) (.alt 4 (.alt 3 (.alt 7 (.alt 8 (.alt 9 (.take 10 .done) .no) .no) .no) .no) .no)) .no))) (.alt 4 (.alt 0 (.alt 3 (.alt 6 (.alt 7 (.alt 8 (.alt 9 (.take 10 .done) .no) .no) .no) .no) (.alt 6 (.alt 3 (.alt 7 (.alt 8 (.alt 9 (.take 10 .done) .no) .no) .no) .no) .no)) (.alt 6 (.alt 0 (.alt 3 (.alt 7 (.alt 8 (.alt 9 (.take 10 .done) .no) .no) .no) .no) .no) .no)) (.alt 6 (.alt 0 (.alt 3 (.alt 4 (.alt 7 (.alt 8 (.alt 9 (.take 10 .done) .no) .no) .no) .no) (.alt 4 (.alt 3 (.alt 7 (.alt 8 (.alt 9 (.take 10 .done) .no) .no) .no) .no) .no)) (.alt 4 (.alt 0 (.alt 3 (.alt 7 (.alt 8 (.alt 9 (.take 10 .done) .no) .no) .no) .no) .no) .no)) .no))) (.alt 4 (.alt 0 (.alt 2 (.alt 3 (.alt 6 (.alt 7 (.alt 8 (.alt 9 (.take 10 .done) .no) .no) .no) .no) (.alt 6 (.alt 3 (.alt 7 (.alt 8 (.alt 9 (.take 10 .done) .no) .no) .no) .no) .no)) (.alt 6 (.alt 2 (.alt 3 (.alt 7 (.alt 8 (.alt 9 (.take 10 .done) .no) .no) .no) .no) .no) .no)) (.alt 2 (.alt 0 (.alt 3 (.alt 6 (.alt 7 (.alt 8 (.alt 9 (.take 10 .done) .no) .no) .no) .no) (.alt 6 (.alt 3 (.alt 7 (.alt 8 (.alt 9 (.take 10 .done) .no) .no) .no) .no) .no)) (.alt 6 (.alt 0 (.alt 3 (.alt 7 (.alt 8 (.alt 9 (.take 10 .done) .no) .no) .no) .no) .no) .no)) (.alt 6 (.alt 0 (.alt 2 (.alt 3 (.alt 7 (.alt 8 (.alt 9 (.take 10 .done) .no) .no) .no) .no) .no) (.alt 2 (.alt 0 (.alt 3 (.alt 7 (.alt 8 (.alt 9 (.take 10 .done) .no) .no) .no) .no) .no) .no)) .no))) (.alt 6 (.alt 0 (.alt 2 (.alt 3 (.alt 4 (.alt 7 (.alt 8 (.alt 9 (.take 10 .done) .no) .no) .no) .no) (.alt 4 (.alt 3 (.alt 7 (.alt 8 (.alt 9 (.take 10 .done) .no) .no) .no) .no) .no)) (.alt 4 (.alt 2 (.alt 3 (.alt 7 (.alt 8 (.alt 9 (.take 10 .done) .no) .no) .no) .no) .no) .no)) (.alt 2 (.alt 0 (.alt 3 (.alt 4 (.alt 7 (.alt 8 (.alt 9 (.take 10 .done) .no) .no) .no) .no) (.alt 4 (.alt 3 (.alt 7 (.alt 8 (.alt 9 (.take 10 .done) .no) .no) .no) .no) .no)) (.alt 4 (.alt 0 (.alt 3 (.alt 7 (.alt 8 (.alt 9 (.take 10 .done) .no) .no) .no) .no) .no) .no)) (.alt 4 (.alt 0 (.alt 2 (.alt 3 (.alt 7 (.alt 8 (.alt 9 (.take 10 .done) .no) .no) .no) .no) .no) (.alt 2 (.alt 0 (.alt 3 (.alt 7 (.alt 8 (.alt 9 (.take 10 .done) .no) .no) .no) .no) .no) .no)) .no))) .no)))))) | false => .done), fun i => (match decide (i = 1) with | true => some [false, false, false, true, false, true, false, false, false, false, false, false, false, false, false, false, false, false, false, false, false, false, false, false, false, false] | false => none), fun i => false, fun i => [], fun i => false, fun i => none⟩
def τ_i_EquationFault : Env := Env.of [(2, (.int .i64)), (4, .bool), (30, (.pair (.sl (.pair .str (.pair (.int .i64) .unit))) .unit)), (62, (.sl (.int .i64))), (177, (.pair (.sl (.int .i64)) (.pair (.sl (.int .i64)) .unit))), (283, (.sl (.sl (.int .i64))))] [] []

theorem ct_i_EquationFault (s : (List ((List Int) × (Int) × Unit)) × Unit) (e : (List (Int)) × (List (Int)) × Unit) : Ct pg 196 [.dat (.pair (.sl (.pair .str (.pair (.int .i64) .unit))) .unit) s, .dat (.pair (.sl (.int .i64)) (.pair (.sl (.int .i64)) .unit)) e] ⟨[Q_i_EquationFault s e], [⟨(.int .i64), .sh, F_i_EquationFault s e⟩], []⟩ := by
  refine ct_claim (O := O_i_EquationFault) (τ := τ_i_EquationFault) (EnvOk.of (by kernel_rfl) (by kernel_rfl)) (GOk.of (.cons (ConOk.or ok_sl_ContainsFunc_int64__i_DraftFault_1 (ConOk.or ok_sl_ContainsFunc_int64__i_TermFault_1 ok_sl_ContainsFunc_int64__i_EquationFault_1)) (.cons ok_i_firstCode (.cons ok_i_TermFault (.cons ok_i_varsOf (.cons ok_i_EquationFault_1 .nil)))) : AllOk pg [(150, (Con.or con_sl_ContainsFunc_int64__i_DraftFault_1 (Con.or con_sl_ContainsFunc_int64__i_TermFault_1 con_sl_ContainsFunc_int64__i_EquationFault_1))), (85, con_i_firstCode), (233, con_i_TermFault), (234, con_i_varsOf), (235, con_i_EquationFault_1)])) mixed (Enters.of (by kernel_rfl)) (fn := Go.Proofs.Tryz.f196) (by kernel_rfl) rfl (by kernel_rfl) ?_
  intro hp hw
  have hq : Q_i_EquationFault s e := hp _ (List.mem_singleton.2 rfl)
  clear hp
  change claim Lg.std Alg.std τ_i_EquationFault (Gam.of [(150, Con.or (⟨true, g2 (pD (.sl (.int .i64))) (pC1 151 (pP (.pair (.pair (.sl (.sl (.int .u8))) (.pair (.sl (.pair (.int .i64) (.pair (.sl (.int .u8)) .unit))) .unit)) (.pair (.sl (.int .i64)) (.pair (.sl (.int .i64)) .unit))))) fun s d => .one ⟨[Q_sl_ContainsFunc_int64__i_DraftFault_1 s d], [⟨.bool, .sh, F_sl_ContainsFunc_int64__i_DraftFault_1 s d⟩], []⟩, [], false, 0⟩ : Con) (Con.or (⟨true, g2 (pD (.sl (.int .i64))) (pC1 255 (pP (.pair (.sl (.pair .str (.pair (.int .i64) .unit))) .unit))) fun s g => .one ⟨[Q_sl_ContainsFunc_int64__i_TermFault_1 s g], [⟨.bool, .sh, F_sl_ContainsFunc_int64__i_TermFault_1 s g⟩], []⟩, [], false, 0⟩ : Con) (⟨true, g2 (pD (.sl (.int .i64))) (pC0 235) fun s u => .one ⟨[Q_sl_ContainsFunc_int64__i_EquationFault_1 s u], [⟨.bool, .sh, F_sl_ContainsFunc_int64__i_EquationFault_1 s u⟩], []⟩, [], false, 0⟩))), (85, ⟨true, g1 (pD (.sl (.int .i64))) fun l => .one ⟨[Q_i_firstCode l], [⟨(.int .i64), .sh, F_i_firstCode l⟩], []⟩, [], false, 0⟩), (233, ⟨true, g2 (pD (.pair (.sl (.pair .str (.pair (.int .i64) .unit))) .unit)) (pD (.sl (.int .i64))) fun s t => .one ⟨[Q_i_TermFault s t], [⟨(.int .i64), .sh, F_i_TermFault s t⟩], []⟩, [], false, 0⟩), (234, ⟨true, g1 (pD (.sl (.sl (.int .i64)))) fun ts => .one ⟨[Q_i_varsOf ts], [⟨(.sl (.int .i64)), (.ow .sh), F_i_varsOf ts⟩], []⟩, [], false, 0⟩), (235, ⟨true, g1 (pD (.int .i64)) fun v => .one ⟨[Q_i_EquationFault_1 v], [⟨.bool, .sh, F_i_EquationFault_1 v⟩], []⟩, [], false, 0⟩)]) O_i_EquationFault Go.Proofs.Tryz.f196 [.dat (.pair (.sl (.pair .str (.pair (.int .i64) .unit))) .unit) s, .dat (.pair (.sl (.int .i64)) (.pair (.sl (.int .i64)) .unit)) e] ⟨[Q_i_EquationFault s e], [⟨(.int .i64), .sh, F_i_EquationFault s e⟩], []⟩
  generalize hg_F_sl_ContainsFunc_int64__i_DraftFault_1 : F_sl_ContainsFunc_int64__i_DraftFault_1 = g_F_sl_ContainsFunc_int64__i_DraftFault_1
  generalize hg_Q_sl_ContainsFunc_int64__i_DraftFault_1 : Q_sl_ContainsFunc_int64__i_DraftFault_1 = g_Q_sl_ContainsFunc_int64__i_DraftFault_1
  generalize hg_F_i_firstCode : F_i_firstCode = g_F_i_firstCode
  generalize hg_Q_i_firstCode : Q_i_firstCode = g_Q_i_firstCode
  generalize hg_F_sl_ContainsFunc_int64__i_TermFault_1 : F_sl_ContainsFunc_int64__i_TermFault_1 = g_F_sl_ContainsFunc_int64__i_TermFault_1
  generalize hg_Q_sl_ContainsFunc_int64__i_TermFault_1 : Q_sl_ContainsFunc_int64__i_TermFault_1 = g_Q_sl_ContainsFunc_int64__i_TermFault_1
  generalize hg_F_i_TermFault : F_i_TermFault = g_F_i_TermFault
  generalize hg_Q_i_TermFault : Q_i_TermFault = g_Q_i_TermFault
  generalize hg_F_i_varsOf : F_i_varsOf = g_F_i_varsOf
  generalize hg_Q_i_varsOf : Q_i_varsOf = g_Q_i_varsOf
  generalize hg_F_i_EquationFault_1 : F_i_EquationFault_1 = g_F_i_EquationFault_1
  generalize hg_Q_i_EquationFault_1 : Q_i_EquationFault_1 = g_Q_i_EquationFault_1
  generalize hg_F_sl_ContainsFunc_int64__i_EquationFault_1 : F_sl_ContainsFunc_int64__i_EquationFault_1 = g_F_sl_ContainsFunc_int64__i_EquationFault_1
  generalize hg_Q_sl_ContainsFunc_int64__i_EquationFault_1 : Q_sl_ContainsFunc_int64__i_EquationFault_1 = g_Q_sl_ContainsFunc_int64__i_EquationFault_1
  generalize hR0 : F_i_EquationFault s e = R0
  generalize Q_i_EquationFault s e = Q0
  generalize hL : Lg.std = L
  generalize hA : Alg.std = A
  cbv
  subst hL hA
  try dsimp only [Ty.den]
  obtain ⟨s_0, ⟨⟩⟩ := s
  obtain ⟨e_0, e_1, ⟨⟩⟩ := e
  have hfn : ∀ a b : Int, firstNZ [a, b] = if a ≠ 0 then a else b := fun a b => by
    by_cases ha : a = 0 <;> by_cases hb : b = 0 <;> simp [firstNZ, ha, hb]
  have hv := varsI_two e_0 e_1
  have k0 := fun h => (l3F_ok (s_0, PUnit.unit) e_0 h).1
  have k1 := fun h => (l3F_ok (s_0, PUnit.unit) e_1 h).1
  have hqv : e_0.length ≤ 24 → e_1.length ≤ 24 → qVars [e_0, e_1] := fun h1 h2 => ⟨by simp, fun i hi => by
    match i, hi with
    | 0, _ => exact h1
    | 1, _ => exact h2⟩
  have hT : ∀ t, termFault (s_0, PUnit.unit) t = if sigFault (s_0, PUnit.unit) ≠ 0 then sigFault (s_0, PUnit.unit) else l3F (s_0, PUnit.unit) t := fun _ => rfl
  subst hR0 hg_F_sl_ContainsFunc_int64__i_DraftFault_1 hg_Q_sl_ContainsFunc_int64__i_DraftFault_1 hg_F_i_firstCode hg_Q_i_firstCode hg_F_sl_ContainsFunc_int64__i_TermFault_1 hg_Q_sl_ContainsFunc_int64__i_TermFault_1 hg_F_i_TermFault hg_Q_i_TermFault hg_F_i_varsOf hg_Q_i_varsOf hg_F_i_EquationFault_1 hg_Q_i_EquationFault_1 hg_F_sl_ContainsFunc_int64__i_EquationFault_1 hg_Q_sl_ContainsFunc_int64__i_EquationFault_1
  simp only [Lg.std, Alg.std, List.drop_zero, List.take_length, F_sl_ContainsFunc_int64__i_DraftFault_1, F_i_firstCode, F_sl_ContainsFunc_int64__i_TermFault_1, F_i_TermFault, F_i_varsOf, F_i_EquationFault_1, F_sl_ContainsFunc_int64__i_EquationFault_1, Q_sl_ContainsFunc_int64__i_DraftFault_1, Q_i_firstCode, Q_sl_ContainsFunc_int64__i_TermFault_1, Q_i_TermFault, Q_i_varsOf, Q_i_EquationFault_1, Q_sl_ContainsFunc_int64__i_EquationFault_1, F_i_EquationFault, List.take_succ_cons, List.take_zero, hfn, hv, eqFault, eqF] at *
  generalize hQ : qVars [e_0, e_1] = QV at *
  repeat' (first | intro _ | apply And.intro)
  all_goals grind
def con_i_EquationFault : Con := ⟨true, g2 (pD (.pair (.sl (.pair .str (.pair (.int .i64) .unit))) .unit)) (pD (.pair (.sl (.int .i64)) (.pair (.sl (.int .i64)) .unit))) fun s e => .one ⟨[Q_i_EquationFault s e], [⟨(.int .i64), .sh, F_i_EquationFault s e⟩], []⟩, [], false, 0⟩
theorem ok_i_EquationFault : ConOk pg 196 con_i_EquationFault := ConOk.g2 (Enters.of (by kernel_rfl)) ct_i_EquationFault

def F_i_EquationsFault (s : (List ((List Int) × (Int) × Unit)) × Unit) (l : List ((List (Int)) × (List (Int)) × Unit)) : Int := eqsFault s l
def Q_i_EquationsFault (s : (List ((List Int) × (Int) × Unit)) × Unit) (l : List ((List (Int)) × (List (Int)) × Unit)) : Prop := True
def O_i_EquationsFault : Opt := ⟨fun i => false, fun i => (match decide (i = 7) with | true => [false, false, true, false, false, false, false, false, false, false, false, false, false, false, false, false, false, true, true, true, false, false, false, false, false, false, false, false, false, false] | false => []), fun i => .done, fun i => none, fun i => false, fun i => [], fun i => false, fun i => none⟩
def τ_i_EquationsFault : Env := Env.of [(2, (.int .i64)), (3, (.int .i64)), (4, .bool), (30, (.pair (.sl (.pair .str (.pair (.int .i64) .unit))) .unit)), (49, (.sl (.pair (.sl (.int .i64)) (.pair (.sl (.int .i64)) .unit)))), (177, (.pair (.sl (.int .i64)) (.pair (.sl (.int .i64)) .unit)))] [] []

theorem ct_i_EquationsFault (s : (List ((List Int) × (Int) × Unit)) × Unit) (l : List ((List (Int)) × (List (Int)) × Unit)) : Ct pg 136 [.dat (.pair (.sl (.pair .str (.pair (.int .i64) .unit))) .unit) s, .dat (.sl (.pair (.sl (.int .i64)) (.pair (.sl (.int .i64)) .unit))) l] ⟨[Q_i_EquationsFault s l], [⟨(.int .i64), .sh, F_i_EquationsFault s l⟩], []⟩ := by
  refine ct_claim (O := O_i_EquationsFault) (τ := τ_i_EquationsFault) (EnvOk.of (by kernel_rfl) (by kernel_rfl)) (GOk.of (.cons ok_i_SignatureFault (.cons ok_i_EquationFault .nil) : AllOk pg [(69, con_i_SignatureFault), (196, con_i_EquationFault)])) mixed (Enters.of (by kernel_rfl)) (fn := Go.Proofs.Tryz.f136) (by kernel_rfl) rfl (by kernel_rfl) ?_
  intro hp hw
  have hq : Q_i_EquationsFault s l := hp _ (List.mem_singleton.2 rfl)
  clear hp
  change claim Lg.std Alg.std τ_i_EquationsFault (Gam.of [(69, ⟨true, g1 (pD (.pair (.sl (.pair .str (.pair (.int .i64) .unit))) .unit)) fun s => .one ⟨[Q_i_SignatureFault s], [⟨(.int .i64), .sh, F_i_SignatureFault s⟩], []⟩, [], false, 0⟩), (196, ⟨true, g2 (pD (.pair (.sl (.pair .str (.pair (.int .i64) .unit))) .unit)) (pD (.pair (.sl (.int .i64)) (.pair (.sl (.int .i64)) .unit))) fun s e => .one ⟨[Q_i_EquationFault s e], [⟨(.int .i64), .sh, F_i_EquationFault s e⟩], []⟩, [], false, 0⟩)]) O_i_EquationsFault Go.Proofs.Tryz.f136 [.dat (.pair (.sl (.pair .str (.pair (.int .i64) .unit))) .unit) s, .dat (.sl (.pair (.sl (.int .i64)) (.pair (.sl (.int .i64)) .unit))) l] ⟨[Q_i_EquationsFault s l], [⟨(.int .i64), .sh, F_i_EquationsFault s l⟩], []⟩
  generalize hg_F_i_SignatureFault : F_i_SignatureFault = g_F_i_SignatureFault
  generalize hg_Q_i_SignatureFault : Q_i_SignatureFault = g_Q_i_SignatureFault
  generalize hg_F_i_EquationFault : F_i_EquationFault = g_F_i_EquationFault
  generalize hg_Q_i_EquationFault : Q_i_EquationFault = g_Q_i_EquationFault
  generalize hR0 : F_i_EquationsFault s l = R0
  generalize Q_i_EquationsFault s l = Q0
  generalize hL : Lg.std = L
  generalize hA : Alg.std = A
  cbv
  subst hL hA
  try dsimp only [Ty.den]
  obtain ⟨s_0, ⟨⟩⟩ := s
  have hF : eqsFault (s_0, PUnit.unit) l = if sigFault (s_0, PUnit.unit) ≠ 0 then sigFault (s_0, PUnit.unit) else if l.length > 12 then 2 else eqsBad (s_0, PUnit.unit) l := rfl
  repeat' (first | intro _ | apply And.intro)
  all_goals first | trivial | ((fail_if_success (refine lp_v (V := Unit) (fun _ => ⟨[], []⟩) (fun _ => True) (fun _ => 0) () ?_ ?_ ?_)); subst hR0 hg_F_i_SignatureFault hg_Q_i_SignatureFault hg_F_i_EquationFault hg_Q_i_EquationFault; (try simp only [Alg.std, F_i_SignatureFault, F_i_EquationFault, Q_i_SignatureFault, Q_i_EquationFault, F_i_EquationsFault] at *); all_goals grind) | skip
  all_goals (
    refine lp_v (V := (Int) × (Int)) (fun ((i, M) : (Int) × (Int)) => ⟨[.junk, .junk, .bptr 0 0, .junk, .junk, .junk, .junk, .junk, .junk, .junk, .junk, .junk, .junk, .junk, .junk, .junk, .junk, .dat (.sl (.pair (.sl (.int .i64)) (.pair (.sl (.int .i64)) .unit))) l, .dat (.int .i64) M, .dat (.int .i64) i, .junk, .junk, .junk, .junk, .junk, .junk, .junk, .junk, .junk, .junk], [some (.box [.dat (.sl (.pair .str (.pair (.int .i64) .unit))) s_0])]⟩) (fun ((i, M) : (Int) × (Int)) => sigFault (s_0, PUnit.unit) = 0 ∧ M = l.length ∧ l.length ≤ 12 ∧ 0 ≤ i ∧ i ≤ l.length ∧ eqsBad (s_0, PUnit.unit) (l.drop i.toNat) = eqsBad (s_0, PUnit.unit) l) (fun ((i, M) : (Int) × (Int)) => l.length - i.toNat) (0, _) rfl ?_ ?_
    · (subst hR0 hg_F_i_SignatureFault hg_Q_i_SignatureFault hg_F_i_EquationFault hg_Q_i_EquationFault; simp only [Alg.std, F_i_SignatureFault, F_i_EquationFault, Q_i_SignatureFault, Q_i_EquationFault, F_i_EquationsFault] at *; refine ⟨?_, ?_, ?_, ?_, ?_, ?_⟩ <;> grind)
    rintro ⟨i, M⟩ hf I hI
    replace hf : sigFault (s_0, PUnit.unit) = 0 ∧ M = l.length ∧ l.length ≤ 12 ∧ 0 ≤ i ∧ i ≤ l.length ∧ eqsBad (s_0, PUnit.unit) (l.drop i.toNat) = eqsBad (s_0, PUnit.unit) l := hf
    generalize hL : Lg.std = L
    generalize hA : Alg.std = A
    cbv
    subst hL hA
    try dsimp only [Ty.den]
    subst hI
    obtain ⟨h1, h2, h3, h4, h5, h6⟩ := hf
    have st := fun (h : i.toNat < l.length) => eqsBad_step (s_0, PUnit.unit) l i.toNat h
    have en := fun (h : l.length ≤ i.toNat) => eqsBad_end (s_0, PUnit.unit) l i.toNat h
    have ef : ∀ e, eqFault (s_0, PUnit.unit) e = eqF (s_0, PUnit.unit) e := fun e => by unfold eqFault; exact if_neg (by simpa using h1)
    have es : (i + 1).toNat = i.toNat + 1 := by omega
    repeat' (first | intro _ | apply And.intro)
    all_goals first | (with_reducible exact True.intro) | ((fail_if_success (refine lp_v (V := Unit) (fun _ => ⟨[], []⟩) (fun _ => True) (fun _ => 0) () ?_ ?_ ?_)); (try simp only [Lg.std, Alg.std, List.drop_zero, List.take_length] at *); (try refine ⟨(_, _), rfl, ?_, ?_⟩); (all_goals (subst hR0 hg_F_i_SignatureFault hg_Q_i_SignatureFault hg_F_i_EquationFault hg_Q_i_EquationFault; (try simp only [Lg.std, Alg.std, List.drop_zero, List.take_length, F_i_SignatureFault, F_i_EquationFault, Q_i_SignatureFault, Q_i_EquationFault, F_i_EquationsFault] at *); first | done | (grind)))) | skip)
def con_i_EquationsFault : Con := ⟨true, g2 (pD (.pair (.sl (.pair .str (.pair (.int .i64) .unit))) .unit)) (pD (.sl (.pair (.sl (.int .i64)) (.pair (.sl (.int .i64)) .unit)))) fun s l => .one ⟨[Q_i_EquationsFault s l], [⟨(.int .i64), .sh, F_i_EquationsFault s l⟩], []⟩, [], false, 0⟩
theorem ok_i_EquationsFault : ConOk pg 136 con_i_EquationsFault := ConOk.g2 (Enters.of (by kernel_rfl)) ct_i_EquationsFault

def F_i_packed (t : List (Int)) : List (Int) := packT t
def Q_i_packed (t : List (Int)) : Prop := t.length ≤ 1048576 ∧ ∀ i, i < t.length → -12 ≤ t.getD i 0 ∧ t.getD i 0 ≤ 64
def O_i_packed : Opt := ⟨fun i => false, fun i => (match decide (i = 3) with | true => [false, false, false, true, false, false, false, true, true, true, false, false, false, false, false, false, false, false, false, false, false, false, false, false, false, false, false, false, false] | false => []), fun i => .done, fun i => none, fun i => false, fun i => [], fun i => false, fun i => none⟩
def τ_i_packed : Env := Env.of [(2, (.int .i64)), (3, (.int .i64)), (4, .bool), (5, (.int .u8)), (27, (.sl (.int .u8))), (62, (.sl (.int .i64)))] [] []

theorem ct_i_packed (t : List (Int)) : Ct pg 137 [.dat (.sl (.int .i64)) t] ⟨[Q_i_packed t], [⟨(.sl (.int .u8)), (.ow .sh), F_i_packed t⟩], []⟩ := by
  refine ct_claim (O := O_i_packed) (τ := τ_i_packed) (EnvOk.of (by kernel_rfl) (by kernel_rfl)) (GOk.of (.nil : AllOk pg [])) mixed (Enters.of (by kernel_rfl)) (fn := Go.Proofs.Tryz.f137) (by kernel_rfl) rfl (by kernel_rfl) ?_
  intro hp hw
  have hq : Q_i_packed t := hp _ (List.mem_singleton.2 rfl)
  clear hp
  change claim Lg.std Alg.std τ_i_packed (Gam.of []) O_i_packed Go.Proofs.Tryz.f137 [.dat (.sl (.int .i64)) t] ⟨[Q_i_packed t], [⟨(.sl (.int .u8)), (.ow .sh), F_i_packed t⟩], []⟩
  generalize hR0 : F_i_packed t = R0
  generalize Q_i_packed t = Q0
  generalize hL : Lg.std = L
  generalize hA : Alg.std = A
  cbv
  subst hL hA
  try dsimp only [Ty.den]
  simp only [Q_i_packed] at hq
  obtain ⟨hq1, hq2⟩ := hq
  refine lp_v (V := (Int) × (Int) × (Nat) × (List Int)) (fun ((i, M, N, o) : (Int) × (Int) × (Nat) × (List Int)) => ⟨[.junk, .junk, .junk, .ref (.int .u8) 0 0 [] 0 N, .junk, .junk, .junk, .dat (.sl (.int .i64)) t, .dat (.int .i64) M, .dat (.int .i64) i, .junk, .junk, .junk, .junk, .junk, .junk, .junk, .junk, .junk, .junk, .junk, .junk, .junk, .junk, .junk, .junk, .junk, .junk, .junk], [some (.row 0 (.int .u8) .sh o)]⟩) (fun ((i, M, N, o) : (Int) × (Int) × (Nat) × (List Int)) => M = t.length ∧ 0 ≤ i ∧ i ≤ t.length ∧ N = o.length ∧ (o.length : Int) = i ∧ o ++ packT (t.drop i.toNat) = packT t) (fun ((i, M, N, o) : (Int) × (Int) × (Nat) × (List Int)) => t.length - i.toNat) (0, _, _, _) rfl ?_ ?_
  · (subst hR0; simp only [Alg.std] at *; exact ⟨by simp, by simp, by simp, by simp, by simp, by simp⟩)
  rintro ⟨i, M, N, o⟩ hf I hI
  replace hf : M = t.length ∧ 0 ≤ i ∧ i ≤ t.length ∧ N = o.length ∧ (o.length : Int) = i ∧ o ++ packT (t.drop i.toNat) = packT t := hf
  generalize hL : Lg.std = L
  generalize hA : Alg.std = A
  cbv
  subst hL hA
  try dsimp only [Ty.den]
  subst hI
  replace hf := hf
  obtain ⟨h1, h2, h3, h4, h5, h6⟩ := hf
  have st := fun (h : i.toNat < t.length) => packT_step t i.toNat h
  have en := fun (h : t.length ≤ i.toNat) => packT_end t i.toNat h
  have rg := fun (h : i.toNat < t.length) => hq2 i.toNat h
  have es : (i + 1).toNat = i.toNat + 1 := by omega
  clear hq2
  repeat' (first | intro _ | apply And.intro)
  all_goals first | (with_reducible exact True.intro) | ((fail_if_success (refine lp_v (V := Unit) (fun _ => ⟨[], []⟩) (fun _ => True) (fun _ => 0) () ?_ ?_ ?_)); (try simp only [Lg.std, Alg.std, List.drop_zero, List.take_length] at *); (try refine ⟨(_, _, _, _), rfl, ?_, ?_⟩); (all_goals (subst hR0; (try simp only [Lg.std, Alg.std, List.drop_zero, List.take_length, F_i_packed] at *); first | done | (grind [wrap8])))) | skip
def con_i_packed : Con := ⟨true, g1 (pD (.sl (.int .i64))) fun t => .one ⟨[Q_i_packed t], [⟨(.sl (.int .u8)), (.ow .sh), F_i_packed t⟩], []⟩, [], false, 0⟩
theorem ok_i_packed : ConOk pg 137 con_i_packed := ConOk.g1 (Enters.of (by kernel_rfl)) ct_i_packed

def F_i_packedEquations (l : List ((List (Int)) × (List (Int)) × Unit)) : List (Int) := packEqs l
def Q_i_packedEquations (l : List ((List (Int)) × (List (Int)) × Unit)) : Prop := qEqs l
def O_i_packedEquations : Opt := ⟨fun i => false, fun i => (match decide (i = 3) with | true => [false, false, false, true, false, false, false, false, false, false, true, true, true, false, false, false, false, false, false, false, false, false, false, false, false, false, false] | false => []), fun i => (match decide (i = 5) with | true => (.take 0 (.take 1 (.take 5 (.alt 2 (.alt 3 (.alt 4 (.alt 6 (.alt 7 (.alt 8 (.take 9 .done) .no) .no) .no) (.alt 6 (.alt 4 (.alt 7 (.alt 8 (.take 9 .done) .no) .no) .no) .no)) (.alt 6 (.alt 3 (.alt 4 (.alt 7 (.alt 8 (.take 9 .done) .no) .no) .no) .no) .no)) (.alt 6 (.alt 2 (.alt 3 (.alt 4 (.alt 7 (.alt 8 (.take 9 .done) .no) .no) .no) .no) .no) .no))))) | false => .done), fun i => (match decide (i = 5) with | true => some [false, false, false, true, false, false, false, false, false, false, true, true, true, false, false, false, false, false, false, false, false, false, false, false, false, false, false] | false => none), fun i => false, fun i => [], fun i => false, fun i => none⟩
def τ_i_packedEquations : Env := Env.of [(2, (.int .i64)), (3, (.int .i64)), (5, (.int .u8)), (27, (.sl (.int .u8))), (49, (.sl (.pair (.sl (.int .i64)) (.pair (.sl (.int .i64)) .unit)))), (62, (.sl (.int .i64))), (177, (.pair (.sl (.int .i64)) (.pair (.sl (.int .i64)) .unit)))] [] []

theorem ct_i_packedEquations (l : List ((List (Int)) × (List (Int)) × Unit)) : Ct pg 73 [.dat (.sl (.pair (.sl (.int .i64)) (.pair (.sl (.int .i64)) .unit))) l] ⟨[Q_i_packedEquations l], [⟨(.sl (.int .u8)), (.ow .sh), F_i_packedEquations l⟩], []⟩ := by
  refine ct_claim (O := O_i_packedEquations) (τ := τ_i_packedEquations) (EnvOk.of (by kernel_rfl) (by kernel_rfl)) (GOk.of (.cons ok_i_packed .nil : AllOk pg [(137, con_i_packed)])) mixed (Enters.of (by kernel_rfl)) (fn := Go.Proofs.Tryz.f73) (by kernel_rfl) rfl (by kernel_rfl) ?_
  intro hp hw
  have hq : Q_i_packedEquations l := hp _ (List.mem_singleton.2 rfl)
  clear hp
  change claim Lg.std Alg.std τ_i_packedEquations (Gam.of [(137, ⟨true, g1 (pD (.sl (.int .i64))) fun t => .one ⟨[Q_i_packed t], [⟨(.sl (.int .u8)), (.ow .sh), F_i_packed t⟩], []⟩, [], false, 0⟩)]) O_i_packedEquations Go.Proofs.Tryz.f73 [.dat (.sl (.pair (.sl (.int .i64)) (.pair (.sl (.int .i64)) .unit))) l] ⟨[Q_i_packedEquations l], [⟨(.sl (.int .u8)), (.ow .sh), F_i_packedEquations l⟩], []⟩
  generalize hg_F_i_packed : F_i_packed = g_F_i_packed
  generalize hg_Q_i_packed : Q_i_packed = g_Q_i_packed
  generalize hR0 : F_i_packedEquations l = R0
  generalize Q_i_packedEquations l = Q0
  generalize hL : Lg.std = L
  generalize hA : Alg.std = A
  cbv
  subst hL hA
  try dsimp only [Ty.den]
  simp only [Q_i_packedEquations] at hq
  obtain ⟨hq1, hq2⟩ := hq
  refine lp_v (V := (Int) × (Int) × (Nat) × (List Int)) (fun ((i, M, N, o) : (Int) × (Int) × (Nat) × (List Int)) => ⟨[.junk, .junk, .junk, .ref (.int .u8) 0 0 [] 0 N, .junk, .junk, .junk, .junk, .junk, .junk, .dat (.sl (.pair (.sl (.int .i64)) (.pair (.sl (.int .i64)) .unit))) l, .dat (.int .i64) M, .dat (.int .i64) i, .junk, .junk, .junk, .junk, .junk, .junk, .junk, .junk, .junk, .junk, .junk, .junk, .junk, .junk], [some (.row 0 (.int .u8) .sh o)]⟩) (fun ((i, M, N, o) : (Int) × (Int) × (Nat) × (List Int)) => M = l.length ∧ 0 ≤ i ∧ i ≤ l.length ∧ N = o.length ∧ (o.length : Int) ≤ 1 + 48 * i ∧ o ++ pkEqs (l.drop i.toNat) = packEqs l) (fun ((i, M, N, o) : (Int) × (Int) × (Nat) × (List Int)) => l.length - i.toNat) (0, _, _, _) rfl ?_ ?_
  · (subst hR0 hg_F_i_packed hg_Q_i_packed; simp only [Alg.std] at *; exact ⟨by simp, by simp, by simp, by simp, by simp, by simp [packEqs, wrap8]⟩)
  rintro ⟨i, M, N, o⟩ hf I hI
  replace hf : M = l.length ∧ 0 ≤ i ∧ i ≤ l.length ∧ N = o.length ∧ (o.length : Int) ≤ 1 + 48 * i ∧ o ++ pkEqs (l.drop i.toNat) = packEqs l := hf
  generalize hL : Lg.std = L
  generalize hA : Alg.std = A
  cbv
  subst hL hA
  try dsimp only [Ty.den]
  subst hI
  have hf := hf
  obtain ⟨h1, h2, h3, h4, h5, h6⟩ := hf
  have st := fun (h : i.toNat < l.length) => pkEqs_step l i.toNat h
  have en := fun (h : l.length ≤ i.toNat) => pkEqs_end l i.toNat h
  have rg := fun (h : i.toNat < l.length) => hq2 i.toNat h
  have rp := fun (h : i.toNat < l.length) (k : Nat) => (okE_rng _ (rg h)).1 k
  have rl := fun (h : i.toNat < l.length) => okE_len _ (rg h)
  have rq := fun (h : i.toNat < l.length) (k : Nat) => (okE_rng _ (rg h)).2 k
  have pl := packT_len
  have es : (i + 1).toNat = i.toNat + 1 := by omega
  clear hq2
  repeat' (first | intro _ | apply And.intro)
  all_goals first | (with_reducible exact True.intro) | ((fail_if_success (refine lp_v (V := Unit) (fun _ => ⟨[], []⟩) (fun _ => True) (fun _ => 0) () ?_ ?_ ?_)); (try simp only [Lg.std, Alg.std, List.drop_zero, List.take_length] at *); (try refine ⟨(_, _, _, _), rfl, ?_, ?_⟩); (all_goals (subst hR0 hg_F_i_packed hg_Q_i_packed; (try simp only [Lg.std, Alg.std, List.drop_zero, List.take_length, F_i_packed, Q_i_packed, F_i_packedEquations] at *); first | done | (grind [okE])))) | skip
def con_i_packedEquations : Con := ⟨true, g1 (pD (.sl (.pair (.sl (.int .i64)) (.pair (.sl (.int .i64)) .unit)))) fun l => .one ⟨[Q_i_packedEquations l], [⟨(.sl (.int .u8)), (.ow .sh), F_i_packedEquations l⟩], []⟩, [], false, 0⟩
theorem ok_i_packedEquations : ConOk pg 73 con_i_packedEquations := ConOk.g1 (Enters.of (by kernel_rfl)) ct_i_packedEquations

def F_i_byteReader_equations (r : (List (Int)) × (Bool) × Unit) (s : (List ((List Int) × (Int) × Unit)) × Unit) : List ((List (Int)) × (List (Int)) × Unit) := (eqsRd s r).1
def B_i_byteReader_equations_r (r : (List (Int)) × (Bool) × Unit) (s : (List ((List Int) × (Int) × Unit)) × Unit) : (List (Int)) × (Bool) × Unit := (eqsRd s r).2
def Q_i_byteReader_equations (r : (List (Int)) × (Bool) × Unit) (s : (List ((List Int) × (Int) × Unit)) × Unit) : Prop := sigFault s = 0
def O_i_byteReader_equations : Opt := ⟨fun i => false, fun i => (match decide (i = 3) with | true => [true, false, false, true, false, true, false, false, false, true, true, false, false, false, false, false, false, false, false, false, false, false, false, false, false, false, false, false, false, false, false, false, false, false, false, false, false, false, false, false, false, false] | false => []), fun i => .done, fun i => none, fun i => (match decide (i = 3) with | true => true | false => false), fun i => [], fun i => false, fun i => none⟩
def τ_i_byteReader_equations : Env := Env.of [(2, (.int .i64)), (4, .bool), (30, (.pair (.sl (.pair .str (.pair (.int .i64) .unit))) .unit)), (49, (.sl (.pair (.sl (.int .i64)) (.pair (.sl (.int .i64)) .unit)))), (62, (.sl (.int .i64))), (117, (.pair (.sl (.int .u8)) (.pair .bool .unit))), (177, (.pair (.sl (.int .i64)) (.pair (.sl (.int .i64)) .unit)))] [(115, (.pair (.sl (.int .u8)) (.pair .bool .unit)))] []

theorem ct_i_byteReader_equations (r : (List (Int)) × (Bool) × Unit) (s : (List ((List Int) × (Int) × Unit)) × Unit) : Ct pg 70 [.mp (.pair (.sl (.int .u8)) (.pair .bool .unit)) .sh r, .dat (.pair (.sl (.pair .str (.pair (.int .i64) .unit))) .unit) s] ⟨[Q_i_byteReader_equations r s], [⟨(.sl (.pair (.sl (.int .i64)) (.pair (.sl (.int .i64)) .unit))), (.ow (.pr (.ow .sh) (.pr (.ow .sh) .sh))), F_i_byteReader_equations r s⟩], [.mp (.pair (.sl (.int .u8)) (.pair .bool .unit)) .sh (B_i_byteReader_equations_r r s)]⟩ := by
  refine ct_claim (O := O_i_byteReader_equations) (τ := τ_i_byteReader_equations) (EnvOk.of (by kernel_rfl) (by kernel_rfl)) (GOk.of (.cons ok_i_byteReader_one (.cons ok_i_byteReader_term (.cons ok_i_EquationsFault .nil)) : AllOk pg [(95, con_i_byteReader_one), (135, con_i_byteReader_term), (136, con_i_EquationsFault)])) mixed (Enters.of (by kernel_rfl)) (fn := Go.Proofs.Tryz.f70) (by kernel_rfl) rfl (by kernel_rfl) ?_
  intro hp hw
  have hq : Q_i_byteReader_equations r s := hp _ (List.mem_singleton.2 rfl)
  clear hp
  change claim Lg.std Alg.std τ_i_byteReader_equations (Gam.of [(95, ⟨true, g1 (pW (.pair (.sl (.int .u8)) (.pair .bool .unit)) .sh) fun r => .one ⟨[Q_i_byteReader_one r], [⟨(.int .i64), .sh, F_i_byteReader_one r⟩], [.mp (.pair (.sl (.int .u8)) (.pair .bool .unit)) .sh (B_i_byteReader_one_r r)]⟩, [.sh], false, 0⟩), (135, ⟨true, g2 (pW (.pair (.sl (.int .u8)) (.pair .bool .unit)) .sh) (pD (.pair (.sl (.pair .str (.pair (.int .i64) .unit))) .unit)) fun r s => .one ⟨[Q_i_byteReader_term r s], [⟨(.sl (.int .i64)), (.ow .sh), F_i_byteReader_term r s⟩], [.mp (.pair (.sl (.int .u8)) (.pair .bool .unit)) .sh (B_i_byteReader_term_r r s)]⟩, [.sh], false, 0⟩), (136, ⟨true, g2 (pD (.pair (.sl (.pair .str (.pair (.int .i64) .unit))) .unit)) (pD (.sl (.pair (.sl (.int .i64)) (.pair (.sl (.int .i64)) .unit)))) fun s l => .one ⟨[Q_i_EquationsFault s l], [⟨(.int .i64), .sh, F_i_EquationsFault s l⟩], []⟩, [], false, 0⟩)]) O_i_byteReader_equations Go.Proofs.Tryz.f70 [.mp (.pair (.sl (.int .u8)) (.pair .bool .unit)) .sh r, .dat (.pair (.sl (.pair .str (.pair (.int .i64) .unit))) .unit) s] ⟨[Q_i_byteReader_equations r s], [⟨(.sl (.pair (.sl (.int .i64)) (.pair (.sl (.int .i64)) .unit))), (.ow (.pr (.ow .sh) (.pr (.ow .sh) .sh))), F_i_byteReader_equations r s⟩], [.mp (.pair (.sl (.int .u8)) (.pair .bool .unit)) .sh (B_i_byteReader_equations_r r s)]⟩
  generalize hg_F_i_byteReader_one : F_i_byteReader_one = g_F_i_byteReader_one
  generalize hg_B_i_byteReader_one_r : B_i_byteReader_one_r = g_B_i_byteReader_one_r
  generalize hg_Q_i_byteReader_one : Q_i_byteReader_one = g_Q_i_byteReader_one
  generalize hg_F_i_byteReader_term : F_i_byteReader_term = g_F_i_byteReader_term
  generalize hg_B_i_byteReader_term_r : B_i_byteReader_term_r = g_B_i_byteReader_term_r
  generalize hg_Q_i_byteReader_term : Q_i_byteReader_term = g_Q_i_byteReader_term
  generalize hg_F_i_EquationsFault : F_i_EquationsFault = g_F_i_EquationsFault
  generalize hg_Q_i_EquationsFault : Q_i_EquationsFault = g_Q_i_EquationsFault
  generalize hR0 : F_i_byteReader_equations r s = R0
  generalize hB_r : B_i_byteReader_equations_r r s = B_r
  generalize Q_i_byteReader_equations r s = Q0
  generalize hL : Lg.std = L
  generalize hA : Alg.std = A
  cbv
  subst hL hA
  try dsimp only [Ty.den]
  obtain ⟨r_0, r_1, ⟨⟩⟩ := r
  obtain ⟨s_0, ⟨⟩⟩ := s
  simp only [Q_i_byteReader_equations] at hq
  have hby := u8s hw.1.1.2
  generalize g0 : g_B_i_byteReader_one_r (r_0, r_1, PUnit.unit) = r0 at *
  obtain ⟨x0, f0, ⟨⟩⟩ := r0
  try dsimp only
  repeat' (first | intro _ | apply And.intro)
  all_goals first | trivial | ((fail_if_success (refine lp_v (V := Unit) (fun _ => ⟨[], []⟩) (fun _ => True) (fun _ => 0) () ?_ ?_ ?_)); subst hR0 hB_r hg_F_i_byteReader_one hg_B_i_byteReader_one_r hg_Q_i_byteReader_one hg_F_i_byteReader_term hg_B_i_byteReader_term_r hg_Q_i_byteReader_term hg_F_i_EquationsFault hg_Q_i_EquationsFault; (try simp only [Alg.std, F_i_byteReader_one, F_i_byteReader_term, F_i_EquationsFault, B_i_byteReader_one_r, B_i_byteReader_term_r, Q_i_byteReader_one, Q_i_byteReader_term, Q_i_EquationsFault, F_i_byteReader_equations, B_i_byteReader_equations_r] at *); all_goals grind) | skip
  all_goals (
    refine lp_v (V := (Int) × (Int) × (List Int) × (Bool) × (Nat) × (List ((List (Int)) × (List (Int)) × Unit))) (fun ((i, c, x, f, N, L) : (Int) × (Int) × (List Int) × (Bool) × (Nat) × (List ((List (Int)) × (List (Int)) × Unit))) => ⟨[.bptr 0 0, .junk, .junk, .bptr 1 0, .junk, .ref (.pair (.sl (.int .i64)) (.pair (.sl (.int .i64)) .unit)) 2 0 [] 0 N, .junk, .junk, .junk, .dat (.int .i64) c, .dat (.int .i64) i, .junk, .junk, .junk, .junk, .junk, .junk, .junk, .junk, .junk, .junk, .junk, .junk, .junk, .junk, .junk, .junk, .junk, .junk, .junk, .junk, .junk, .junk, .junk, .junk, .junk, .junk, .junk, .junk, .junk, .junk, .junk], [some (.box [.dat (.sl (.int .u8)) x, .dat .bool f]), some (.box [.dat (.sl (.pair .str (.pair (.int .i64) .unit))) s_0]), some (.row 0 (.pair (.sl (.int .i64)) (.pair (.sl (.int .i64)) .unit)) (.pr (.ow .sh) (.pr (.ow .sh) .sh)) L), some (.gh [.bptr 0 0])]⟩) (fun ((i, c, x, f, N, L) : (Int) × (Int) × (List Int) × (Bool) × (Nat) × (List ((List (Int)) × (List (Int)) × Unit))) => sigFault (s_0, PUnit.unit) = 0 ∧ 0 ≤ i ∧ i ≤ c ∧ c ≤ 255 ∧ N = L.length ∧ (L.length : Int) ≤ i ∧ eqL (s_0, PUnit.unit) (c - i).toNat (x, f, PUnit.unit) L = eqRd0 (s_0, PUnit.unit) (r_0, r_1, PUnit.unit)) (fun ((i, c, x, f, N, L) : (Int) × (Int) × (List Int) × (Bool) × (Nat) × (List ((List (Int)) × (List (Int)) × Unit))) => (c - i).toNat) (0, _, _, _, _, _) rfl ?_ ?_
    · (subst hR0 hB_r hg_F_i_byteReader_one hg_B_i_byteReader_one_r hg_Q_i_byteReader_one hg_F_i_byteReader_term hg_B_i_byteReader_term_r hg_Q_i_byteReader_term hg_F_i_EquationsFault hg_Q_i_EquationsFault; simp only [Alg.std, F_i_byteReader_one, F_i_byteReader_term, F_i_EquationsFault, B_i_byteReader_one_r, B_i_byteReader_term_r, Q_i_byteReader_one, Q_i_byteReader_term, Q_i_EquationsFault, F_i_byteReader_equations, B_i_byteReader_equations_r] at *; have e2 : 0 ≤ rdOne (r_0, r_1, PUnit.unit) ∧ rdOne (r_0, r_1, PUnit.unit) ≤ 255 := rdOne_byte r_0 r_1 hby; refine ⟨hq, by simp, by omega, by omega, by simp, by simp, ?_⟩; unfold eqRd0; rw [← g0, Int.sub_zero])
    rintro ⟨i, c, x, f, N, L⟩ hf I hI
    replace hf : sigFault (s_0, PUnit.unit) = 0 ∧ 0 ≤ i ∧ i ≤ c ∧ c ≤ 255 ∧ N = L.length ∧ (L.length : Int) ≤ i ∧ eqL (s_0, PUnit.unit) (c - i).toNat (x, f, PUnit.unit) L = eqRd0 (s_0, PUnit.unit) (r_0, r_1, PUnit.unit) := hf
    generalize hL : Lg.std = L
    generalize hA : Alg.std = A
    cbv
    subst hL hA
    try dsimp only [Ty.den]
    subst hI
    obtain ⟨h1, h2, h3, h4, h5, h6, h7⟩ := hf
    generalize u1 : g_B_i_byteReader_term_r (x, f, PUnit.unit) (s_0, PUnit.unit) = ru at *
    obtain ⟨x1, f1, ⟨⟩⟩ := ru
    try dsimp only
    generalize u2 : g_F_i_byteReader_term (x, f, PUnit.unit) (s_0, PUnit.unit) = tl at *
    generalize v1 : g_B_i_byteReader_term_r (x1, f1, PUnit.unit) (s_0, PUnit.unit) = rv at *
    obtain ⟨x2, f2, ⟨⟩⟩ := rv
    try dsimp only
    generalize v2 : g_F_i_byteReader_term (x1, f1, PUnit.unit) (s_0, PUnit.unit) = tr at *
    have st := eqL_step (s_0, PUnit.unit) (c - i).toNat (x, f, PUnit.unit) L
    have hE1 : f = true → eqRd0 (s_0, PUnit.unit) (r_0, r_1, PUnit.unit) = (L, (x, f, PUnit.unit)) := fun h => by rw [← h7, h]; exact eqL_failed _ _ _ _
    have hE2 : ¬ i < c → eqRd0 (s_0, PUnit.unit) (r_0, r_1, PUnit.unit) = (L, (x, f, PUnit.unit)) := fun h => by rw [← h7, show (c - i).toNat = 0 by omega]; rfl
    have hR : eqsRd (s_0, PUnit.unit) (r_0, r_1, PUnit.unit) = ((eqRd0 (s_0, PUnit.unit) (r_0, r_1, PUnit.unit)).1, ((eqRd0 (s_0, PUnit.unit) (r_0, r_1, PUnit.unit)).2.1, (eqRd0 (s_0, PUnit.unit) (r_0, r_1, PUnit.unit)).2.2.1 || decide (eqsFault (s_0, PUnit.unit) (eqRd0 (s_0, PUnit.unit) (r_0, r_1, PUnit.unit)).1 ≠ 0), PUnit.unit)) := rfl
    have hN : List.take N L = L := by rw [h5]; exact List.take_length
    have es : (c - (i + 1)).toNat = (c - i).toNat - 1 := by omega
    repeat' (first | intro _ | apply And.intro)
    all_goals first | (with_reducible exact True.intro) | ((fail_if_success (refine lp_v (V := Unit) (fun _ => ⟨[], []⟩) (fun _ => True) (fun _ => 0) () ?_ ?_ ?_)); (try simp only [Lg.std, Alg.std, List.drop_zero, List.take_length] at *); (try refine ⟨(_, _, _, _, _, _), rfl, ?_, ?_⟩); (all_goals (subst hR0 hB_r hg_F_i_byteReader_one hg_B_i_byteReader_one_r hg_Q_i_byteReader_one hg_F_i_byteReader_term hg_B_i_byteReader_term_r hg_Q_i_byteReader_term hg_F_i_EquationsFault hg_Q_i_EquationsFault; (try simp only [Lg.std, Alg.std, List.drop_zero, List.take_length, F_i_byteReader_one, F_i_byteReader_term, F_i_EquationsFault, B_i_byteReader_one_r, B_i_byteReader_term_r, Q_i_byteReader_one, Q_i_byteReader_term, Q_i_EquationsFault, F_i_byteReader_equations, B_i_byteReader_equations_r] at *); first | done | (have q1 : rdL (s_0, PUnit.unit) (x, f, PUnit.unit) = tl := u2; have q2 : rdR (s_0, PUnit.unit) (x, f, PUnit.unit) = tr := (by unfold rdR; rw [u1]; exact v2); have q3 : rd2 (s_0, PUnit.unit) (x, f, PUnit.unit) = (x2, f2, PUnit.unit) := (by unfold rd2; rw [u1]; exact v1); clear u1 u2 v1 v2; (try simp only [hN]); grind)))) | skip)
def con_i_byteReader_equations : Con := ⟨true, g2 (pW (.pair (.sl (.int .u8)) (.pair .bool .unit)) .sh) (pD (.pair (.sl (.pair .str (.pair (.int .i64) .unit))) .unit)) fun r s => .one ⟨[Q_i_byteReader_equations r s], [⟨(.sl (.pair (.sl (.int .i64)) (.pair (.sl (.int .i64)) .unit))), (.ow (.pr (.ow .sh) (.pr (.ow .sh) .sh))), F_i_byteReader_equations r s⟩], [.mp (.pair (.sl (.int .u8)) (.pair .bool .unit)) .sh (B_i_byteReader_equations_r r s)]⟩, [.sh], false, 0⟩
theorem ok_i_byteReader_equations : ConOk pg 70 con_i_byteReader_equations := ConOk.g2 (Enters.of (by kernel_rfl)) ct_i_byteReader_equations

def F_s_l5ReadAll (s : (List ((List Int) × (Int) × Unit)) × Unit) (d : List (Int)) : List ((List (Int)) × (List (Int)) × Unit) := (l5All s d).1
def F_s_l5ReadAll_1 (s : (List ((List Int) × (Int) × Unit)) × Unit) (d : List (Int)) : Int := (l5All s d).2
def Q_s_l5ReadAll (s : (List ((List Int) × (Int) × Unit)) × Unit) (d : List (Int)) : Prop := sigFault s = 0
def O_s_l5ReadAll : Opt := ⟨fun i => false, fun i => (match decide (i = 6) with | true => [true, true, false, false, false, false, true, true, true, false, false, false, false, false, false, false, false, false, false, false, false, false, false, false, false, false, false, false, false, false, false, false, false, false, false, false, false, false, false, false, false, false, false, false, false, false, false, false, false, false, false, false, false, false, false, false, false, false, false, false] | false => []), fun i => .done, fun i => none, fun i => false, fun i => [], fun i => false, fun i => none⟩
def τ_s_l5ReadAll : Env := Env.of [(2, (.int .i64)), (3, (.int .i64)), (4, .bool), (5, (.int .u8)), (27, (.sl (.int .u8))), (49, (.sl (.pair (.sl (.int .i64)) (.pair (.sl (.int .i64)) .unit)))), (62, (.sl (.int .i64))), (177, (.pair (.sl (.int .i64)) (.pair (.sl (.int .i64)) .unit)))] [(113, (.pair (.sl (.pair .str (.pair (.int .i64) .unit))) .unit)), (180, (.pair (.sl (.int .i64)) (.pair (.sl (.int .i64)) .unit)))] []

theorem ct_s_l5ReadAll (s : (List ((List Int) × (Int) × Unit)) × Unit) (d : List (Int)) : Ct pg 67 [.dptr (.pair (.sl (.pair .str (.pair (.int .i64) .unit))) .unit) s, .dat (.sl (.int .u8)) d] ⟨[Q_s_l5ReadAll s d], [⟨(.sl (.pair (.sl (.int .i64)) (.pair (.sl (.int .i64)) .unit))), (.ow (.pr (.ow .sh) (.pr (.ow .sh) .sh))), F_s_l5ReadAll s d⟩, ⟨(.int .i64), .sh, F_s_l5ReadAll_1 s d⟩], []⟩ := by
  refine ct_claim (O := O_s_l5ReadAll) (τ := τ_s_l5ReadAll) (EnvOk.of (by kernel_rfl) (by kernel_rfl)) (GOk.of (.cons ok_s_l5Read (.cons ok_s_l4Fault .nil) : AllOk pg [(128, con_s_l5Read), (129, con_s_l4Fault)])) mixed (Enters.of (by kernel_rfl)) (fn := Go.Proofs.Tryz.f67) (by kernel_rfl) rfl (by kernel_rfl) ?_
  intro hp hw
  have hq : Q_s_l5ReadAll s d := hp _ (List.mem_singleton.2 rfl)
  clear hp
  change claim Lg.std Alg.std τ_s_l5ReadAll (Gam.of [(128, ⟨true, g2 (pP (.pair (.sl (.pair .str (.pair (.int .i64) .unit))) .unit)) (pD (.sl (.int .u8))) fun s d => .one ⟨[Q_s_l5Read s d], [⟨(.sl (.int .i64)), (.ow .sh), F_s_l5Read s d⟩], []⟩, [], false, 0⟩), (129, ⟨true, g2 (pP (.pair (.sl (.pair .str (.pair (.int .i64) .unit))) .unit)) (pP (.pair (.sl (.int .i64)) (.pair (.sl (.int .i64)) .unit))) fun s e => .one ⟨[Q_s_l4Fault s e], [⟨(.int .i64), .sh, F_s_l4Fault s e⟩], []⟩, [], false, 0⟩)]) O_s_l5ReadAll Go.Proofs.Tryz.f67 [.dptr (.pair (.sl (.pair .str (.pair (.int .i64) .unit))) .unit) s, .dat (.sl (.int .u8)) d] ⟨[Q_s_l5ReadAll s d], [⟨(.sl (.pair (.sl (.int .i64)) (.pair (.sl (.int .i64)) .unit))), (.ow (.pr (.ow .sh) (.pr (.ow .sh) .sh))), F_s_l5ReadAll s d⟩, ⟨(.int .i64), .sh, F_s_l5ReadAll_1 s d⟩], []⟩
  generalize hg_F_s_l5Read : F_s_l5Read = g_F_s_l5Read
  generalize hg_Q_s_l5Read : Q_s_l5Read = g_Q_s_l5Read
  generalize hg_F_s_l4Fault : F_s_l4Fault = g_F_s_l4Fault
  generalize hg_Q_s_l4Fault : Q_s_l4Fault = g_Q_s_l4Fault
  generalize hR0 : F_s_l5ReadAll s d = R0
  generalize hR1 : F_s_l5ReadAll_1 s d = R1
  generalize Q_s_l5ReadAll s d = Q0
  generalize hL : Lg.std = L
  generalize hA : Alg.std = A
  cbv
  subst hL hA
  try dsimp only [Ty.den]
  obtain ⟨s_0, ⟨⟩⟩ := s
  simp only [Q_s_l5ReadAll] at hq
  have hby := u8s hw.2.1.2
  have b0 := getD_byte d hby 0
  have hdl : d.length ≤ 9223372036854775807 := hw.2.1.1
  have hA : l5All (s_0, PUnit.unit) d = if d.length < 1 ∨ d.getD 0 0 > 12 then ([], 0) else match l5A (s_0, PUnit.unit) (d.getD 0 0).toNat (d.drop 1) [] with
    | none => ([], 0)
    | some (o, x) => (o, (d.length : Int) - x.length) := rfl
  have hA0 : (d.length < 1 ∨ d.getD 0 0 > 12) → l5All (s_0, PUnit.unit) d = ([], 0) := fun h => if_pos h
  repeat' (first | intro _ | apply And.intro)
  all_goals first | trivial | ((fail_if_success (refine lp_v (V := Unit) (fun _ => ⟨[], []⟩) (fun _ => True) (fun _ => 0) () ?_ ?_ ?_)); subst hR0 hR1 hg_F_s_l5Read hg_Q_s_l5Read hg_F_s_l4Fault hg_Q_s_l4Fault; (try simp only [Alg.std, F_s_l5Read, F_s_l4Fault, Q_s_l5Read, Q_s_l4Fault, F_s_l5ReadAll, F_s_l5ReadAll_1] at *); all_goals grind) | skip
  all_goals (
    refine lp_v (V := (Int) × (Int) × (Nat) × (List ((List (Int)) × (List (Int)) × Unit))) (fun ((i, a, N, L) : (Int) × (Int) × (Nat) × (List ((List (Int)) × (List (Int)) × Unit))) => ⟨[.dptr (.pair (.sl (.pair .str (.pair (.int .i64) .unit))) .unit) (s_0, PUnit.unit), .dat (.sl (.int .u8)) d, .junk, .junk, .junk, .junk, .ref (.pair (.sl (.int .i64)) (.pair (.sl (.int .i64)) .unit)) 0 0 [] 0 N, .dat (.int .i64) a, .dat (.int .i64) i, .junk, .junk, .junk, .junk, .junk, .junk, .junk, .junk, .junk, .junk, .junk, .junk, .junk, .junk, .junk, .junk, .junk, .junk, .junk, .junk, .junk, .junk, .junk, .junk, .junk, .junk, .junk, .junk, .junk, .junk, .junk, .junk, .junk, .junk, .junk, .junk, .junk, .junk, .junk, .junk, .junk, .junk, .junk, .junk, .junk, .junk, .junk, .junk, .junk, .junk, .junk], [some (.row 0 (.pair (.sl (.int .i64)) (.pair (.sl (.int .i64)) .unit)) (.pr (.ow .sh) (.pr (.ow .sh) .sh)) L)]⟩) (fun ((i, a, N, L) : (Int) × (Int) × (Nat) × (List ((List (Int)) × (List (Int)) × Unit))) => d.getD 0 0 ≤ 12 ∧ 1 ≤ a ∧ a ≤ d.length ∧ 0 ≤ i ∧ i ≤ d.getD 0 0 ∧ N = L.length ∧ (L.length : Int) = i ∧ l5A (s_0, PUnit.unit) (d.getD 0 0 - i).toNat (d.drop a.toNat) L = l5A (s_0, PUnit.unit) (d.getD 0 0).toNat (d.drop 1) []) (fun ((i, a, N, L) : (Int) × (Int) × (Nat) × (List ((List (Int)) × (List (Int)) × Unit))) => (d.getD 0 0 - i).toNat) (0, 1, _, _) rfl ?_ ?_
    · (subst hR0 hR1 hg_F_s_l5Read hg_Q_s_l5Read hg_F_s_l4Fault hg_Q_s_l4Fault; simp only [Alg.std, decide_eq_true_eq, decide_eq_false_iff_not, Int.toNat_zero] at *; refine ⟨by omega, by omega, by omega, by omega, by omega, by simp, by simp, ?_⟩; rw [Int.sub_zero]; rfl)
    rintro ⟨i, a, N, L⟩ hf I hI
    replace hf : d.getD 0 0 ≤ 12 ∧ 1 ≤ a ∧ a ≤ d.length ∧ 0 ≤ i ∧ i ≤ d.getD 0 0 ∧ N = L.length ∧ (L.length : Int) = i ∧ l5A (s_0, PUnit.unit) (d.getD 0 0 - i).toNat (d.drop a.toNat) L = l5A (s_0, PUnit.unit) (d.getD 0 0).toNat (d.drop 1) [] := hf
    generalize hL : Lg.std = L
    generalize hA : Alg.std = A
    cbv
    subst hL hA
    try dsimp only [Ty.den]
    subst hI
    obtain ⟨h1, h2, h3, h4, h5, h6, h7, h8⟩ := hf
    have st := l5A_step (s_0, PUnit.unit) (d.getD 0 0 - i).toNat (d.drop a.toNat) L
    have ez := l5A_zero (s_0, PUnit.unit) (d.drop a.toNat) L
    have hd1 : ∀ y ∈ d.drop a.toNat, 0 ≤ y ∧ y ≤ 255 := fun y hy => hby y (List.mem_of_mem_drop hy)
    have p1 := (l5R_pack (s_0, PUnit.unit) (d.drop a.toNat) hd1).2
    have p2 := (l5R_pack (s_0, PUnit.unit) ((d.drop a.toNat).drop (l5R (s_0, PUnit.unit) (d.drop a.toNat)).length) (fun y hy => hd1 y (List.mem_of_mem_drop hy))).2
    rw [List.drop_drop] at p2
    simp only [List.length_drop, List.drop_drop] at p1 p2 st
    have dl : (d.drop a.toNat).length = d.length - a.toNat := List.length_drop
    have htk : ∀ n : Nat, (d.drop n).take (d.length - n) = d.drop n := fun n => List.take_of_length_le (by simp)
    have hln := l5R_len (s_0, PUnit.unit) (d.drop a.toNat) hq hd1
    have hln2 := l5R_len (s_0, PUnit.unit) (d.drop (a.toNat + (l5R (s_0, PUnit.unit) (d.drop a.toNat)).length)) hq (fun y hy => hby y (List.mem_of_mem_drop hy))
    have ea : ∀ n : Nat, (a + n).toNat = a.toNat + n := fun n => by omega
    have ec : ∀ n : Nat, ((d.length : Int) - n).toNat = d.length - n := fun n => by omega
    have ed : ((d.length : Int) - a).toNat = d.length - a.toNat := by omega
    have es : (d.getD 0 0 - (i + 1)).toNat = (d.getD 0 0 - i).toNat - 1 := by omega
    clear hd1 hby
    repeat' (first | intro _ | apply And.intro)
    all_goals first | (with_reducible exact True.intro) | ((fail_if_success (refine lp_v (V := Unit) (fun _ => ⟨[], []⟩) (fun _ => True) (fun _ => 0) () ?_ ?_ ?_)); (try simp only [Lg.std, Alg.std, List.drop_zero, List.take_length] at *); (try refine ⟨(_, _, _, _), rfl, ?_, ?_⟩); (all_goals (subst hR0 hR1 hg_F_s_l5Read hg_Q_s_l5Read hg_F_s_l4Fault hg_Q_s_l4Fault; (try simp only [Lg.std, Alg.std, List.drop_zero, List.take_length, F_s_l5Read, F_s_l4Fault, Q_s_l5Read, Q_s_l4Fault, F_s_l5ReadAll, F_s_l5ReadAll_1] at *); first | done | ((try simp only [Int.toNat_zero, Int.toNat_natCast, ea, ec, ed, htk] at *); grind)))) | skip)
def con_s_l5ReadAll : Con := ⟨true, g2 (pP (.pair (.sl (.pair .str (.pair (.int .i64) .unit))) .unit)) (pD (.sl (.int .u8))) fun s d => .one ⟨[Q_s_l5ReadAll s d], [⟨(.sl (.pair (.sl (.int .i64)) (.pair (.sl (.int .i64)) .unit))), (.ow (.pr (.ow .sh) (.pr (.ow .sh) .sh))), F_s_l5ReadAll s d⟩, ⟨(.int .i64), .sh, F_s_l5ReadAll_1 s d⟩], []⟩, [], false, 0⟩
theorem ok_s_l5ReadAll : ConOk pg 67 con_s_l5ReadAll := ConOk.g2 (Enters.of (by kernel_rfl)) ct_s_l5ReadAll

def F_w_eqEquation (a : (List (Int)) × (List (Int)) × Unit) (b : (List (Int)) × (List (Int)) × Unit) : Bool := decide (a = b)
def Q_w_eqEquation (a : (List (Int)) × (List (Int)) × Unit) (b : (List (Int)) × (List (Int)) × Unit) : Prop := True
def O_w_eqEquation : Opt := ⟨fun i => false, fun i => [], fun i => .done, fun i => none, fun i => false, fun i => [], fun i => false, fun i => none⟩
def τ_w_eqEquation : Env := Env.of [(4, .bool), (62, (.sl (.int .i64))), (177, (.pair (.sl (.int .i64)) (.pair (.sl (.int .i64)) .unit)))] [] []

theorem ct_w_eqEquation (a : (List (Int)) × (List (Int)) × Unit) (b : (List (Int)) × (List (Int)) × Unit) : Ct pg 138 [.dat (.pair (.sl (.int .i64)) (.pair (.sl (.int .i64)) .unit)) a, .dat (.pair (.sl (.int .i64)) (.pair (.sl (.int .i64)) .unit)) b] ⟨[Q_w_eqEquation a b], [⟨.bool, .sh, F_w_eqEquation a b⟩], []⟩ := by
  refine ct_claim (O := O_w_eqEquation) (τ := τ_w_eqEquation) (EnvOk.of (by kernel_rfl) (by kernel_rfl)) (GOk.of (.cons ok_w_eqInt64S .nil : AllOk pg [(90, con_w_eqInt64S)])) mixed (Enters.of (by kernel_rfl)) (fn := Go.Proofs.Tryz.f138) (by kernel_rfl) rfl (by kernel_rfl) ?_
  intro hp hw
  have hq : Q_w_eqEquation a b := hp _ (List.mem_singleton.2 rfl)
  clear hp
  change claim Lg.std Alg.std τ_w_eqEquation (Gam.of [(90, ⟨true, g2 (pD (.sl (.int .i64))) (pD (.sl (.int .i64))) fun a b => .one ⟨[Q_w_eqInt64S a b], [⟨.bool, .sh, F_w_eqInt64S a b⟩], []⟩, [], false, 0⟩)]) O_w_eqEquation Go.Proofs.Tryz.f138 [.dat (.pair (.sl (.int .i64)) (.pair (.sl (.int .i64)) .unit)) a, .dat (.pair (.sl (.int .i64)) (.pair (.sl (.int .i64)) .unit)) b] ⟨[Q_w_eqEquation a b], [⟨.bool, .sh, F_w_eqEquation a b⟩], []⟩
  generalize hg_F_w_eqInt64S : F_w_eqInt64S = g_F_w_eqInt64S
  generalize hg_Q_w_eqInt64S : Q_w_eqInt64S = g_Q_w_eqInt64S
  generalize hR0 : F_w_eqEquation a b = R0
  generalize Q_w_eqEquation a b = Q0
  generalize hL : Lg.std = L
  generalize hA : Alg.std = A
  cbv
  subst hL hA
  try dsimp only [Ty.den]
  obtain ⟨f0, f1, ⟨⟩⟩ := a
  obtain ⟨g0, g1, ⟨⟩⟩ := b
  subst hR0 hg_F_w_eqInt64S hg_Q_w_eqInt64S
  simp only [Q_w_eqEquation] at hq
  simp only [Lg.std, Alg.std, List.drop_zero, List.take_length, F_w_eqInt64S, Q_w_eqInt64S, F_w_eqEquation]
  all_goals grind
def con_w_eqEquation : Con := ⟨true, g2 (pD (.pair (.sl (.int .i64)) (.pair (.sl (.int .i64)) .unit))) (pD (.pair (.sl (.int .i64)) (.pair (.sl (.int .i64)) .unit))) fun a b => .one ⟨[Q_w_eqEquation a b], [⟨.bool, .sh, F_w_eqEquation a b⟩], []⟩, [], false, 0⟩
theorem ok_w_eqEquation : ConOk pg 138 con_w_eqEquation := ConOk.g2 (Enters.of (by kernel_rfl)) ct_w_eqEquation

def F_w_eqEquationS (a : List ((List (Int)) × (List (Int)) × Unit)) (b : List ((List (Int)) × (List (Int)) × Unit)) : Bool := decide (a = b)
def Q_w_eqEquationS (a : List ((List (Int)) × (List (Int)) × Unit)) (b : List ((List (Int)) × (List (Int)) × Unit)) : Prop := True
def O_w_eqEquationS : Opt := ⟨fun i => (match decide (i = 6) with | true => true | false => false), fun i => (match decide (i = 4) with | true => [true, true, false, false, false, true, false, false, false, false, false, false, false, false, false, false, false, false, false, false, false, false, false, false, false, false, false] | false => []), fun i => .done, fun i => none, fun i => false, fun i => [], fun i => false, fun i => none⟩
def τ_w_eqEquationS : Env := Env.of [(3, (.int .i64)), (4, .bool), (49, (.sl (.pair (.sl (.int .i64)) (.pair (.sl (.int .i64)) .unit)))), (177, (.pair (.sl (.int .i64)) (.pair (.sl (.int .i64)) .unit)))] [] []

theorem ct_w_eqEquationS (a : List ((List (Int)) × (List (Int)) × Unit)) (b : List ((List (Int)) × (List (Int)) × Unit)) : Ct pg 74 [.dat (.sl (.pair (.sl (.int .i64)) (.pair (.sl (.int .i64)) .unit))) a, .dat (.sl (.pair (.sl (.int .i64)) (.pair (.sl (.int .i64)) .unit))) b] ⟨[Q_w_eqEquationS a b], [⟨.bool, .sh, F_w_eqEquationS a b⟩], []⟩ := by
  refine ct_claim (O := O_w_eqEquationS) (τ := τ_w_eqEquationS) (EnvOk.of (by kernel_rfl) (by kernel_rfl)) (GOk.of (.cons ok_w_eqEquation .nil : AllOk pg [(138, con_w_eqEquation)])) mixed (Enters.of (by kernel_rfl)) (fn := Go.Proofs.Tryz.f74) (by kernel_rfl) rfl (by kernel_rfl) ?_
  intro hp hw
  have hq : Q_w_eqEquationS a b := hp _ (List.mem_singleton.2 rfl)
  clear hp
  change claim Lg.std Alg.std τ_w_eqEquationS (Gam.of [(138, ⟨true, g2 (pD (.pair (.sl (.int .i64)) (.pair (.sl (.int .i64)) .unit))) (pD (.pair (.sl (.int .i64)) (.pair (.sl (.int .i64)) .unit))) fun a b => .one ⟨[Q_w_eqEquation a b], [⟨.bool, .sh, F_w_eqEquation a b⟩], []⟩, [], false, 0⟩)]) O_w_eqEquationS Go.Proofs.Tryz.f74 [.dat (.sl (.pair (.sl (.int .i64)) (.pair (.sl (.int .i64)) .unit))) a, .dat (.sl (.pair (.sl (.int .i64)) (.pair (.sl (.int .i64)) .unit))) b] ⟨[Q_w_eqEquationS a b], [⟨.bool, .sh, F_w_eqEquationS a b⟩], []⟩
  generalize hg_F_w_eqEquation : F_w_eqEquation = g_F_w_eqEquation
  generalize hg_Q_w_eqEquation : Q_w_eqEquation = g_Q_w_eqEquation
  generalize hR0 : F_w_eqEquationS a b = R0
  generalize Q_w_eqEquationS a b = Q0
  generalize hL : Lg.std = L
  generalize hA : Alg.std = A
  cbv
  subst hL hA
  try dsimp only [Ty.den]
  refine ⟨fun hne => ?_, fun heq => ?_⟩
  · subst hR0 hg_F_w_eqEquation hg_Q_w_eqEquation
    simp only [Alg.std, F_w_eqEquation, Q_w_eqEquation, F_w_eqEquationS] at *
    grind
  refine lp_v (V := (Int)) (fun (i : Int) => ⟨[.dat (.sl (.pair (.sl (.int .i64)) (.pair (.sl (.int .i64)) .unit))) a, .dat (.sl (.pair (.sl (.int .i64)) (.pair (.sl (.int .i64)) .unit))) b, .junk, .junk, .junk, .dat (.int .i64) i, .junk, .junk, .junk, .junk, .junk, .junk, .junk, .junk, .junk, .junk, .junk, .junk, .junk, .junk, .junk, .junk, .junk, .junk, .junk, .junk, .junk], []⟩) (fun (i : Int) => a.length = b.length ∧ 0 ≤ i ∧ i ≤ a.length ∧ decide (a = b) = decide (a.drop i.toNat = b.drop i.toNat)) (fun (i : Int) => a.length - i.toNat) (0) rfl ?_ ?_
  · simp [Alg.std] at heq ⊢; omega
  rintro i hf I hI
  replace hf : a.length = b.length ∧ 0 ≤ i ∧ i ≤ a.length ∧ decide (a = b) = decide (a.drop i.toNat = b.drop i.toNat) := hf
  generalize hL : Lg.std = L
  generalize hA : Alg.std = A
  cbv
  subst hL hA
  try dsimp only [Ty.den]
  subst hI
  simp only [Lg.std, Alg.std, List.drop_zero, List.take_length]
  obtain ⟨h1, h2, h3, h4⟩ := hf
  have hl := hw.1.1
  have hdc := fun (h : i.toNat < a.length) => drop_cons a (([], [], PUnit.unit) : (List (Int)) × (List (Int)) × Unit) i.toNat h
  have he := fun (h : a.length ≤ i.toNat) => drop_nil a i.toNat h
  have hdc2 := fun (h : i.toNat < b.length) => drop_cons b (([], [], PUnit.unit) : (List (Int)) × (List (Int)) × Unit) i.toNat h
  have he2 := fun (h : b.length ≤ i.toNat) => drop_nil b i.toNat h
  repeat' (first | intro _ | apply And.intro)
  all_goals (try refine ⟨_, rfl, ?_, ?_⟩)
  all_goals subst hR0 hg_F_w_eqEquation hg_Q_w_eqEquation
  all_goals (try simp only [F_w_eqEquation, Q_w_eqEquation, F_w_eqEquationS] at *)
  all_goals grind
def con_w_eqEquationS : Con := ⟨true, g2 (pD (.sl (.pair (.sl (.int .i64)) (.pair (.sl (.int .i64)) .unit)))) (pD (.sl (.pair (.sl (.int .i64)) (.pair (.sl (.int .i64)) .unit)))) fun a b => .one ⟨[Q_w_eqEquationS a b], [⟨.bool, .sh, F_w_eqEquationS a b⟩], []⟩, [], false, 0⟩
theorem ok_w_eqEquationS : ConOk pg 74 con_w_eqEquationS := ConOk.g2 (Enters.of (by kernel_rfl)) ct_w_eqEquationS

def F_w_markEquationS (a : List ((List (Int)) × (List (Int)) × Unit)) (k : Int) : Int := k + cnt false (.sl (.pair (.sl (.int .i64)) (.pair (.sl (.int .i64)) .unit))) a
def B_w_markEquationS_a (a : List ((List (Int)) × (List (Int)) × Unit)) (k : Int) : List ((List (Int)) × (List (Int)) × Unit) := mk false (.sl (.pair (.sl (.int .i64)) (.pair (.sl (.int .i64)) .unit))) a k
def Q_w_markEquationS (a : List ((List (Int)) × (List (Int)) × Unit)) (k : Int) : Prop := 0 ≤ k ∧ k + cnt false (.sl (.pair (.sl (.int .i64)) (.pair (.sl (.int .i64)) .unit))) a ≤ 4611686018427387904
def O_w_markEquationS : Opt := ⟨fun i => false, fun i => (match decide (i = 2) with | true => [true, true, false, false, false, true, false, false, false, false, false, false, false, false, false, false, false, false, false, false, false, false, false, false, false, false, false] | false => []), fun i => .done, fun i => none, fun i => false, fun i => [], fun i => false, fun i => none⟩
def τ_w_markEquationS : Env := Env.of [(3, (.int .i64)), (4, .bool), (49, (.sl (.pair (.sl (.int .i64)) (.pair (.sl (.int .i64)) .unit)))), (62, (.sl (.int .i64))), (177, (.pair (.sl (.int .i64)) (.pair (.sl (.int .i64)) .unit)))] [] []

theorem ct_w_markEquationS (a : List ((List (Int)) × (List (Int)) × Unit)) (k : Int) : Ct pg 77 [.mv (.sl (.pair (.sl (.int .i64)) (.pair (.sl (.int .i64)) .unit))) (.ow (.pr (.ow .sh) (.pr (.ow .sh) .sh))) a, .dat (.int .i64) k] ⟨[Q_w_markEquationS a k], [⟨(.int .i64), .sh, F_w_markEquationS a k⟩], [.mv (.sl (.pair (.sl (.int .i64)) (.pair (.sl (.int .i64)) .unit))) (.ow (.pr (.ow .sh) (.pr (.ow .sh) .sh))) (B_w_markEquationS_a a k)]⟩ := by
  refine ct_claim (O := O_w_markEquationS) (τ := τ_w_markEquationS) (EnvOk.of (by kernel_rfl) (by kernel_rfl)) (GOk.of (.cons ok_w_markInt64S .nil : AllOk pg [(91, con_w_markInt64S)])) mixed (Enters.of (by kernel_rfl)) (fn := Go.Proofs.Tryz.f77) (by kernel_rfl) rfl (by kernel_rfl) ?_
  intro hp hw
  have hq : Q_w_markEquationS a k := hp _ (List.mem_singleton.2 rfl)
  clear hp
  change claim Lg.std Alg.std τ_w_markEquationS (Gam.of [(91, ⟨true, g2 (pV (.sl (.int .i64)) (.ow .sh)) (pD (.int .i64)) fun a k => .one ⟨[Q_w_markInt64S a k], [⟨(.int .i64), .sh, F_w_markInt64S a k⟩], [.mv (.sl (.int .i64)) (.ow .sh) (B_w_markInt64S_a a k)]⟩, [(.ow .sh)], false, 0⟩)]) O_w_markEquationS Go.Proofs.Tryz.f77 [.mv (.sl (.pair (.sl (.int .i64)) (.pair (.sl (.int .i64)) .unit))) (.ow (.pr (.ow .sh) (.pr (.ow .sh) .sh))) a, .dat (.int .i64) k] ⟨[Q_w_markEquationS a k], [⟨(.int .i64), .sh, F_w_markEquationS a k⟩], [.mv (.sl (.pair (.sl (.int .i64)) (.pair (.sl (.int .i64)) .unit))) (.ow (.pr (.ow .sh) (.pr (.ow .sh) .sh))) (B_w_markEquationS_a a k)]⟩
  generalize hg_F_w_markInt64S : F_w_markInt64S = g_F_w_markInt64S
  generalize hg_B_w_markInt64S_a : B_w_markInt64S_a = g_B_w_markInt64S_a
  generalize hg_Q_w_markInt64S : Q_w_markInt64S = g_Q_w_markInt64S
  generalize hR0 : F_w_markEquationS a k = R0
  generalize hB_a : B_w_markEquationS_a a k = B_a
  generalize Q_w_markEquationS a k = Q0
  generalize hL : Lg.std = L
  generalize hA : Alg.std = A
  cbv
  subst hL hA
  try dsimp only [Ty.den]
  simp only [Q_w_markEquationS] at hq
  refine lp_v (V := (Int) × (Int) × (Nat) × (List ((List (Int)) × (List (Int)) × Unit))) (fun ((i, j, N, xs) : (Int) × (Int) × (Nat) × (List ((List (Int)) × (List (Int)) × Unit))) => ⟨[.ref (.pair (.sl (.int .i64)) (.pair (.sl (.int .i64)) .unit)) 0 0 [] 0 N, .dat (.int .i64) j, .junk, .junk, .junk, .dat (.int .i64) i, .junk, .junk, .junk, .junk, .junk, .junk, .junk, .junk, .junk, .junk, .junk, .junk, .junk, .junk, .junk, .junk, .junk, .junk, .junk, .junk, .junk], [some (.row 0 (.pair (.sl (.int .i64)) (.pair (.sl (.int .i64)) .unit)) (.pr (.ow .sh) (.pr (.ow .sh) .sh)) xs), some (.gh [.ref (.pair (.sl (.int .i64)) (.pair (.sl (.int .i64)) .unit)) 0 0 [] 0 N])]⟩) (fun ((i, j, N, xs) : (Int) × (Int) × (Nat) × (List ((List (Int)) × (List (Int)) × Unit))) => N = a.length ∧ 0 ≤ i ∧ i ≤ a.length ∧ j = k + cnt false (.sl (.pair (.sl (.int .i64)) (.pair (.sl (.int .i64)) .unit))) (a.take i.toNat : List ((List (Int)) × (List (Int)) × Unit)) ∧ xs = (mk false (.sl (.pair (.sl (.int .i64)) (.pair (.sl (.int .i64)) .unit))) a k : List ((List (Int)) × (List (Int)) × Unit)).take i.toNat ++ a.drop i.toNat) (fun ((i, j, N, xs) : (Int) × (Int) × (Nat) × (List ((List (Int)) × (List (Int)) × Unit))) => a.length - i.toNat) (0, k, _, _) rfl ?_ ?_
  · simp [Alg.std, cnt, cntL]
  rintro ⟨i, j, N, xs⟩ hf I hI
  replace hf : N = a.length ∧ 0 ≤ i ∧ i ≤ a.length ∧ j = k + cnt false (.sl (.pair (.sl (.int .i64)) (.pair (.sl (.int .i64)) .unit))) (a.take i.toNat : List ((List (Int)) × (List (Int)) × Unit)) ∧ xs = (mk false (.sl (.pair (.sl (.int .i64)) (.pair (.sl (.int .i64)) .unit))) a k : List ((List (Int)) × (List (Int)) × Unit)).take i.toNat ++ a.drop i.toNat := hf
  generalize hL : Lg.std = L
  generalize hA : Alg.std = A
  cbv
  subst hL hA
  try dsimp only [Ty.den]
  subst hI
  simp only [Lg.std, Alg.std, List.drop_zero, List.take_length]
  obtain ⟨h1, h2, h3, h4, h5⟩ := hf
  have hl := hw.1.1
  have hk := fun (h : i.toNat < a.length) => mk_stepT (.pair (.sl (.int .i64)) (.pair (.sl (.int .i64)) .unit)) a (([], [], PUnit.unit) : (List (Int)) × (List (Int)) × Unit) k i.toNat h
  have hm := fun (h : i.toNat < a.length) => mk_mid (.pair (.sl (.int .i64)) (.pair (.sl (.int .i64)) .unit)) a (([], [], PUnit.unit) : (List (Int)) × (List (Int)) × Unit) k i.toNat h
  have hml := fun (h : i.toNat ≤ a.length) => mk_midlen (.pair (.sl (.int .i64)) (.pair (.sl (.int .i64)) .unit)) a k i.toNat h
  have hct := fun (h : i.toNat < a.length) => cnt_take (.pair (.sl (.int .i64)) (.pair (.sl (.int .i64)) .unit)) a (([], [], PUnit.unit) : (List (Int)) × (List (Int)) × Unit) i.toNat h
  have hcl := cnt_le (.pair (.sl (.int .i64)) (.pair (.sl (.int .i64)) .unit)) a (i.toNat + 1)
  have hcl0 := cnt_le (.pair (.sl (.int .i64)) (.pair (.sl (.int .i64)) .unit)) a i.toNat
  have hta := fun (h : a.length ≤ i.toNat) => List.take_of_length_le h
  have htm := fun (h : a.length ≤ i.toNat) => List.take_of_length_le (l := (mk false (.sl (.pair (.sl (.int .i64)) (.pair (.sl (.int .i64)) .unit))) a k : List ((List (Int)) × (List (Int)) × Unit))) (Nat.le_trans (Nat.le_of_eq (mk_len false (.pair (.sl (.int .i64)) (.pair (.sl (.int .i64)) .unit)) a k)) h)
  have hdc := fun (h : i.toNat < a.length) => drop_cons a (([], [], PUnit.unit) : (List (Int)) × (List (Int)) × Unit) i.toNat h
  have he := fun (h : a.length ≤ i.toNat) => drop_nil a i.toNat h
  repeat' (first | intro _ | apply And.intro)
  all_goals (try refine ⟨(_, _, _, _), rfl, ?_, ?_⟩)
  all_goals subst hR0 hB_a hg_F_w_markInt64S hg_B_w_markInt64S_a hg_Q_w_markInt64S
  all_goals (try simp only [F_w_markInt64S, B_w_markInt64S_a, Q_w_markInt64S, F_w_markEquationS, B_w_markEquationS_a] at *)
  all_goals (try simp only [szf, tot_p, tot_u, tot_i, tot_b, tot_s, cnt_p, cnt_u, cnt_i0, cnt_b0, cnt_s0, cnt_i1, cnt_b1, cnt_s1, cnt_l, mk_p, mk_u, mk_i0, mk_b0, mk_s0, mk_i1, mk_s1, mk_l, hd_p, hd_u, hd_i0, hd_b0, hd_s0, hd_i1, hd_b1, hd_s1, hd_l] at *)
  all_goals grind [getD_set_self, List.set_set, i64_wrap]
def con_w_markEquationS : Con := ⟨true, g2 (pV (.sl (.pair (.sl (.int .i64)) (.pair (.sl (.int .i64)) .unit))) (.ow (.pr (.ow .sh) (.pr (.ow .sh) .sh)))) (pD (.int .i64)) fun a k => .one ⟨[Q_w_markEquationS a k], [⟨(.int .i64), .sh, F_w_markEquationS a k⟩], [.mv (.sl (.pair (.sl (.int .i64)) (.pair (.sl (.int .i64)) .unit))) (.ow (.pr (.ow .sh) (.pr (.ow .sh) .sh))) (B_w_markEquationS_a a k)]⟩, [(.ow (.pr (.ow .sh) (.pr (.ow .sh) .sh)))], false, 0⟩
theorem ok_w_markEquationS : ConOk pg 77 con_w_markEquationS := ConOk.g2 (Enters.of (by kernel_rfl)) ct_w_markEquationS

def F_w_heldEquationS (a : List ((List (Int)) × (List (Int)) × Unit)) (k : Int) : Int := hd false (.sl (.pair (.sl (.int .i64)) (.pair (.sl (.int .i64)) .unit))) a k
def Q_w_heldEquationS (a : List ((List (Int)) × (List (Int)) × Unit)) (k : Int) : Prop := 0 ≤ k ∧ k + cnt false (.sl (.pair (.sl (.int .i64)) (.pair (.sl (.int .i64)) .unit))) a ≤ 4611686018427387904
def O_w_heldEquationS : Opt := ⟨fun i => false, fun i => (match decide (i = 2) with | true => [true, true, false, false, false, true, false, false, false, false, false, false, false, false, false, false, false, false, false, false, false, false, false, false, false, false, false, false, false, false, false] | false => []), fun i => .done, fun i => none, fun i => false, fun i => [], fun i => false, fun i => none⟩
def τ_w_heldEquationS : Env := Env.of [(3, (.int .i64)), (4, .bool), (49, (.sl (.pair (.sl (.int .i64)) (.pair (.sl (.int .i64)) .unit)))), (62, (.sl (.int .i64))), (177, (.pair (.sl (.int .i64)) (.pair (.sl (.int .i64)) .unit)))] [] []

theorem ct_w_heldEquationS (a : List ((List (Int)) × (List (Int)) × Unit)) (k : Int) : Ct pg 78 [.dat (.sl (.pair (.sl (.int .i64)) (.pair (.sl (.int .i64)) .unit))) a, .dat (.int .i64) k] ⟨[Q_w_heldEquationS a k], [⟨(.int .i64), .sh, F_w_heldEquationS a k⟩], []⟩ := by
  refine ct_claim (O := O_w_heldEquationS) (τ := τ_w_heldEquationS) (EnvOk.of (by kernel_rfl) (by kernel_rfl)) (GOk.of (.cons ok_w_heldInt64S .nil : AllOk pg [(141, con_w_heldInt64S)])) mixed (Enters.of (by kernel_rfl)) (fn := Go.Proofs.Tryz.f78) (by kernel_rfl) rfl (by kernel_rfl) ?_
  intro hp hw
  have hq : Q_w_heldEquationS a k := hp _ (List.mem_singleton.2 rfl)
  clear hp
  change claim Lg.std Alg.std τ_w_heldEquationS (Gam.of [(141, ⟨true, g2 (pD (.sl (.int .i64))) (pD (.int .i64)) fun a k => .one ⟨[Q_w_heldInt64S a k], [⟨(.int .i64), .sh, F_w_heldInt64S a k⟩], []⟩, [], false, 0⟩)]) O_w_heldEquationS Go.Proofs.Tryz.f78 [.dat (.sl (.pair (.sl (.int .i64)) (.pair (.sl (.int .i64)) .unit))) a, .dat (.int .i64) k] ⟨[Q_w_heldEquationS a k], [⟨(.int .i64), .sh, F_w_heldEquationS a k⟩], []⟩
  generalize hg_F_w_heldInt64S : F_w_heldInt64S = g_F_w_heldInt64S
  generalize hg_Q_w_heldInt64S : Q_w_heldInt64S = g_Q_w_heldInt64S
  generalize hR0 : F_w_heldEquationS a k = R0
  generalize Q_w_heldEquationS a k = Q0
  generalize hL : Lg.std = L
  generalize hA : Alg.std = A
  cbv
  subst hL hA
  try dsimp only [Ty.den]
  simp only [Q_w_heldEquationS] at hq
  refine lp_v (V := (Int) × (Int)) (fun ((i, j) : (Int) × (Int)) => ⟨[.dat (.sl (.pair (.sl (.int .i64)) (.pair (.sl (.int .i64)) .unit))) a, .dat (.int .i64) j, .junk, .junk, .junk, .dat (.int .i64) i, .junk, .junk, .junk, .junk, .junk, .junk, .junk, .junk, .junk, .junk, .junk, .junk, .junk, .junk, .junk, .junk, .junk, .junk, .junk, .junk, .junk, .junk, .junk, .junk, .junk], []⟩) (fun ((i, j) : (Int) × (Int)) => 0 ≤ i ∧ i ≤ a.length ∧ 0 ≤ j ∧ j + cnt false (.sl (.pair (.sl (.int .i64)) (.pair (.sl (.int .i64)) .unit))) (a.drop i.toNat : List ((List (Int)) × (List (Int)) × Unit)) ≤ 4611686018427387904 ∧ hd false (.sl (.pair (.sl (.int .i64)) (.pair (.sl (.int .i64)) .unit))) a k = hd false (.sl (.pair (.sl (.int .i64)) (.pair (.sl (.int .i64)) .unit))) (a.drop i.toNat : List ((List (Int)) × (List (Int)) × Unit)) j) (fun ((i, j) : (Int) × (Int)) => a.length - i.toNat) (0, k) rfl ?_ ?_
  · simp; omega
  rintro ⟨i, j⟩ hf I hI
  replace hf : 0 ≤ i ∧ i ≤ a.length ∧ 0 ≤ j ∧ j + cnt false (.sl (.pair (.sl (.int .i64)) (.pair (.sl (.int .i64)) .unit))) (a.drop i.toNat : List ((List (Int)) × (List (Int)) × Unit)) ≤ 4611686018427387904 ∧ hd false (.sl (.pair (.sl (.int .i64)) (.pair (.sl (.int .i64)) .unit))) a k = hd false (.sl (.pair (.sl (.int .i64)) (.pair (.sl (.int .i64)) .unit))) (a.drop i.toNat : List ((List (Int)) × (List (Int)) × Unit)) j := hf
  generalize hL : Lg.std = L
  generalize hA : Alg.std = A
  cbv
  subst hL hA
  try dsimp only [Ty.den]
  subst hI
  simp only [Lg.std, Alg.std, List.drop_zero, List.take_length]
  obtain ⟨h1, h2, h3, h4, h5⟩ := hf
  have hl := hw.1.1
  have hs := fun (h : i.toNat < a.length) => hd_drop (.pair (.sl (.int .i64)) (.pair (.sl (.int .i64)) .unit)) a (([], [], PUnit.unit) : (List (Int)) × (List (Int)) × Unit) i.toNat j h
  have hcs := fun (h : i.toNat < a.length) => cnt_split (.pair (.sl (.int .i64)) (.pair (.sl (.int .i64)) .unit)) a (([], [], PUnit.unit) : (List (Int)) × (List (Int)) × Unit) i.toNat h
  have ho := hd_or true (.pair (.sl (.int .i64)) (.pair (.sl (.int .i64)) .unit)) (a.getD i.toNat (([], [], PUnit.unit) : (List (Int)) × (List (Int)) × Unit)) j (by omega)
  have hn := hd_nil (.pair (.sl (.int .i64)) (.pair (.sl (.int .i64)) .unit)) j
  have hdc := fun (h : i.toNat < a.length) => drop_cons a (([], [], PUnit.unit) : (List (Int)) × (List (Int)) × Unit) i.toNat h
  have he := fun (h : a.length ≤ i.toNat) => drop_nil a i.toNat h
  repeat' (first | intro _ | apply And.intro)
  all_goals (try refine ⟨(_, _), rfl, ?_, ?_⟩)
  all_goals subst hR0 hg_F_w_heldInt64S hg_Q_w_heldInt64S
  all_goals (try simp only [F_w_heldInt64S, Q_w_heldInt64S, F_w_heldEquationS] at *)
  all_goals (try simp only [szf, tot_p, tot_u, tot_i, tot_b, tot_s, cnt_p, cnt_u, cnt_i0, cnt_b0, cnt_s0, cnt_i1, cnt_b1, cnt_s1, cnt_l, mk_p, mk_u, mk_i0, mk_b0, mk_s0, mk_i1, mk_s1, mk_l, hd_p, hd_u, hd_i0, hd_b0, hd_s0, hd_i1, hd_b1, hd_s1, hd_l] at *)
  all_goals (generalize a.getD i.toNat ([], [], PUnit.unit) = y at *; obtain ⟨y0, y1, ⟨⟩⟩ := y; (try dsimp only at *); have hx := fun k h => hd_or false (.sl (.int .i64)) y0 k h; grind [i64_wrap])
def con_w_heldEquationS : Con := ⟨true, g2 (pD (.sl (.pair (.sl (.int .i64)) (.pair (.sl (.int .i64)) .unit)))) (pD (.int .i64)) fun a k => .one ⟨[Q_w_heldEquationS a k], [⟨(.int .i64), .sh, F_w_heldEquationS a k⟩], []⟩, [], false, 0⟩
theorem ok_w_heldEquationS : ConOk pg 78 con_w_heldEquationS := ConOk.g2 (Enters.of (by kernel_rfl)) ct_w_heldEquationS

def F_w_eqEquationsResult (a : (Int) × (List ((List (Int)) × (List (Int)) × Unit)) × Unit) (b : (Int) × (List ((List (Int)) × (List (Int)) × Unit)) × Unit) : Bool := decide (a = b)
def Q_w_eqEquationsResult (a : (Int) × (List ((List (Int)) × (List (Int)) × Unit)) × Unit) (b : (Int) × (List ((List (Int)) × (List (Int)) × Unit)) × Unit) : Prop := True
def O_w_eqEquationsResult : Opt := ⟨fun i => false, fun i => [], fun i => .done, fun i => none, fun i => false, fun i => [], fun i => false, fun i => none⟩
def τ_w_eqEquationsResult : Env := Env.of [(2, (.int .i64)), (4, .bool), (49, (.sl (.pair (.sl (.int .i64)) (.pair (.sl (.int .i64)) .unit)))), (51, (.pair (.int .i64) (.pair (.sl (.pair (.sl (.int .i64)) (.pair (.sl (.int .i64)) .unit))) .unit)))] [] []

theorem ct_w_eqEquationsResult (a : (Int) × (List ((List (Int)) × (List (Int)) × Unit)) × Unit) (b : (Int) × (List ((List (Int)) × (List (Int)) × Unit)) × Unit) : Ct pg 22 [.dat (.pair (.int .i64) (.pair (.sl (.pair (.sl (.int .i64)) (.pair (.sl (.int .i64)) .unit))) .unit)) a, .dat (.pair (.int .i64) (.pair (.sl (.pair (.sl (.int .i64)) (.pair (.sl (.int .i64)) .unit))) .unit)) b] ⟨[Q_w_eqEquationsResult a b], [⟨.bool, .sh, F_w_eqEquationsResult a b⟩], []⟩ := by
  refine ct_claim (O := O_w_eqEquationsResult) (τ := τ_w_eqEquationsResult) (EnvOk.of (by kernel_rfl) (by kernel_rfl)) (GOk.of (.cons ok_w_eqEquationS .nil : AllOk pg [(74, con_w_eqEquationS)])) mixed (Enters.of (by kernel_rfl)) (fn := Go.Proofs.Tryz.f22) (by kernel_rfl) rfl (by kernel_rfl) ?_
  intro hp hw
  have hq : Q_w_eqEquationsResult a b := hp _ (List.mem_singleton.2 rfl)
  clear hp
  change claim Lg.std Alg.std τ_w_eqEquationsResult (Gam.of [(74, ⟨true, g2 (pD (.sl (.pair (.sl (.int .i64)) (.pair (.sl (.int .i64)) .unit)))) (pD (.sl (.pair (.sl (.int .i64)) (.pair (.sl (.int .i64)) .unit)))) fun a b => .one ⟨[Q_w_eqEquationS a b], [⟨.bool, .sh, F_w_eqEquationS a b⟩], []⟩, [], false, 0⟩)]) O_w_eqEquationsResult Go.Proofs.Tryz.f22 [.dat (.pair (.int .i64) (.pair (.sl (.pair (.sl (.int .i64)) (.pair (.sl (.int .i64)) .unit))) .unit)) a, .dat (.pair (.int .i64) (.pair (.sl (.pair (.sl (.int .i64)) (.pair (.sl (.int .i64)) .unit))) .unit)) b] ⟨[Q_w_eqEquationsResult a b], [⟨.bool, .sh, F_w_eqEquationsResult a b⟩], []⟩
  generalize hg_F_w_eqEquationS : F_w_eqEquationS = g_F_w_eqEquationS
  generalize hg_Q_w_eqEquationS : Q_w_eqEquationS = g_Q_w_eqEquationS
  generalize hR0 : F_w_eqEquationsResult a b = R0
  generalize Q_w_eqEquationsResult a b = Q0
  generalize hL : Lg.std = L
  generalize hA : Alg.std = A
  cbv
  subst hL hA
  try dsimp only [Ty.den]
  obtain ⟨f0, f1, ⟨⟩⟩ := a
  obtain ⟨g0, g1, ⟨⟩⟩ := b
  subst hR0 hg_F_w_eqEquationS hg_Q_w_eqEquationS
  simp only [Q_w_eqEquationsResult] at hq
  simp only [Lg.std, Alg.std, List.drop_zero, List.take_length, F_w_eqEquationS, Q_w_eqEquationS, F_w_eqEquationsResult]
  all_goals grind
def con_w_eqEquationsResult : Con := ⟨true, g2 (pD (.pair (.int .i64) (.pair (.sl (.pair (.sl (.int .i64)) (.pair (.sl (.int .i64)) .unit))) .unit))) (pD (.pair (.int .i64) (.pair (.sl (.pair (.sl (.int .i64)) (.pair (.sl (.int .i64)) .unit))) .unit))) fun a b => .one ⟨[Q_w_eqEquationsResult a b], [⟨.bool, .sh, F_w_eqEquationsResult a b⟩], []⟩, [], false, 0⟩
theorem ok_w_eqEquationsResult : ConOk pg 22 con_w_eqEquationsResult := ConOk.g2 (Enters.of (by kernel_rfl)) ct_w_eqEquationsResult

def F_w_markEquationsResult (a : (Int) × (List ((List (Int)) × (List (Int)) × Unit)) × Unit) (k : Int) : Int := k + cnt false (.pair (.int .i64) (.pair (.sl (.pair (.sl (.int .i64)) (.pair (.sl (.int .i64)) .unit))) .unit)) a
def B_w_markEquationsResult_a (a : (Int) × (List ((List (Int)) × (List (Int)) × Unit)) × Unit) (k : Int) : (Int) × (List ((List (Int)) × (List (Int)) × Unit)) × Unit := mk false (.pair (.int .i64) (.pair (.sl (.pair (.sl (.int .i64)) (.pair (.sl (.int .i64)) .unit))) .unit)) a k
def Q_w_markEquationsResult (a : (Int) × (List ((List (Int)) × (List (Int)) × Unit)) × Unit) (k : Int) : Prop := 0 ≤ k ∧ k + cnt false (.pair (.int .i64) (.pair (.sl (.pair (.sl (.int .i64)) (.pair (.sl (.int .i64)) .unit))) .unit)) a ≤ 4611686018427387904
def O_w_markEquationsResult : Opt := ⟨fun i => false, fun i => [], fun i => .done, fun i => none, fun i => false, fun i => [], fun i => false, fun i => none⟩
def τ_w_markEquationsResult : Env := Env.of [(3, (.int .i64)), (4, .bool), (49, (.sl (.pair (.sl (.int .i64)) (.pair (.sl (.int .i64)) .unit)))), (51, (.pair (.int .i64) (.pair (.sl (.pair (.sl (.int .i64)) (.pair (.sl (.int .i64)) .unit))) .unit)))] [] []

theorem ct_w_markEquationsResult (a : (Int) × (List ((List (Int)) × (List (Int)) × Unit)) × Unit) (k : Int) : Ct pg 27 [.mv (.pair (.int .i64) (.pair (.sl (.pair (.sl (.int .i64)) (.pair (.sl (.int .i64)) .unit))) .unit)) (.pr .sh (.pr (.ow (.pr (.ow .sh) (.pr (.ow .sh) .sh))) .sh)) a, .dat (.int .i64) k] ⟨[Q_w_markEquationsResult a k], [⟨(.int .i64), .sh, F_w_markEquationsResult a k⟩], [.mv (.pair (.int .i64) (.pair (.sl (.pair (.sl (.int .i64)) (.pair (.sl (.int .i64)) .unit))) .unit)) (.pr .sh (.pr (.ow (.pr (.ow .sh) (.pr (.ow .sh) .sh))) .sh)) (B_w_markEquationsResult_a a k)]⟩ := by
  refine ct_claim (O := O_w_markEquationsResult) (τ := τ_w_markEquationsResult) (EnvOk.of (by kernel_rfl) (by kernel_rfl)) (GOk.of (.cons ok_w_markEquationS .nil : AllOk pg [(77, con_w_markEquationS)])) mixed (Enters.of (by kernel_rfl)) (fn := Go.Proofs.Tryz.f27) (by kernel_rfl) rfl (by kernel_rfl) ?_
  intro hp hw
  have hq : Q_w_markEquationsResult a k := hp _ (List.mem_singleton.2 rfl)
  clear hp
  change claim Lg.std Alg.std τ_w_markEquationsResult (Gam.of [(77, ⟨true, g2 (pV (.sl (.pair (.sl (.int .i64)) (.pair (.sl (.int .i64)) .unit))) (.ow (.pr (.ow .sh) (.pr (.ow .sh) .sh)))) (pD (.int .i64)) fun a k => .one ⟨[Q_w_markEquationS a k], [⟨(.int .i64), .sh, F_w_markEquationS a k⟩], [.mv (.sl (.pair (.sl (.int .i64)) (.pair (.sl (.int .i64)) .unit))) (.ow (.pr (.ow .sh) (.pr (.ow .sh) .sh))) (B_w_markEquationS_a a k)]⟩, [(.ow (.pr (.ow .sh) (.pr (.ow .sh) .sh)))], false, 0⟩)]) O_w_markEquationsResult Go.Proofs.Tryz.f27 [.mv (.pair (.int .i64) (.pair (.sl (.pair (.sl (.int .i64)) (.pair (.sl (.int .i64)) .unit))) .unit)) (.pr .sh (.pr (.ow (.pr (.ow .sh) (.pr (.ow .sh) .sh))) .sh)) a, .dat (.int .i64) k] ⟨[Q_w_markEquationsResult a k], [⟨(.int .i64), .sh, F_w_markEquationsResult a k⟩], [.mv (.pair (.int .i64) (.pair (.sl (.pair (.sl (.int .i64)) (.pair (.sl (.int .i64)) .unit))) .unit)) (.pr .sh (.pr (.ow (.pr (.ow .sh) (.pr (.ow .sh) .sh))) .sh)) (B_w_markEquationsResult_a a k)]⟩
  generalize hg_F_w_markEquationS : F_w_markEquationS = g_F_w_markEquationS
  generalize hg_B_w_markEquationS_a : B_w_markEquationS_a = g_B_w_markEquationS_a
  generalize hg_Q_w_markEquationS : Q_w_markEquationS = g_Q_w_markEquationS
  generalize hR0 : F_w_markEquationsResult a k = R0
  generalize hB_a : B_w_markEquationsResult_a a k = B_a
  generalize Q_w_markEquationsResult a k = Q0
  generalize hL : Lg.std = L
  generalize hA : Alg.std = A
  cbv
  subst hL hA
  try dsimp only [Ty.den]
  obtain ⟨f0, f1, ⟨⟩⟩ := a
  simp only [Q_w_markEquationsResult] at hq
  subst hR0 hB_a hg_F_w_markEquationS hg_B_w_markEquationS_a hg_Q_w_markEquationS
  simp only [Lg.std, Alg.std, List.drop_zero, List.take_length, F_w_markEquationS, B_w_markEquationS_a, Q_w_markEquationS, F_w_markEquationsResult, B_w_markEquationsResult_a, szf, tot_p, tot_u, tot_i, tot_b, tot_s, cnt_p, cnt_u, cnt_i0, cnt_b0, cnt_s0, cnt_i1, cnt_b1, cnt_s1, cnt_l, mk_p, mk_u, mk_i0, mk_b0, mk_s0, mk_i1, mk_s1, mk_l, hd_p, hd_u, hd_i0, hd_b0, hd_s0, hd_i1, hd_b1, hd_s1, hd_l] at *
  all_goals grind [mk_len]
def con_w_markEquationsResult : Con := ⟨true, g2 (pV (.pair (.int .i64) (.pair (.sl (.pair (.sl (.int .i64)) (.pair (.sl (.int .i64)) .unit))) .unit)) (.pr .sh (.pr (.ow (.pr (.ow .sh) (.pr (.ow .sh) .sh))) .sh))) (pD (.int .i64)) fun a k => .one ⟨[Q_w_markEquationsResult a k], [⟨(.int .i64), .sh, F_w_markEquationsResult a k⟩], [.mv (.pair (.int .i64) (.pair (.sl (.pair (.sl (.int .i64)) (.pair (.sl (.int .i64)) .unit))) .unit)) (.pr .sh (.pr (.ow (.pr (.ow .sh) (.pr (.ow .sh) .sh))) .sh)) (B_w_markEquationsResult_a a k)]⟩, [(.pr .sh (.pr (.ow (.pr (.ow .sh) (.pr (.ow .sh) .sh))) .sh))], false, 0⟩
theorem ok_w_markEquationsResult : ConOk pg 27 con_w_markEquationsResult := ConOk.g2 (Enters.of (by kernel_rfl)) ct_w_markEquationsResult

def F_w_heldEquationsResult (a : (Int) × (List ((List (Int)) × (List (Int)) × Unit)) × Unit) (k : Int) : Int := hd false (.pair (.int .i64) (.pair (.sl (.pair (.sl (.int .i64)) (.pair (.sl (.int .i64)) .unit))) .unit)) a k
def Q_w_heldEquationsResult (a : (Int) × (List ((List (Int)) × (List (Int)) × Unit)) × Unit) (k : Int) : Prop := 0 ≤ k ∧ k + cnt false (.pair (.int .i64) (.pair (.sl (.pair (.sl (.int .i64)) (.pair (.sl (.int .i64)) .unit))) .unit)) a ≤ 4611686018427387904
def O_w_heldEquationsResult : Opt := ⟨fun i => false, fun i => [], fun i => .done, fun i => none, fun i => false, fun i => [], fun i => false, fun i => none⟩
def τ_w_heldEquationsResult : Env := Env.of [(3, (.int .i64)), (4, .bool), (49, (.sl (.pair (.sl (.int .i64)) (.pair (.sl (.int .i64)) .unit)))), (51, (.pair (.int .i64) (.pair (.sl (.pair (.sl (.int .i64)) (.pair (.sl (.int .i64)) .unit))) .unit)))] [] []

theorem ct_w_heldEquationsResult (a : (Int) × (List ((List (Int)) × (List (Int)) × Unit)) × Unit) (k : Int) : Ct pg 28 [.dat (.pair (.int .i64) (.pair (.sl (.pair (.sl (.int .i64)) (.pair (.sl (.int .i64)) .unit))) .unit)) a, .dat (.int .i64) k] ⟨[Q_w_heldEquationsResult a k], [⟨(.int .i64), .sh, F_w_heldEquationsResult a k⟩], []⟩ := by
  refine ct_claim (O := O_w_heldEquationsResult) (τ := τ_w_heldEquationsResult) (EnvOk.of (by kernel_rfl) (by kernel_rfl)) (GOk.of (.cons ok_w_heldEquationS .nil : AllOk pg [(78, con_w_heldEquationS)])) mixed (Enters.of (by kernel_rfl)) (fn := Go.Proofs.Tryz.f28) (by kernel_rfl) rfl (by kernel_rfl) ?_
  intro hp hw
  have hq : Q_w_heldEquationsResult a k := hp _ (List.mem_singleton.2 rfl)
  clear hp
  change claim Lg.std Alg.std τ_w_heldEquationsResult (Gam.of [(78, ⟨true, g2 (pD (.sl (.pair (.sl (.int .i64)) (.pair (.sl (.int .i64)) .unit)))) (pD (.int .i64)) fun a k => .one ⟨[Q_w_heldEquationS a k], [⟨(.int .i64), .sh, F_w_heldEquationS a k⟩], []⟩, [], false, 0⟩)]) O_w_heldEquationsResult Go.Proofs.Tryz.f28 [.dat (.pair (.int .i64) (.pair (.sl (.pair (.sl (.int .i64)) (.pair (.sl (.int .i64)) .unit))) .unit)) a, .dat (.int .i64) k] ⟨[Q_w_heldEquationsResult a k], [⟨(.int .i64), .sh, F_w_heldEquationsResult a k⟩], []⟩
  generalize hg_F_w_heldEquationS : F_w_heldEquationS = g_F_w_heldEquationS
  generalize hg_Q_w_heldEquationS : Q_w_heldEquationS = g_Q_w_heldEquationS
  generalize hR0 : F_w_heldEquationsResult a k = R0
  generalize Q_w_heldEquationsResult a k = Q0
  generalize hL : Lg.std = L
  generalize hA : Alg.std = A
  cbv
  subst hL hA
  try dsimp only [Ty.den]
  obtain ⟨f0, f1, ⟨⟩⟩ := a
  have ho1 := fun k h => hd_or false (.sl (.pair (.sl (.int .i64)) (.pair (.sl (.int .i64)) .unit))) f1 k h
  simp only [Q_w_heldEquationsResult] at hq
  subst hR0 hg_F_w_heldEquationS hg_Q_w_heldEquationS
  simp only [Lg.std, Alg.std, List.drop_zero, List.take_length, F_w_heldEquationS, Q_w_heldEquationS, F_w_heldEquationsResult, szf, tot_p, tot_u, tot_i, tot_b, tot_s, cnt_p, cnt_u, cnt_i0, cnt_b0, cnt_s0, cnt_i1, cnt_b1, cnt_s1, cnt_l, mk_p, mk_u, mk_i0, mk_b0, mk_s0, mk_i1, mk_s1, mk_l, hd_p, hd_u, hd_i0, hd_b0, hd_s0, hd_i1, hd_b1, hd_s1, hd_l] at *
  all_goals grind [mk_len]
def con_w_heldEquationsResult : Con := ⟨true, g2 (pD (.pair (.int .i64) (.pair (.sl (.pair (.sl (.int .i64)) (.pair (.sl (.int .i64)) .unit))) .unit))) (pD (.int .i64)) fun a k => .one ⟨[Q_w_heldEquationsResult a k], [⟨(.int .i64), .sh, F_w_heldEquationsResult a k⟩], []⟩, [], false, 0⟩
theorem ok_w_heldEquationsResult : ConOk pg 28 con_w_heldEquationsResult := ConOk.g2 (Enters.of (by kernel_rfl)) ct_w_heldEquationsResult

def F_s_UnpackEquations (s : (List ((List Int) × (Int) × Unit)) × Unit) (d : List (Int)) : (Int) × (List ((List (Int)) × (List (Int)) × Unit)) × Unit := unpackEqs s d
def Q_s_UnpackEquations (s : (List ((List Int) × (Int) × Unit)) × Unit) (d : List (Int)) : Prop := True
def O_s_UnpackEquations : Opt := ⟨fun i => false, fun i => [], fun i => .done, fun i => none, fun i => false, fun i => [], fun i => false, fun i => none⟩
def τ_s_UnpackEquations : Env := Env.of [(2, (.int .i64)), (3, (.int .i64)), (4, .bool), (27, (.sl (.int .u8))), (30, (.pair (.sl (.pair .str (.pair (.int .i64) .unit))) .unit)), (49, (.sl (.pair (.sl (.int .i64)) (.pair (.sl (.int .i64)) .unit)))), (51, (.pair (.int .i64) (.pair (.sl (.pair (.sl (.int .i64)) (.pair (.sl (.int .i64)) .unit))) .unit)))] [(113, (.pair (.sl (.pair .str (.pair (.int .i64) .unit))) .unit))] []

theorem ct_s_UnpackEquations (s : (List ((List Int) × (Int) × Unit)) × Unit) (d : List (Int)) : Ct pg 18 [.dat (.pair (.sl (.pair .str (.pair (.int .i64) .unit))) .unit) s, .dat (.sl (.int .u8)) d] ⟨[Q_s_UnpackEquations s d], [⟨(.pair (.int .i64) (.pair (.sl (.pair (.sl (.int .i64)) (.pair (.sl (.int .i64)) .unit))) .unit)), (.pr .sh (.pr (.ow (.pr (.ow .sh) (.pr (.ow .sh) .sh))) .sh)), F_s_UnpackEquations s d⟩], []⟩ := by
  refine ct_claim (O := O_s_UnpackEquations) (τ := τ_s_UnpackEquations) (EnvOk.of (by kernel_rfl) (by kernel_rfl)) (GOk.of (.cons ok_s_SignatureFault (.cons ok_s_l5ReadAll .nil) : AllOk pg [(66, con_s_SignatureFault), (67, con_s_l5ReadAll)])) mixed (Enters.of (by kernel_rfl)) (fn := Go.Proofs.Tryz.f18) (by kernel_rfl) rfl (by kernel_rfl) ?_
  intro hp hw
  have hq : Q_s_UnpackEquations s d := hp _ (List.mem_singleton.2 rfl)
  clear hp
  change claim Lg.std Alg.std τ_s_UnpackEquations (Gam.of [(66, ⟨true, g1 (pD (.pair (.sl (.pair .str (.pair (.int .i64) .unit))) .unit)) fun s => .one ⟨[Q_s_SignatureFault s], [⟨(.int .i64), .sh, F_s_SignatureFault s⟩], []⟩, [], false, 0⟩), (67, ⟨true, g2 (pP (.pair (.sl (.pair .str (.pair (.int .i64) .unit))) .unit)) (pD (.sl (.int .u8))) fun s d => .one ⟨[Q_s_l5ReadAll s d], [⟨(.sl (.pair (.sl (.int .i64)) (.pair (.sl (.int .i64)) .unit))), (.ow (.pr (.ow .sh) (.pr (.ow .sh) .sh))), F_s_l5ReadAll s d⟩, ⟨(.int .i64), .sh, F_s_l5ReadAll_1 s d⟩], []⟩, [], false, 0⟩)]) O_s_UnpackEquations Go.Proofs.Tryz.f18 [.dat (.pair (.sl (.pair .str (.pair (.int .i64) .unit))) .unit) s, .dat (.sl (.int .u8)) d] ⟨[Q_s_UnpackEquations s d], [⟨(.pair (.int .i64) (.pair (.sl (.pair (.sl (.int .i64)) (.pair (.sl (.int .i64)) .unit))) .unit)), (.pr .sh (.pr (.ow (.pr (.ow .sh) (.pr (.ow .sh) .sh))) .sh)), F_s_UnpackEquations s d⟩], []⟩
  generalize hg_F_s_SignatureFault : F_s_SignatureFault = g_F_s_SignatureFault
  generalize hg_Q_s_SignatureFault : Q_s_SignatureFault = g_Q_s_SignatureFault
  generalize hg_F_s_l5ReadAll : F_s_l5ReadAll = g_F_s_l5ReadAll
  generalize hg_F_s_l5ReadAll_1 : F_s_l5ReadAll_1 = g_F_s_l5ReadAll_1
  generalize hg_Q_s_l5ReadAll : Q_s_l5ReadAll = g_Q_s_l5ReadAll
  generalize hR0 : F_s_UnpackEquations s d = R0
  generalize Q_s_UnpackEquations s d = Q0
  generalize hL : Lg.std = L
  generalize hA : Alg.std = A
  cbv
  subst hL hA
  try dsimp only [Ty.den]
  obtain ⟨s_0, ⟨⟩⟩ := s
  subst hR0 hg_F_s_SignatureFault hg_Q_s_SignatureFault hg_F_s_l5ReadAll hg_F_s_l5ReadAll_1 hg_Q_s_l5ReadAll
  simp only [Lg.std, Alg.std, List.drop_zero, List.take_length, F_s_SignatureFault, F_s_l5ReadAll, F_s_l5ReadAll_1, Q_s_SignatureFault, Q_s_l5ReadAll, F_s_UnpackEquations, unpackEqs] at *
  repeat' (first | intro _ | apply And.intro)
  all_goals grind
def con_s_UnpackEquations : Con := ⟨true, g2 (pD (.pair (.sl (.pair .str (.pair (.int .i64) .unit))) .unit)) (pD (.sl (.int .u8))) fun s d => .one ⟨[Q_s_UnpackEquations s d], [⟨(.pair (.int .i64) (.pair (.sl (.pair (.sl (.int .i64)) (.pair (.sl (.int .i64)) .unit))) .unit)), (.pr .sh (.pr (.ow (.pr (.ow .sh) (.pr (.ow .sh) .sh))) .sh)), F_s_UnpackEquations s d⟩], []⟩, [], false, 0⟩
theorem ok_s_UnpackEquations : ConOk pg 18 con_s_UnpackEquations := ConOk.g2 (Enters.of (by kernel_rfl)) ct_s_UnpackEquations

def F_i_UnpackEquations (s : (List ((List Int) × (Int) × Unit)) × Unit) (d : List (Int)) : (Int) × (List ((List (Int)) × (List (Int)) × Unit)) × Unit := unpackEqs s d
def Q_i_UnpackEquations (s : (List ((List Int) × (Int) × Unit)) × Unit) (d : List (Int)) : Prop := True
def O_i_UnpackEquations : Opt := ⟨fun i => false, fun i => [], fun i => .done, fun i => none, fun i => false, fun i => [], fun i => false, fun i => none⟩
def τ_i_UnpackEquations : Env := Env.of [(2, (.int .i64)), (4, .bool), (27, (.sl (.int .u8))), (30, (.pair (.sl (.pair .str (.pair (.int .i64) .unit))) .unit)), (49, (.sl (.pair (.sl (.int .i64)) (.pair (.sl (.int .i64)) .unit)))), (51, (.pair (.int .i64) (.pair (.sl (.pair (.sl (.int .i64)) (.pair (.sl (.int .i64)) .unit))) .unit))), (117, (.pair (.sl (.int .u8)) (.pair .bool .unit)))] [(115, (.pair (.sl (.int .u8)) (.pair .bool .unit)))] []

theorem ct_i_UnpackEquations (s : (List ((List Int) × (Int) × Unit)) × Unit) (d : List (Int)) : Ct pg 21 [.dat (.pair (.sl (.pair .str (.pair (.int .i64) .unit))) .unit) s, .dat (.sl (.int .u8)) d] ⟨[Q_i_UnpackEquations s d], [⟨(.pair (.int .i64) (.pair (.sl (.pair (.sl (.int .i64)) (.pair (.sl (.int .i64)) .unit))) .unit)), (.pr .sh (.pr (.ow (.pr (.ow .sh) (.pr (.ow .sh) .sh))) .sh)), F_i_UnpackEquations s d⟩], []⟩ := by
  refine ct_claim (O := O_i_UnpackEquations) (τ := τ_i_UnpackEquations) (EnvOk.of (by kernel_rfl) (by kernel_rfl)) (GOk.of (.cons ok_b_Equal (.cons ok_i_byteReader_ended (.cons ok_i_SignatureFault (.cons ok_i_packedEquations (.cons ok_i_byteReader_equations .nil)))) : AllOk pg [(72, con_b_Equal), (71, con_i_byteReader_ended), (69, con_i_SignatureFault), (73, con_i_packedEquations), (70, con_i_byteReader_equations)])) mixed (Enters.of (by kernel_rfl)) (fn := Go.Proofs.Tryz.f21) (by kernel_rfl) rfl (by kernel_rfl) ?_
  intro hp hw
  have hq : Q_i_UnpackEquations s d := hp _ (List.mem_singleton.2 rfl)
  clear hp
  change claim Lg.std Alg.std τ_i_UnpackEquations (Gam.of [(72, ⟨true, g2 (pD (.sl (.int .u8))) (pD (.sl (.int .u8))) fun a b => .one ⟨[Q_b_Equal a b], [⟨.bool, .sh, F_b_Equal a b⟩], []⟩, [], false, 0⟩), (71, ⟨true, g1 (pP (.pair (.sl (.int .u8)) (.pair .bool .unit))) fun r => .one ⟨[Q_i_byteReader_ended r], [⟨.bool, .sh, F_i_byteReader_ended r⟩], []⟩, [], false, 0⟩), (69, ⟨true, g1 (pD (.pair (.sl (.pair .str (.pair (.int .i64) .unit))) .unit)) fun s => .one ⟨[Q_i_SignatureFault s], [⟨(.int .i64), .sh, F_i_SignatureFault s⟩], []⟩, [], false, 0⟩), (73, ⟨true, g1 (pD (.sl (.pair (.sl (.int .i64)) (.pair (.sl (.int .i64)) .unit)))) fun l => .one ⟨[Q_i_packedEquations l], [⟨(.sl (.int .u8)), (.ow .sh), F_i_packedEquations l⟩], []⟩, [], false, 0⟩), (70, ⟨true, g2 (pW (.pair (.sl (.int .u8)) (.pair .bool .unit)) .sh) (pD (.pair (.sl (.pair .str (.pair (.int .i64) .unit))) .unit)) fun r s => .one ⟨[Q_i_byteReader_equations r s], [⟨(.sl (.pair (.sl (.int .i64)) (.pair (.sl (.int .i64)) .unit))), (.ow (.pr (.ow .sh) (.pr (.ow .sh) .sh))), F_i_byteReader_equations r s⟩], [.mp (.pair (.sl (.int .u8)) (.pair .bool .unit)) .sh (B_i_byteReader_equations_r r s)]⟩, [.sh], false, 0⟩)]) O_i_UnpackEquations Go.Proofs.Tryz.f21 [.dat (.pair (.sl (.pair .str (.pair (.int .i64) .unit))) .unit) s, .dat (.sl (.int .u8)) d] ⟨[Q_i_UnpackEquations s d], [⟨(.pair (.int .i64) (.pair (.sl (.pair (.sl (.int .i64)) (.pair (.sl (.int .i64)) .unit))) .unit)), (.pr .sh (.pr (.ow (.pr (.ow .sh) (.pr (.ow .sh) .sh))) .sh)), F_i_UnpackEquations s d⟩], []⟩
  generalize hg_F_b_Equal : F_b_Equal = g_F_b_Equal
  generalize hg_Q_b_Equal : Q_b_Equal = g_Q_b_Equal
  generalize hg_F_i_byteReader_ended : F_i_byteReader_ended = g_F_i_byteReader_ended
  generalize hg_Q_i_byteReader_ended : Q_i_byteReader_ended = g_Q_i_byteReader_ended
  generalize hg_F_i_SignatureFault : F_i_SignatureFault = g_F_i_SignatureFault
  generalize hg_Q_i_SignatureFault : Q_i_SignatureFault = g_Q_i_SignatureFault
  generalize hg_F_i_packedEquations : F_i_packedEquations = g_F_i_packedEquations
  generalize hg_Q_i_packedEquations : Q_i_packedEquations = g_Q_i_packedEquations
  generalize hg_F_i_byteReader_equations : F_i_byteReader_equations = g_F_i_byteReader_equations
  generalize hg_B_i_byteReader_equations_r : B_i_byteReader_equations_r = g_B_i_byteReader_equations_r
  generalize hg_Q_i_byteReader_equations : Q_i_byteReader_equations = g_Q_i_byteReader_equations
  generalize hR0 : F_i_UnpackEquations s d = R0
  generalize Q_i_UnpackEquations s d = Q0
  generalize hL : Lg.std = L
  generalize hA : Alg.std = A
  cbv
  subst hL hA
  try dsimp only [Ty.den]
  obtain ⟨s_0, ⟨⟩⟩ := s
  generalize u1 : g_B_i_byteReader_equations_r (d, false, PUnit.unit) (s_0, PUnit.unit) = r at *
  obtain ⟨x, f, ⟨⟩⟩ := r
  try dsimp only
  generalize u2 : g_F_i_byteReader_equations (d, false, PUnit.unit) (s_0, PUnit.unit) = l at *
  have hby := u8s hw.2.1.2
  have hus := fun h h1 => eqs_same (s_0, PUnit.unit) h d hby l x f h1
  have hu0 : sigFault (s_0, PUnit.unit) ≠ 0 → unpackEqs (s_0, PUnit.unit) d = (sigFault (s_0, PUnit.unit), [], ()) := fun h => by unfold unpackEqs; exact if_pos h
  have hqq := fun h h1 h2 => eqs_end (s_0, PUnit.unit) h d l x f h1 h2
  subst hR0 hg_F_b_Equal hg_Q_b_Equal hg_F_i_byteReader_ended hg_Q_i_byteReader_ended hg_F_i_SignatureFault hg_Q_i_SignatureFault hg_F_i_packedEquations hg_Q_i_packedEquations hg_F_i_byteReader_equations hg_B_i_byteReader_equations_r hg_Q_i_byteReader_equations
  simp only [Lg.std, Alg.std, List.drop_zero, List.take_length, F_b_Equal, F_i_byteReader_ended, F_i_SignatureFault, F_i_packedEquations, F_i_byteReader_equations, B_i_byteReader_equations_r, Q_b_Equal, Q_i_byteReader_ended, Q_i_SignatureFault, Q_i_packedEquations, Q_i_byteReader_equations, F_i_UnpackEquations] at *
  have hz : eqsRd (s_0, PUnit.unit) (d, false, PUnit.unit) = (l, (x, f, PUnit.unit)) := by rw [← u1, ← u2]
  replace hus := fun h => hus h hz
  replace hqq := fun h h2 => hqq h hz h2
  clear hz u1 u2 hby
  generalize hQ : qEqs l = Q at *
  repeat' (first | intro _ | apply And.intro)
  all_goals grind
def con_i_UnpackEquations : Con := ⟨true, g2 (pD (.pair (.sl (.pair .str (.pair (.int .i64) .unit))) .unit)) (pD (.sl (.int .u8))) fun s d => .one ⟨[Q_i_UnpackEquations s d], [⟨(.pair (.int .i64) (.pair (.sl (.pair (.sl (.int .i64)) (.pair (.sl (.int .i64)) .unit))) .unit)), (.pr .sh (.pr (.ow (.pr (.ow .sh) (.pr (.ow .sh) .sh))) .sh)), F_i_UnpackEquations s d⟩], []⟩, [], false, 0⟩
theorem ok_i_UnpackEquations : ConOk pg 21 con_i_UnpackEquations := ConOk.g2 (Enters.of (by kernel_rfl)) ct_i_UnpackEquations

def F_w_FnExactUnpackEquations (s : (List ((List Int) × (Int) × Unit)) × Unit) (d : List (Int)) : Bool := true
def Q_w_FnExactUnpackEquations (s : (List ((List Int) × (Int) × Unit)) × Unit) (d : List (Int)) : Prop := True
def O_w_FnExactUnpackEquations : Opt := ⟨fun i => false, fun i => [], fun i => (match decide (i = 13) with | true => (.alt 0 (.alt 1 (.alt 2 (.alt 3 (.take 4 .done) .no) .no) .no) (.alt 1 (.alt 0 (.alt 2 (.alt 3 (.take 4 .done) .no) .no) (.alt 2 (.take 0 (.alt 3 (.take 4 .done) .no)) .no)) .no)) | false => .done), fun i => (match decide (i = 13) with | true => some [false, true, true, false, false, false, true, true, true, true, false, false, false, false, false, false, false, false, false, false, false, false, false, false, false, false, false, false, false, false, false, false, false, false, false, false, false, false, false, false, false, false, true, false, false, false, false, false, false, false, false, false, false, false, false, false, false, false, false, false, false, false, false, false, false, false, false, false, false, false, false, false, false, false, false, false, false, false, false, false, false, false, false, false, false, false, false, false, false, false] | false => none), fun i => false, fun i => [], fun i => false, fun i => none⟩
def τ_w_FnExactUnpackEquations : Env := Env.of [(3, (.int .i64)), (4, .bool), (27, (.sl (.int .u8))), (30, (.pair (.sl (.pair .str (.pair (.int .i64) .unit))) .unit)), (47, (.pair (.sl (.pair .str (.pair (.int .i64) .unit))) .unit)), (51, (.pair (.int .i64) (.pair (.sl (.pair (.sl (.int .i64)) (.pair (.sl (.int .i64)) .unit))) .unit)))] [] []

theorem ct_w_FnExactUnpackEquations (s : (List ((List Int) × (Int) × Unit)) × Unit) (d : List (Int)) : Ct pg 4 [.dat (.pair (.sl (.pair .str (.pair (.int .i64) .unit))) .unit) s, .dat (.sl (.int .u8)) d] ⟨[Q_w_FnExactUnpackEquations s d], [⟨.bool, .sh, F_w_FnExactUnpackEquations s d⟩], []⟩ := by
  refine ct_claim (O := O_w_FnExactUnpackEquations) (τ := τ_w_FnExactUnpackEquations) (EnvOk.of (by kernel_rfl) (by kernel_rfl)) (GOk.of (.cons ok_w_toByteS (.cons ok_w_eqByteS (.cons ok_w_markByteS (.cons ok_w_toSignature (.cons ok_w_eqSignature (.cons ok_w_szSignature (.cons ok_w_markSignature (.cons ok_w_eqEquationsResult (.cons ok_w_markEquationsResult (.cons ok_w_heldEquationsResult (.cons ok_s_UnpackEquations (.cons ok_i_UnpackEquations .nil))))))))))) : AllOk pg [(20, con_w_toByteS), (24, con_w_eqByteS), (26, con_w_markByteS), (19, con_w_toSignature), (23, con_w_eqSignature), (17, con_w_szSignature), (25, con_w_markSignature), (22, con_w_eqEquationsResult), (27, con_w_markEquationsResult), (28, con_w_heldEquationsResult), (18, con_s_UnpackEquations), (21, con_i_UnpackEquations)])) mixed (Enters.of (by kernel_rfl)) (fn := Go.Proofs.Tryz.f4) (by kernel_rfl) rfl (by kernel_rfl) ?_
  intro hp hw
  have hq : Q_w_FnExactUnpackEquations s d := hp _ (List.mem_singleton.2 rfl)
  clear hp
  change claim Lg.std Alg.std τ_w_FnExactUnpackEquations (Gam.of [(20, ⟨true, g1 (pD (.sl (.int .u8))) fun a => .one ⟨[Q_w_toByteS a], [⟨(.sl (.int .u8)), (.ow .sh), F_w_toByteS a⟩], []⟩, [], false, 0⟩), (24, ⟨true, g2 (pD (.sl (.int .u8))) (pD (.sl (.int .u8))) fun a b => .one ⟨[Q_w_eqByteS a b], [⟨.bool, .sh, F_w_eqByteS a b⟩], []⟩, [], false, 0⟩), (26, ⟨true, g2 (pV (.sl (.int .u8)) (.ow .sh)) (pD (.int .i64)) fun a k => .one ⟨[Q_w_markByteS a k], [⟨(.int .i64), .sh, F_w_markByteS a k⟩], [.mv (.sl (.int .u8)) (.ow .sh) (B_w_markByteS_a a k)]⟩, [(.ow .sh)], false, 0⟩), (19, ⟨true, g1 (pD (.pair (.sl (.pair .str (.pair (.int .i64) .unit))) .unit)) fun a => .one ⟨[Q_w_toSignature a], [⟨(.pair (.sl (.pair .str (.pair (.int .i64) .unit))) .unit), (.pr (.ow (.pr .sh (.pr .sh .sh))) .sh), F_w_toSignature a⟩], []⟩, [], false, 0⟩), (23, ⟨true, g2 (pD (.pair (.sl (.pair .str (.pair (.int .i64) .unit))) .unit)) (pD (.pair (.sl (.pair .str (.pair (.int .i64) .unit))) .unit)) fun a b => .one ⟨[Q_w_eqSignature a b], [⟨.bool, .sh, F_w_eqSignature a b⟩], []⟩, [], false, 0⟩), (17, ⟨true, g2 (pD (.pair (.sl (.pair .str (.pair (.int .i64) .unit))) .unit)) (pD (.int .i64)) fun a left => .one ⟨[Q_w_szSignature a left], [⟨(.int .i64), .sh, F_w_szSignature a left⟩], []⟩, [], false, 0⟩), (25, ⟨true, g2 (pV (.pair (.sl (.pair .str (.pair (.int .i64) .unit))) .unit) (.pr (.ow (.pr .sh (.pr .sh .sh))) .sh)) (pD (.int .i64)) fun a k => .one ⟨[Q_w_markSignature a k], [⟨(.int .i64), .sh, F_w_markSignature a k⟩], [.mv (.pair (.sl (.pair .str (.pair (.int .i64) .unit))) .unit) (.pr (.ow (.pr .sh (.pr .sh .sh))) .sh) (B_w_markSignature_a a k)]⟩, [(.pr (.ow (.pr .sh (.pr .sh .sh))) .sh)], false, 0⟩), (22, ⟨true, g2 (pD (.pair (.int .i64) (.pair (.sl (.pair (.sl (.int .i64)) (.pair (.sl (.int .i64)) .unit))) .unit))) (pD (.pair (.int .i64) (.pair (.sl (.pair (.sl (.int .i64)) (.pair (.sl (.int .i64)) .unit))) .unit))) fun a b => .one ⟨[Q_w_eqEquationsResult a b], [⟨.bool, .sh, F_w_eqEquationsResult a b⟩], []⟩, [], false, 0⟩), (27, ⟨true, g2 (pV (.pair (.int .i64) (.pair (.sl (.pair (.sl (.int .i64)) (.pair (.sl (.int .i64)) .unit))) .unit)) (.pr .sh (.pr (.ow (.pr (.ow .sh) (.pr (.ow .sh) .sh))) .sh))) (pD (.int .i64)) fun a k => .one ⟨[Q_w_markEquationsResult a k], [⟨(.int .i64), .sh, F_w_markEquationsResult a k⟩], [.mv (.pair (.int .i64) (.pair (.sl (.pair (.sl (.int .i64)) (.pair (.sl (.int .i64)) .unit))) .unit)) (.pr .sh (.pr (.ow (.pr (.ow .sh) (.pr (.ow .sh) .sh))) .sh)) (B_w_markEquationsResult_a a k)]⟩, [(.pr .sh (.pr (.ow (.pr (.ow .sh) (.pr (.ow .sh) .sh))) .sh))], false, 0⟩), (28, ⟨true, g2 (pD (.pair (.int .i64) (.pair (.sl (.pair (.sl (.int .i64)) (.pair (.sl (.int .i64)) .unit))) .unit))) (pD (.int .i64)) fun a k => .one ⟨[Q_w_heldEquationsResult a k], [⟨(.int .i64), .sh, F_w_heldEquationsResult a k⟩], []⟩, [], false, 0⟩), (18, ⟨true, g2 (pD (.pair (.sl (.pair .str (.pair (.int .i64) .unit))) .unit)) (pD (.sl (.int .u8))) fun s d => .one ⟨[Q_s_UnpackEquations s d], [⟨(.pair (.int .i64) (.pair (.sl (.pair (.sl (.int .i64)) (.pair (.sl (.int .i64)) .unit))) .unit)), (.pr .sh (.pr (.ow (.pr (.ow .sh) (.pr (.ow .sh) .sh))) .sh)), F_s_UnpackEquations s d⟩], []⟩, [], false, 0⟩), (21, ⟨true, g2 (pD (.pair (.sl (.pair .str (.pair (.int .i64) .unit))) .unit)) (pD (.sl (.int .u8))) fun s d => .one ⟨[Q_i_UnpackEquations s d], [⟨(.pair (.int .i64) (.pair (.sl (.pair (.sl (.int .i64)) (.pair (.sl (.int .i64)) .unit))) .unit)), (.pr .sh (.pr (.ow (.pr (.ow .sh) (.pr (.ow .sh) .sh))) .sh)), F_i_UnpackEquations s d⟩], []⟩, [], false, 0⟩)]) O_w_FnExactUnpackEquations Go.Proofs.Tryz.f4 [.dat (.pair (.sl (.pair .str (.pair (.int .i64) .unit))) .unit) s, .dat (.sl (.int .u8)) d] ⟨[Q_w_FnExactUnpackEquations s d], [⟨.bool, .sh, F_w_FnExactUnpackEquations s d⟩], []⟩
  generalize hg_F_w_toByteS : F_w_toByteS = g_F_w_toByteS
  generalize hg_Q_w_toByteS : Q_w_toByteS = g_Q_w_toByteS
  generalize hg_F_w_eqByteS : F_w_eqByteS = g_F_w_eqByteS
  generalize hg_Q_w_eqByteS : Q_w_eqByteS = g_Q_w_eqByteS
  generalize hg_F_w_markByteS : F_w_markByteS = g_F_w_markByteS
  generalize hg_B_w_markByteS_a : B_w_markByteS_a = g_B_w_markByteS_a
  generalize hg_Q_w_markByteS : Q_w_markByteS = g_Q_w_markByteS
  generalize hg_F_w_toSignature : F_w_toSignature = g_F_w_toSignature
  generalize hg_Q_w_toSignature : Q_w_toSignature = g_Q_w_toSignature
  generalize hg_F_w_eqSignature : F_w_eqSignature = g_F_w_eqSignature
  generalize hg_Q_w_eqSignature : Q_w_eqSignature = g_Q_w_eqSignature
  generalize hg_F_w_szSignature : F_w_szSignature = g_F_w_szSignature
  generalize hg_Q_w_szSignature : Q_w_szSignature = g_Q_w_szSignature
  generalize hg_F_w_markSignature : F_w_markSignature = g_F_w_markSignature
  generalize hg_B_w_markSignature_a : B_w_markSignature_a = g_B_w_markSignature_a
  generalize hg_Q_w_markSignature : Q_w_markSignature = g_Q_w_markSignature
  generalize hg_F_w_eqEquationsResult : F_w_eqEquationsResult = g_F_w_eqEquationsResult
  generalize hg_Q_w_eqEquationsResult : Q_w_eqEquationsResult = g_Q_w_eqEquationsResult
  generalize hg_F_w_markEquationsResult : F_w_markEquationsResult = g_F_w_markEquationsResult
  generalize hg_B_w_markEquationsResult_a : B_w_markEquationsResult_a = g_B_w_markEquationsResult_a
  generalize hg_Q_w_markEquationsResult : Q_w_markEquationsResult = g_Q_w_markEquationsResult
  generalize hg_F_w_heldEquationsResult : F_w_heldEquationsResult = g_F_w_heldEquationsResult
  generalize hg_Q_w_heldEquationsResult : Q_w_heldEquationsResult = g_Q_w_heldEquationsResult
  generalize hg_F_s_UnpackEquations : F_s_UnpackEquations = g_F_s_UnpackEquations
  generalize hg_Q_s_UnpackEquations : Q_s_UnpackEquations = g_Q_s_UnpackEquations
  generalize hg_F_i_UnpackEquations : F_i_UnpackEquations = g_F_i_UnpackEquations
  generalize hg_Q_i_UnpackEquations : Q_i_UnpackEquations = g_Q_i_UnpackEquations
  generalize hR0 : F_w_FnExactUnpackEquations s d = R0
  generalize Q_w_FnExactUnpackEquations s d = Q0
  generalize hL : Lg.std = L
  generalize hA : Alg.std = A
  cbv
  subst hL hA
  try dsimp only [Ty.den]
  obtain ⟨s_0, ⟨⟩⟩ := s
  have hct_s := cnt_tot (.pair (.sl (.pair .str (.pair (.int .i64) .unit))) .unit) (s_0, PUnit.unit) (by decide)
  have hct_d := cnt_tot (.sl (.int .u8)) d (by decide)
  have hcn := unpackEqs_cnt (s_0, PUnit.unit) d (u8s hw.2.1.2)
  have hc0 : cnt false (.pair (.int .i64) (.pair (.sl (.pair (.sl (.int .i64)) (.pair (.sl (.int .i64)) .unit))) .unit)) (unpackEqs (s_0, PUnit.unit) d) ≤ 1000 := hcn
  have htp : tot (.sl (.int .u8)) d = d.length := tot_int .u8 d
  subst hR0 hg_F_w_toByteS hg_Q_w_toByteS hg_F_w_eqByteS hg_Q_w_eqByteS hg_F_w_markByteS hg_B_w_markByteS_a hg_Q_w_markByteS hg_F_w_toSignature hg_Q_w_toSignature hg_F_w_eqSignature hg_Q_w_eqSignature hg_F_w_szSignature hg_Q_w_szSignature hg_F_w_markSignature hg_B_w_markSignature_a hg_Q_w_markSignature hg_F_w_eqEquationsResult hg_Q_w_eqEquationsResult hg_F_w_markEquationsResult hg_B_w_markEquationsResult_a hg_Q_w_markEquationsResult hg_F_w_heldEquationsResult hg_Q_w_heldEquationsResult hg_F_s_UnpackEquations hg_Q_s_UnpackEquations hg_F_i_UnpackEquations hg_Q_i_UnpackEquations
  simp only [Lg.std, Alg.std, List.drop_zero, List.take_length, F_w_toByteS, F_w_eqByteS, F_w_markByteS, F_w_toSignature, F_w_eqSignature, F_w_szSignature, F_w_markSignature, F_w_eqEquationsResult, F_w_markEquationsResult, F_w_heldEquationsResult, F_s_UnpackEquations, F_i_UnpackEquations, B_w_markByteS_a, B_w_markSignature_a, B_w_markEquationsResult_a, Q_w_toByteS, Q_w_eqByteS, Q_w_markByteS, Q_w_toSignature, Q_w_eqSignature, Q_w_szSignature, Q_w_markSignature, Q_w_eqEquationsResult, Q_w_markEquationsResult, Q_w_heldEquationsResult, Q_s_UnpackEquations, Q_i_UnpackEquations, F_w_FnExactUnpackEquations]
  generalize hW : (unpackEqs (s_0, PUnit.unit) d : (Int) × (List ((List (Int)) × (List (Int)) × Unit)) × Unit) = w at *
  clear hW
  obtain ⟨w_0, w_1, ⟨⟩⟩ := w
  try dsimp only at *
  have hm := hd_mk false (.pair (.int .i64) (.pair (.sl (.pair (.sl (.int .i64)) (.pair (.sl (.int .i64)) .unit))) .unit)) (w_0, w_1, PUnit.unit) 1 (by omega)

  have mt_w_1 := fun k => mk_take false (.pair (.sl (.int .i64)) (.pair (.sl (.int .i64)) .unit)) w_1 k
  dsimp only [Ty.den] at mt_w_1
  simp only [tot_p, tot_u, tot_i, tot_b, tot_s, cnt_p, cnt_u, cnt_i0, cnt_b0, cnt_s0, cnt_i1, cnt_b1, cnt_s1, cnt_l, mk_p, mk_u, mk_i0, mk_b0, mk_s0, mk_i1, mk_s1, mk_l, hd_p, hd_u, hd_i0, hd_b0, hd_s0, hd_i1, hd_b1, hd_s1, hd_l, mt_w_1] at *
  repeat' (first | intro _ | apply And.intro)
  all_goals grind [szf, cnt_mk, hd_mk]
def con_w_FnExactUnpackEquations : Con := ⟨true, g2 (pD (.pair (.sl (.pair .str (.pair (.int .i64) .unit))) .unit)) (pD (.sl (.int .u8))) fun s d => .one ⟨[Q_w_FnExactUnpackEquations s d], [⟨.bool, .sh, F_w_FnExactUnpackEquations s d⟩], []⟩, [], false, 0⟩
theorem ok_w_FnExactUnpackEquations : ConOk pg 4 con_w_FnExactUnpackEquations := ConOk.g2 (Enters.of (by kernel_rfl)) ct_w_FnExactUnpackEquations
end Go.Vee
