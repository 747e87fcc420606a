/-
  Contracts of functions of the program: what each returns for all arguments that its precondition lets in.
-/
import Derived.Test.YtjlojjkfdidkiaaVK8
set_option linter.unusedSimpArgs false
set_option linter.unusedVariables false
set_option maxRecDepth 100000
set_option maxHeartbeats 4000000
set_option synthInstance.maxHeartbeats 4000000
set_option synthInstance.maxSize 20000000
namespace Go.Vee
open Go
def flushL : List (List Int) → List PutT → List Int → List (List Int)
  | ss, [], _ => ss
  | ss, p :: ps, fs => flushL (ss.set p.1.toNat (p.2.1.take (fs.getD 0 0).toNat ++ (ss.getD p.1.toNat []).drop (fs.getD 0 0).toNat)) ps (fs.drop 1)
def crashD (d : DiskT) (fs : List Int) : DiskT := (flushL d.1 d.2.1 fs, [], ())
theorem flushL_step (ss : List (List Int)) (ps : List PutT) (fs : List Int) (i : Nat) (h : i < ps.length) : flushL ss (ps.drop i) (fs.drop i) =
    flushL (ss.set (ps.getD i putD).1.toNat ((ps.getD i putD).2.1.take (fs.getD i 0).toNat ++ (ss.getD (ps.getD i putD).1.toNat []).drop (fs.getD i 0).toNat)) (ps.drop (i + 1)) (fs.drop (i + 1)) := by
  rw [drop_cons ps putD i h]
  simp only [flushL, List.drop_drop]
  have : (fs.drop i).getD 0 0 = fs.getD i 0 := by simp [List.getD_eq_getElem?_getD]
  rw [this]
theorem flushL_end (ss : List (List Int)) (ps : List PutT) (fs : List Int) (i : Nat) (h : ps.length ≤ i) : flushL ss (ps.drop i) (fs.drop i) = ss := by
  rw [drop_nil ps i h]; rfl
/-- A disk's parts fit; 'k': no more puts than that. -/
def GoodW (d : DiskT) (k : Nat) : Prop := (8 ≤ d.1.length ∧ d.1.length ≤ 64) ∧ (∀ i, i < d.1.length → (d.1.getD i []).length = 96) ∧ d.2.1.length ≤ k ∧ ∀ i, i < d.2.1.length → 0 ≤ (d.2.1.getD i putD).1 ∧ (d.2.1.getD i putD).1 ≤ (d.1.length : Int) - 1 ∧ (d.2.1.getD i putD).2.1.length = 96
theorem GoodD.w {d : DiskT} (h : GoodD d) : GoodW d 64 := ⟨h.1, h.2.1, by have := h.1; have := h.2.2.1; omega, h.2.2.2⟩
theorem getD_set_list {α : Type} (l : List α) (i j : Nat) (v d : α) (hj : j < l.length) : (l.set i v).getD j d = if i = j then v else l.getD j d := by
  simp only [List.getD_eq_getElem?_getD, List.getElem?_set]
  by_cases h : i = j
  · subst h; simp [hj]
  · simp [h]
theorem flushL_good : ∀ (ps : List PutT) (ss : List (List Int)) (fs : List Int), (∀ i, i < ss.length → (ss.getD i []).length = 96) → (∀ i, i < ps.length → (ps.getD i putD).2.1.length = 96) → (∀ i, i < ps.length → 0 ≤ fs.getD i 0 ∧ fs.getD i 0 ≤ 96) →
    (flushL ss ps fs).length = ss.length ∧ ∀ i, i < ss.length → ((flushL ss ps fs).getD i []).length = 96
  | [], ss, fs, h1, h2, h3 => ⟨rfl, h1⟩
  | p :: ps, ss, fs, h1, h2, h3 => by
    simp only [flushL]
    have hp : p.2.1.length = 96 := by simpa using h2 0 (by simp)
    have hf := h3 0 (by simp)
    have hs : ∀ i, i < (ss.set p.1.toNat (p.2.1.take (fs.getD 0 0).toNat ++ (ss.getD p.1.toNat []).drop (fs.getD 0 0).toNat)).length → ((ss.set p.1.toNat (p.2.1.take (fs.getD 0 0).toNat ++ (ss.getD p.1.toNat []).drop (fs.getD 0 0).toNat)).getD i []).length = 96 := fun i hi => by
      rw [List.length_set] at hi
      rw [getD_set_list _ _ _ _ _ hi]
      split
      · rename_i e
        subst e
        have := h1 _ hi
        rw [List.length_append, List.length_take, List.length_drop, this, hp]
        omega
      · exact h1 i hi
    obtain ⟨q1, q2⟩ := flushL_good ps _ (fs.drop 1) hs (fun i hi => by simpa using h2 (i + 1) (by simpa using hi)) (fun i hi => by
      have := h3 (i + 1) (by simpa using hi)
      simpa [List.getD_eq_getElem?_getD, Nat.add_comm] using this)
    rw [List.length_set] at q1 q2
    exact ⟨q1, q2⟩
theorem crashD_good {d : DiskT} {k : Nat} (h : GoodW d k) (fs : List Int) (hf : ∀ i, i < d.2.1.length → 0 ≤ fs.getD i 0 ∧ fs.getD i 0 ≤ 96) : GoodW (crashD d fs) k := by
  obtain ⟨h1, h2, h3, h4⟩ := h
  obtain ⟨q1, q2⟩ := flushL_good d.2.1 d.1 fs h2 (fun i hi => (h4 i hi).2.2) hf
  refine ⟨?_, fun i hi => ?_, by simp [crashD], fun i hi => by simp [crashD] at hi⟩
  · simp only [crashD]; omega
  · simp only [crashD] at hi ⊢
    exact q2 i (by omega)
theorem writeD_good {d : DiskT} {k : Nat} (h : GoodW d k) (n : Int) (data : List Int) (hn : 0 ≤ n ∧ n ≤ (d.1.length : Int) - 1) (hd : data.length = 96) : GoodW (writeD d n data) (k + 1) := by
  obtain ⟨h1, h2, h3, h4⟩ := h
  unfold writeD
  split
  · refine ⟨h1, h2, by rw [List.length_set]; omega, fun i hi => ?_⟩
    rw [List.length_set] at hi
    dsimp only at hi ⊢
    rw [getD_set_list _ _ _ _ _ hi]
    split
    · rename_i e
      subst e
      exact ⟨(h4 _ hi).1, (h4 _ hi).2.1, hd⟩
    · exact h4 i hi
  · refine ⟨h1, h2, by simp; omega, fun i hi => ?_⟩
    dsimp only at hi ⊢
    rw [List.length_append, List.length_singleton] at hi
    by_cases e : i < d.2.1.length
    · have : (d.2.1 ++ [(n, data, ())]).getD i putD = d.2.1.getD i putD := by simp [List.getD_eq_getElem?_getD, List.getElem?_append_left e]
      rw [this]; exact h4 i e
    · have : (d.2.1 ++ [(n, data, ())]).getD i putD = (n, data, ()) := by
        have : i = d.2.1.length := by omega
        subst this
        simp [List.getD_eq_getElem?_getD]
      rw [this]; exact ⟨hn.1, hn.2, hd⟩
theorem totL_each {α : Type} (f : α → Nat) (m : Nat) (d : α) : ∀ (l : List α), (∀ i, i < l.length → f (l.getD i d) ≤ m) → totL f l ≤ (m + 1) * l.length
  | [], _ => by simp [totL]
  | x :: l, h => by
    have h0 : f x ≤ m := by simpa using h 0 (by simp)
    have := totL_each f m d l (fun i hi => by simpa using h (i + 1) (by simpa using hi))
    simp only [totL, List.length_cons, Nat.mul_add, Nat.mul_one]
    omega
theorem goodW_tot {d : DiskT} {k : Nat} (h : GoodW d k) : tot tDisk d ≤ 6208 + 97 * k := by
  obtain ⟨h1, h2, h3, h4⟩ := h
  rw [tot_disk]
  have e1 := totL_each (tot (.sl (.int .u8))) 96 [] d.1 (fun i hi => by rw [tot_int]; have := h2 i hi; omega)
  have e2 := totL_each (tot tPut) 96 putD d.2.1 (fun i hi => by rw [tot_putv]; have := (h4 i hi).2.2; omega)
  have : (96 + 1) * d.2.1.length ≤ 97 * k := Nat.mul_le_mul_left _ h3
  omega
abbrev ActT := Int × PutT × Unit
def whole96 (d : DiskT) : List Int := List.replicate d.2.1.length 96
theorem whole96_at (d : DiskT) (i : Nat) (h : i < d.2.1.length) : (whole96 d).getD i 0 = 96 := by simp [whole96, List.getD_eq_getElem?_getD, List.getElem?_replicate, h]
def doAct (d : DiskT) (a : ActT) : Int × DiskT :=
  if a.1 = 2 then (if a.2.1.1 ≠ 0 ∨ a.2.1.2.1.length > 0 then (1, d) else (0, crashD d (whole96 d)))
  else if a.1 = 1 then (if writeFault d a.2.1.1 a.2.1.2.1 ≠ 0 then (writeFault d a.2.1.1 a.2.1.2.1, d) else (0, writeD d a.2.1.1 a.2.1.2.1)) else (1, d)
def doActsD : DiskT → List ActT → Int × DiskT
  | d, [] => (0, d)
  | d, a :: l => if (doAct d a).1 ≠ 0 then doAct d a else doActsD (doAct d a).2 l
abbrev actD : ActT := (0, putD, ())
theorem doActs_step (d : DiskT) (l : List ActT) (i : Nat) (h : i < l.length) : doActsD d (l.drop i) = if (doAct d (l.getD i actD)).1 ≠ 0 then doAct d (l.getD i actD) else doActsD (doAct d (l.getD i actD)).2 (l.drop (i + 1)) := by
  rw [drop_cons l actD i h]; rfl
theorem doActs_end (d : DiskT) (l : List ActT) (i : Nat) (h : l.length ≤ i) : doActsD d (l.drop i) = (0, d) := by rw [drop_nil l i h]; rfl
def doActs (d : DiskT) (l : List ActT) : Int × DiskT × Unit :=
  if diskFault d ≠ 0 then (diskFault d, zDisk, ()) else if l.length > 80 then (2, zDisk, ()) else if (doActsD d l).1 ≠ 0 then ((doActsD d l).1, zDisk, ()) else (0, (doActsD d l).2, ())
theorem writeFault_ok (d : DiskT) (n : Int) (data : List Int) (h : writeFault d n data = 0) : (0 ≤ n ∧ n ≤ (d.1.length : Int) - 1) ∧ data.length = 96 := by
  unfold writeFault at h
  split at h
  · cases h
  split at h
  · cases h
  · omega
theorem GoodW.mono {d : DiskT} {k k' : Nat} (h : GoodW d k) (hk : k ≤ k') : GoodW d k' := ⟨h.1, h.2.1, Nat.le_trans h.2.2.1 hk, h.2.2.2⟩
theorem doAct_good {d : DiskT} {k : Nat} (h : GoodW d k) (a : ActT) : GoodW (doAct d a).2 (k + 1) := by
  unfold doAct
  split
  · split
    · exact h.mono (by omega)
    · exact (crashD_good h (whole96 d) (fun i hi => by rw [whole96_at d i hi]; omega)).mono (by omega)
  · split
    · split
      · exact h.mono (by omega)
      · rename_i hw
        obtain ⟨w1, w2⟩ := writeFault_ok _ _ _ (by simpa using hw)
        exact writeD_good h _ _ w1 w2
    · exact h.mono (by omega)
theorem doActsD_good : ∀ (l : List ActT) {d : DiskT} {k : Nat}, GoodW d k → GoodW (doActsD d l).2 (k + l.length)
  | [], d, k, h => h
  | a :: l, d, k, h => by
    unfold doActsD
    split
    · exact (doAct_good h a).mono (by rw [List.length_cons]; omega)
    · have := doActsD_good l (doAct_good h a)
      exact this.mono (by rw [List.length_cons]; omega)
theorem doActs_tot (d : DiskT) (l : List ActT) : tot tDisk (doActs d l).2.1 ≤ 20176 := by
  have hz : tot tDisk zDisk = 0 := by simp [tot, totL]
  unfold doActs
  split
  · rw [hz]; omega
  split
  · rw [hz]; omega
  split
  · rw [hz]; omega
  · rename_i h1 h2 h3
    have hg := (diskFault_good d (by simpa using h1)).w
    have := goodW_tot (doActsD_good l hg)
    show tot tDisk (doActsD d l).2 ≤ _
    omega

end Go.Vee
