/-
  Contracts of functions of the program: what each returns for all arguments that its precondition lets in.
-/
import Derived.Test.YtjlojjkfdidkiaaVK16
set_option linter.unusedSimpArgs false
set_option linter.unusedVariables false
set_option maxRecDepth 100000
set_option maxHeartbeats 4000000
set_option synthInstance.maxHeartbeats 4000000
set_option synthInstance.maxSize 20000000
namespace Go.Vee
open Go
theorem doActsD_app : ∀ (a b : List ActT) (d : DiskT), doActsD d (a ++ b) = if (doActsD d a).1 ≠ 0 then doActsD d a else doActsD (doActsD d a).2 b
  | [], b, d => by simp [doActsD]
  | x :: a, b, d => by
    rw [List.cons_append]
    by_cases h : (doAct d x).1 ≠ 0
    · have e : ∀ l, doActsD d (x :: l) = doAct d x := fun l => by unfold doActsD; exact if_pos h
      rw [e, e, if_pos h]
    · have e : ∀ l, doActsD d (x :: l) = doActsD (doAct d x).2 l := fun l => by rw [doActsD]; exact if_neg h
      rw [e, e]
      exact doActsD_app a b _
theorem dup_nodup (l : List PutT) : ∀ (i : Nat), i ≤ l.length → (dupTo l i = false ↔ ((l.take i).map (fun x => x.1)).Nodup)
  | 0, _ => by simp [dupTo]
  | i + 1, h => by
    have ih := dup_nodup l i (by omega)
    rw [dup_succ, Bool.or_eq_false_iff, ih, List.take_add_one, List.getElem?_eq_getElem (by omega)]
    have e : l.getD i putD = l[i] := by simp [List.getD_eq_getElem?_getD, show i < l.length by omega]
    simp only [Option.toList_some, List.map_append, List.map_cons, List.map_nil, List.nodup_append, seenP, e]
    constructor
    · rintro ⟨h1, h2⟩
      refine ⟨h1, by simp, fun a ha b hb hab => ?_⟩
      rw [List.mem_singleton] at hb
      obtain ⟨y, hy, rfl⟩ := List.mem_map.1 ha
      have := List.any_eq_false.1 h2 y hy
      simp only [decide_eq_true_eq] at this
      exact this (by rw [hab, hb])
    · rintro ⟨h1, _, h3⟩
      refine ⟨h1, List.any_eq_false.2 fun y hy => ?_⟩
      simp only [decide_eq_true_eq]
      exact fun hh => h3 y.1 (List.mem_map.2 ⟨y, hy, rfl⟩) _ (List.mem_singleton.2 rfl) hh.symm
/-- What a disk without fault is. -/
def okD (d : DiskT) : Prop := (8 ≤ d.1.length ∧ d.1.length ≤ 64) ∧ (∀ b ∈ d.1, b.length = 96) ∧ (∀ p ∈ d.2.1, (0 ≤ p.1 ∧ p.1 ≤ (d.1.length : Int) - 1) ∧ p.2.1.length = 96) ∧ (d.2.1.map (fun x => x.1)).Nodup
theorem putsBad_iff (n : Int) : ∀ (l : List PutT), putsBad n l = 0 ↔ ∀ p ∈ l, (0 ≤ p.1 ∧ p.1 ≤ n - 1) ∧ p.2.1.length = 96
  | [] => by simp [putsBad]
  | p :: l => by
    have ih := putsBad_iff n l
    unfold putsBad
    by_cases h1 : 0 ≤ p.1 ∧ p.1 ≤ n - 1
    · rw [if_neg (by simpa using h1)]
      by_cases h2 : p.2.1.length ≠ 96
      · rw [if_pos h2]
        constructor
        · intro h; cases h
        · intro h; exact absurd (h p (by simp)).2 h2
      · rw [if_neg h2, ih]
        constructor
        · intro h q hq
          rcases List.mem_cons.1 hq with rfl | hq
          · exact ⟨h1, by simpa using h2⟩
          · exact h q hq
        · intro h q hq; exact h q (by simp [hq])
    · rw [if_pos h1]
      constructor
      · intro h; cases h
      · intro h; exact absurd (h p (by simp)).1 h1
theorem nodup_max (n : Nat) : ∀ (l : List Int), l.Nodup → (∀ x ∈ l, 0 ≤ x ∧ x < (n : Int)) → l.length ≤ n := by
  induction n with
  | zero =>
    intro l _ h
    cases l with
    | nil => simp
    | cons x l => have := h x (by simp); omega
  | succ n ih =>
    intro l hd h
    by_cases hm : (n : Int) ∈ l
    · have h1 := ih (l.erase (n : Int)) (hd.erase _) (fun x hx => by
        have h2 := h x (List.mem_of_mem_erase hx)
        have h3 : x ≠ (n : Int) := fun e => by
          subst e
          exact (List.Nodup.not_mem_erase hd) hx
        omega)
      rw [List.length_erase_of_mem hm] at h1
      omega
    · have h1 := ih l hd (fun x hx => by
        have h2 := h x hx
        have h3 : x ≠ (n : Int) := fun e => hm (e ▸ hx)
        omega)
      omega
theorem okD_len (d : DiskT) (h : okD d) : d.2.1.length ≤ d.1.length := by
  have := nodup_max d.1.length (d.2.1.map (fun x => x.1)) h.2.2.2 (fun x hx => by
    obtain ⟨y, hy, rfl⟩ := List.mem_map.1 hx
    have := (h.2.2.1 y hy).1
    omega)
  simpa using this
theorem diskFault_iff (d : DiskT) : diskFault d = 0 ↔ okD d := by
  have hn := dup_nodup d.2.1 d.2.1.length (Nat.le_refl _)
  rw [List.take_length] at hn
  have hb := putsBad_iff d.1.length d.2.1
  unfold diskFault
  constructor
  · intro h
    split at h
    · cases h
    rename_i h1
    split at h
    · cases h
    rename_i h2
    split at h
    · cases h
    split at h
    · rename_i h4; exact absurd h h4
    rename_i h4
    split at h
    · cases h
    rename_i h5
    refine ⟨by omega, fun b hbm => ?_, hb.1 (by simpa using h4), hn.1 (by simpa using h5)⟩
    have := List.any_eq_false.1 (Bool.eq_false_iff.2 h2) b hbm
    simpa using this
  · intro h
    have hl := okD_len d h
    rw [if_neg (by have := h.1; omega), if_neg, if_neg (by omega), if_neg (by rw [hb.2 h.2.2.1]; simp), if_neg (by rw [hn.2 h.2.2.2]; simp)]
    rw [Bool.not_eq_true, List.any_eq_false]
    intro b hbm
    simpa using h.2.1 b hbm
theorem findG_none {α : Type} (p : α → Bool) (l : List α) (h : ¬ 0 ≤ findG p l 0) : ∀ x ∈ l, p x = false := by
  have := findG_any p l 0 (by omega)
  rw [decide_eq_false h] at this
  intro x hx
  exact Bool.eq_false_iff.2 (List.any_eq_false.1 this.symm x hx)
theorem map_fst_set (l : List PutT) (i : Nat) (v : List Int) : (l.set i ((l.getD i putD).1, v, ())).map (fun x => x.1) = l.map (fun x => x.1) := by
  apply List.ext_getElem
  · simp
  · intro j h1 h2
    simp only [List.length_map, List.length_set] at h1
    simp only [List.getElem_map, List.getElem_set]
    split
    · rename_i e
      subst e
      simp [List.getD_eq_getElem?_getD, h1]
    · rfl
theorem writeD_ok (d : DiskT) (n : Int) (data : List Int) (h : okD d) (hn : 0 ≤ n ∧ n ≤ (d.1.length : Int) - 1) (hd : data.length = 96) : okD (writeD d n data) := by
  unfold writeD
  split
  · rename_i hf
    refine ⟨h.1, h.2.1, fun p hp => ?_, ?_⟩
    · dsimp only at hp ⊢
      rcases List.mem_or_eq_of_mem_set hp with hp | rfl
      · exact h.2.2.1 p hp
      · refine ⟨?_, hd⟩
        have hr := findG_range (fun x : PutT => decide (x.1 = n)) d.2.1 0 (by omega)
        generalize findG (fun x : PutT => decide (x.1 = n)) d.2.1 0 = k at *
        exact (h.2.2.1 _ (getD_mem d.2.1 putD k.toNat (by omega))).1
    · dsimp only
      rw [map_fst_set]
      exact h.2.2.2
  · rename_i hf
    have hx := findG_none _ _ hf
    refine ⟨h.1, h.2.1, fun p hp => ?_, ?_⟩
    · dsimp only at hp ⊢
      rcases List.mem_append.1 hp with hp | hp
      · exact h.2.2.1 p hp
      · rw [List.mem_singleton.1 hp]; exact ⟨hn, hd⟩
    · dsimp only
      rw [List.map_append, List.nodup_append]
      refine ⟨h.2.2.2, by simp, fun a ha b hb e => ?_⟩
      obtain ⟨y, hy, rfl⟩ := List.mem_map.1 ha
      simp only [List.map_cons, List.map_nil, List.mem_singleton] at hb
      have := hx y hy
      simp only [decide_eq_false_iff_not] at this
      exact this (by rw [e, hb])
theorem okD_each (d : DiskT) (h : okD d) : GoodW d 64 := by
  have hl := okD_len d h
  have h1 := h.1
  refine ⟨h.1, fun i hi => h.2.1 _ (getD_mem d.1 [] i hi), by omega, fun i hi => ?_⟩
  have := h.2.2.1 _ (getD_mem d.2.1 putD i hi)
  exact ⟨this.1.1, this.1.2, this.2⟩
theorem crashD_ok (d : DiskT) (fs : List Int) (h : okD d) (hf : ∀ i, i < d.2.1.length → 0 ≤ fs.getD i 0 ∧ fs.getD i 0 ≤ 96) : okD (crashD d fs) := by
  have g := crashD_good (okD_each d h) fs hf
  refine ⟨g.1, fun b hb => ?_, fun p hp => by simp [crashD] at hp, by simp [crashD]⟩
  obtain ⟨i, hi, e⟩ := List.mem_iff_getElem.1 hb
  have := g.2.1 i hi
  rw [List.getD_eq_getElem?_getD, List.getElem?_eq_getElem hi] at this
  rw [← e]; exact this
theorem doAct_ok (d : DiskT) (a : ActT) (h : okD d) : okD (doAct d a).2 := by
  unfold doAct
  split
  · split
    · exact h
    · exact crashD_ok d _ h (fun i hi => by rw [whole96_at d i hi]; omega)
  · split
    · split
      · exact h
      · rename_i hw
        obtain ⟨w1, w2⟩ := writeFault_ok _ _ _ (by simpa using hw)
        exact writeD_ok d _ _ h w1 w2
    · exact h
theorem doActsD_ok : ∀ (l : List ActT) (d : DiskT), okD d → okD (doActsD d l).2
  | [], d, h => h
  | a :: l, d, h => by
    unfold doActsD
    split
    · exact doAct_ok d a h
    · exact doActsD_ok l _ (doAct_ok d a h)
theorem doActs_0 (d : DiskT) (l : List ActT) (h : (doActs d l).1 = 0) : diskFault d = 0 ∧ l.length ≤ 80 ∧ (doActsD d l).1 = 0 ∧ (doActs d l).2.1 = (doActsD d l).2 := by
  unfold doActs at h ⊢
  split at h
  · rename_i h1; exact absurd h h1
  rename_i h1
  split at h
  · cases h
  rename_i h2
  split at h
  · rename_i h3; exact absurd h h3
  rename_i h3
  rw [if_neg h1, if_neg h2, if_neg h3]
  exact ⟨by simpa using h1, by omega, by simpa using h3, rfl⟩
theorem doActs_1 (d : DiskT) (l : List ActT) (h1 : diskFault d = 0) (h2 : l.length ≤ 80) (h3 : (doActsD d l).1 = 0) : doActs d l = (0, (doActsD d l).2, ()) := by
  unfold doActs
  rw [if_neg (by omega), if_neg (by omega), if_neg (by omega)]
/-- The law of acts. -/
theorem acts_law (d : DiskT) (l : List ActT) (k : Nat) (h : (doActs d l).1 = 0) : (doActs d (l.take k)).1 = 0 ∧ doActs (doActs d (l.take k)).2.1 (l.drop k) = doActs d l ∧ diskFault (doActs d l).2.1 = 0 := by
  obtain ⟨h1, h2, h3, h4⟩ := doActs_0 d l h
  have e := doActsD_app (l.take k) (l.drop k) d
  rw [List.take_append_drop] at e
  have ha : (doActsD d (l.take k)).1 = 0 := by
    by_cases c : (doActsD d (l.take k)).1 ≠ 0
    · rw [if_pos c] at e; rw [e] at h3; exact absurd h3 c
    · simpa using c
  rw [if_neg (by simpa using ha)] at e
  have hd1 := doActs_1 d (l.take k) h1 (by rw [List.length_take]; omega) ha
  have hok := doActsD_ok (l.take k) d ((diskFault_iff d).1 h1)
  have hal := doActs_1 d l h1 h2 h3
  refine ⟨by rw [hd1], ?_, ?_⟩
  · rw [hd1, hal]
    dsimp only
    rw [doActs_1 _ (l.drop k) ((diskFault_iff _).2 hok) (by rw [List.length_drop]; omega) (by rw [← e]; exact h3), ← e]
  · rw [hal]
    exact (diskFault_iff _).2 (doActsD_ok l d ((diskFault_iff d).1 h1))
end Go.Vee
