/-
  Contracts of functions of the program: what each returns for all arguments that its precondition lets in.
-/
import Derived.Test.YtjlojjkfdidkiaaVK18
set_option linter.unusedSimpArgs false
set_option linter.unusedVariables false
set_option maxRecDepth 100000
set_option maxHeartbeats 4000000
set_option synthInstance.maxHeartbeats 4000000
set_option synthInstance.maxSize 20000000
namespace Go.Vee
open Go
def putG (n : Int) : Bool → List Int → List Int
  | true, l => l
  | false, [] => [n]
  | false, x :: l => if n ≤ x then (if x = n then x :: l else n :: x :: l) else x :: putG n false l
def putI (l : List Int) (n : Int) : List Int := putG n false l
theorem putG_step (n : Int) (l : List Int) (i : Nat) (h : i < l.length) : putG n false (l.drop i) = if n ≤ l.getD i 0 then (if l.getD i 0 = n then l.drop i else n :: l.drop i) else l.getD i 0 :: putG n false (l.drop (i + 1)) := by
  rw [drop_cons l 0 i h]; rfl
theorem putG_end (n : Int) (l : List Int) (i : Nat) (h : l.length ≤ i) : putG n false (l.drop i) = [n] := by rw [drop_nil l i h]; rfl
theorem putG_done (n : Int) (l : List Int) : putG n true l = l := by cases l <;> rfl
theorem sorted_eq : ∀ (a b : List Int), a.Pairwise (· ≤ ·) → b.Pairwise (· ≤ ·) → a.Perm b → a = b
  | [], b, _, _, h => by simpa using h.symm
  | x :: a, [], _, _, h => by have := h.length_eq; simp at this
  | x :: a, y :: b, ha, hb, h => by
    rw [List.pairwise_cons] at ha hb
    have hx : x ∈ y :: b := h.mem_iff.1 (by simp)
    have hy : y ∈ x :: a := h.mem_iff.2 (by simp)
    have hxy : x = y := by
      rcases List.mem_cons.1 hx with e | hx
      · exact e
      · rcases List.mem_cons.1 hy with e | hy
        · exact e.symm
        · have h1 := hb.1 x hx
          have h2 := ha.1 y hy
          omega
    subst hxy
    rw [sorted_eq a b ha.2 hb.2 ((List.perm_cons x).1 h)]
theorem rise_pair : ∀ l : List Int, rise l = true → l.Pairwise (· < ·)
  | [], _ => List.Pairwise.nil
  | x :: l, h => List.Pairwise.cons (rise_lt l x h) (rise_pair l (rise_tail x l h))
theorem pair_rise : ∀ l : List Int, l.Pairwise (· < ·) → rise l = true
  | [], _ => rfl
  | [_], _ => rfl
  | x :: y :: l, h => by
    rw [List.pairwise_cons] at h
    simp only [rise, Bool.and_eq_true, decide_eq_true_eq]
    exact ⟨h.1 y (by simp), pair_rise (y :: l) h.2⟩
theorem putI_perm (n : Int) : ∀ l : List Int, n ∉ l → (putG n false l).Perm (l ++ [n])
  | [], _ => List.Perm.refl _
  | x :: l, h => by
    have hx : ¬ x = n := fun e => h (by simp [e])
    unfold putG
    split
    · first | rw [if_neg hx] | skip
      exact (List.perm_append_comm (l₁ := [n]) (l₂ := x :: l))
    · exact (putI_perm n l (fun hh => h (by simp [hh]))).cons x
theorem putI_mem (n : Int) : ∀ (l : List Int) (y : Int), y ∈ putG n false l → y = n ∨ y ∈ l
  | [], y, h => by simp [putG] at h; exact .inl h
  | x :: l, y, h => by
    unfold putG at h
    split at h
    · split at h
      · exact .inr h
      · rcases List.mem_cons.1 h with e | h
        · exact .inl e
        · exact .inr h
    · rcases List.mem_cons.1 h with e | h
      · exact .inr (by simp [e])
      · rcases putI_mem n l y h with e | h
        · exact .inl e
        · exact .inr (by simp [h])
theorem putI_pair (n : Int) : ∀ l : List Int, l.Pairwise (· < ·) → (putG n false l).Pairwise (· < ·)
  | [], _ => by simp [putG]
  | x :: l, h => by
    have h' := h
    rw [List.pairwise_cons] at h
    unfold putG
    split
    · rename_i hle
      split
      · exact h'
      · rename_i hne
        rw [List.pairwise_cons]
        refine ⟨fun y hy => ?_, h'⟩
        rcases List.mem_cons.1 hy with rfl | hy
        · omega
        · have := h.1 y hy; omega
    · rename_i hlt
      rw [List.pairwise_cons]
      refine ⟨fun y hy => ?_, putI_pair n l h.2⟩
      rcases putI_mem n l y hy with rfl | hy
      · omega
      · exact h.1 y hy
theorem sort_put (l : List Int) (n : Int) (h : rise l = true) (hn : l.contains n = false) : sortI (l ++ [n]) = putI l n := by
  have hn' : n ∉ l := by simpa using hn
  have hp := rise_pair l h
  refine sorted_eq _ _ ?_ ((putI_pair n l hp).imp (fun h => by omega)) ?_
  · have := List.pairwise_mergeSort (le := fun x y : Int => decide (x ≤ y)) (by intro a b c h1 h2; simp at *; omega) (by intro a b; simp; omega) (l ++ [n])
    exact this.imp (fun h => by simpa using h)
  · exact (List.mergeSort_perm _ _).trans (putI_perm n l hn').symm

def F_s_l1Put (list : List (Int)) (n : Int) : List (Int) := putI list n
def Q_s_l1Put (list : List (Int)) (n : Int) : Prop := list.length ≤ 1048576
def O_s_l1Put : Opt := ⟨fun i => false, fun i => (match decide (i = 4) with | true => [true, true, false, false, false, true, true, true, false, false, false, false, false, false, false, false, false, false, false, false, false, false, false, false, false, false, false, false, false, false, false, false, false, false, false, false, false, false, false, false, false, false, false, false, false, false, false, false, false] | false => []), fun i => .done, fun i => none, fun i => (match decide (i = 4) with | true => true | false => false), fun i => (match decide (i = 4) with | true => [(6, none, .bool, .sh)] | false => []), fun i => false, fun i => none, fun i => none⟩
def τ_s_l1Put : Env := Env.of [(2, (.int .i64)), (3, (.int .i64)), (4, .bool), (75, (.sl (.int .i64)))] [] []

theorem ct_s_l1Put (list : List (Int)) (n : Int) : Ct pg 129 [.dat (.sl (.int .i64)) list, .dat (.int .i64) n] ⟨[Q_s_l1Put list n], [⟨(.sl (.int .i64)), (.ow .sh), F_s_l1Put list n⟩], []⟩ := by
  refine ct_claim (O := O_s_l1Put) (τ := τ_s_l1Put) (EnvOk.of (by kernel_rfl) (by kernel_rfl)) (GOk.of (.nil : AllOk pg [])) mixed (Enters.of (by kernel_rfl)) (fn := Go.Proofs.Try.f129) (by kernel_rfl) rfl (by kernel_rfl) ?_
  intro hp hw
  have hq : Q_s_l1Put list n := hp _ (List.mem_singleton.2 rfl)
  clear hp
  change claim Lg.std Alg.std τ_s_l1Put (Gam.of []) O_s_l1Put Go.Proofs.Try.f129 [.dat (.sl (.int .i64)) list, .dat (.int .i64) n] ⟨[Q_s_l1Put list n], [⟨(.sl (.int .i64)), (.ow .sh), F_s_l1Put list n⟩], []⟩
  generalize hR0 : F_s_l1Put list n = R0
  generalize Q_s_l1Put list n = Q0
  generalize hL : Lg.std = L
  generalize hA : Alg.std = A
  cbv
  subst hL hA
  try dsimp only [Ty.den]
  simp only [Q_s_l1Put] at hq
  repeat' (first | intro _ | apply And.intro)
  all_goals first | trivial | ((fail_if_success (refine lp_v (V := Unit) (fun _ => ⟨[], []⟩) (fun _ => True) (fun _ => 0) () ?_ ?_ ?_)); subst hR0; (try simp only [Alg.std, F_s_l1Put] at *); all_goals grind) | skip
  refine lp_v (V := (Int) × (Nat) × (List Int) × (Bool)) (fun ((i, N, xs, b) : (Int) × (Nat) × (List Int) × (Bool)) => ⟨[.dat (.sl (.int .i64)) list, .dat (.int .i64) n, Jk, Jk, Jk, .ref (.int .i64) 0 0 [] 0 N, .dat .bool b, .dat (.int .i64) i, Jk, Jk, Jk, Jk, Jk, Jk, Jk, Jk, Jk, Jk, Jk, Jk, Jk, Jk, Jk, Jk, Jk, Jk, Jk, Jk, Jk, Jk, Jk, Jk, Jk, Jk, Jk, Jk, Jk, Jk, Jk, Jk, Jk, Jk, Jk, Jk, Jk, Jk, Jk, Jk, Jk], [some (.row 0 (.int .i64) .sh xs)]⟩) (fun ((i, N, xs, b) : (Int) × (Nat) × (List Int) × (Bool)) => N = xs.length ∧ 0 ≤ i ∧ i ≤ list.length ∧ xs.length ≤ i + 1 ∧ (b = false → xs.length ≤ i) ∧ putI list n = xs ++ putG n b (list.drop i.toNat)) (fun ((i, N, xs, b) : (Int) × (Nat) × (List Int) × (Bool)) => list.length - i.toNat) (0, _, _, _) rfl ?_ ?_
  · subst hR0
    (try simp only [Alg.std, F_s_l1Put, putI] at *)
    all_goals grind
  rintro ⟨i, N, xs, b⟩ hf I hI
  replace hf : N = xs.length ∧ 0 ≤ i ∧ i ≤ list.length ∧ xs.length ≤ i + 1 ∧ (b = false → xs.length ≤ i) ∧ putI list n = xs ++ putG n b (list.drop i.toNat) := hf
  generalize hL : Lg.std = L
  generalize hA : Alg.std = A
  cbv
  subst hL hA
  try dsimp only [Ty.den]
  subst hI
  obtain ⟨h1, h2, h3, h4, h5, h6⟩ := hf
  have h3' : i ≤ (list.length : Int) := h3
  have hsu : (i + 1).toNat = i.toNat + 1 := by omega
  have hs := fun (h : i.toNat < list.length) => putG_step n list i.toNat h
  have he := fun (h : list.length ≤ i.toNat) => putG_end n list i.toNat h
  have hd := putG_done n (list.drop i.toNat)
  have hd2 := putG_done n (list.drop (i.toNat + 1))
  have hc := fun (h : i.toNat < list.length) => drop_cons list 0 i.toNat h
  have hnl := fun (h : list.length ≤ i.toNat) => drop_nil list i.toNat h
  repeat' (first | intro _ | apply And.intro)
  all_goals first | (with_reducible exact True.intro) | ((fail_if_success (refine lp_v (V := Unit) (fun _ => ⟨[], []⟩) (fun _ => True) (fun _ => 0) () ?_ ?_ ?_)); (try simp only [Lg.std, Alg.std, List.drop_zero, List.take_length] at *); (try refine ⟨(_, _, _, _), rfl, ?_, ?_⟩); (all_goals (subst hR0; (try simp only [Lg.std, Alg.std, List.drop_zero, List.take_length, F_s_l1Put] at *); first | done | ((try simp only [List.take_succ_cons, List.take_zero, List.append_assoc, List.cons_append, List.nil_append] at *); grind [putI])))) | skip
def con_s_l1Put : Con := ⟨true, g2 (pD (.sl (.int .i64))) (pD (.int .i64)) fun list n => .one ⟨[Q_s_l1Put list n], [⟨(.sl (.int .i64)), (.ow .sh), F_s_l1Put list n⟩], []⟩, [], false, 0⟩
theorem ok_s_l1Put : ConOk pg 129 con_s_l1Put := ConOk.g2 (Enters.of (by kernel_rfl)) ct_s_l1Put
end Go.Vee
