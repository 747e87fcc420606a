/-
  Contracts of functions of the program: what each returns for all arguments that its precondition lets in.
-/
import Derived.Test.YtjlojjkfdidkiaaVK7
set_option linter.unusedSimpArgs false
set_option linter.unusedVariables false
set_option maxRecDepth 100000
set_option maxHeartbeats 4000000
set_option synthInstance.maxHeartbeats 4000000
set_option synthInstance.maxSize 20000000
namespace Go.Vee
open Go
def packKeys (leaf : Bool) : List (List Int) → List Int → List Int
  | [], _ => []
  | k :: ks, vs => ((k.length : Int) % 256 :: k) ++ (if leaf = true then pairOf (vs.getD 0 0) else []) ++ packKeys leaf ks (vs.drop 1)
def packKids (l : List Int) : List Int := l.map (· % 256)
def packNode (p : Bool × List (List Int) × List Int × List Int × Unit) : List Int := (p.2.1.length : Int) % 256 :: (packKeys p.1 p.2.1 p.2.2.1 ++ packKids p.2.2.2.1)
theorem pk_step (leaf : Bool) (keys : List (List Int)) (vals : List Int) (i : Nat) (h : i < keys.length) : packKeys leaf (keys.drop i) (vals.drop i) =
    ((keys.getD i []).length : Int) % 256 :: (keys.getD i [] ++ ((if leaf = true then pairOf (vals.getD i 0) else []) ++ packKeys leaf (keys.drop (i + 1)) (vals.drop (i + 1)))) := by
  rw [drop_cons keys [] i h]
  simp only [packKeys, List.drop_drop, List.cons_append, List.append_assoc]
  congr 2
  simp [List.getD_eq_getElem?_getD]
theorem pk_end (leaf : Bool) (keys : List (List Int)) (vals : List Int) (i : Nat) (h : keys.length ≤ i) : packKeys leaf (keys.drop i) (vals.drop i) = [] := by
  rw [drop_nil keys i h]; rfl
theorem kd_step (kids : List Int) (i : Nat) (h : i < kids.length) : packKids (kids.drop i) = kids.getD i 0 % 256 :: packKids (kids.drop (i + 1)) := by
  rw [drop_cons kids 0 i h]; rfl
theorem kd_end (kids : List Int) (i : Nat) (h : kids.length ≤ i) : packKids (kids.drop i) = [] := by
  rw [drop_nil kids i h]; rfl
theorem any_false_getD {α : Type} (P : α → Bool) (l : List α) (d : α) (h : l.any P = false) (i : Nat) (hi : i < l.length) : P (l.getD i d) = false := by
  have := List.any_eq_false.1 h (l.getD i d) (by rw [List.getD_eq_getElem?_getD, List.getElem?_eq_getElem hi]; simp)
  simpa using this
theorem nodeFault_ok (p : Bool × List (List Int) × List Int × List Int × Unit) (h : nodeFault p = 0) : p.2.1.length ≤ 4 ∧ (∀ i, i < p.2.1.length → (p.2.1.getD i []).length ≤ 16) ∧
    (p.1 = true → p.2.2.1.length = p.2.1.length) ∧ (p.1 = true → ∀ i, i < p.2.2.1.length → 0 ≤ p.2.2.1.getD i 0) ∧ p.2.2.2.1.length ≤ 5 := by
  unfold nodeFault at h
  split at h
  · cases h
  split at h
  · cases h
  rename_i h2
  split at h
  · cases h
  refine ⟨by omega, fun i hi => ?_, ?_⟩
  · have := any_false_getD badKey p.2.1 [] (Bool.eq_false_iff.2 h2) i hi
    simp only [badKey, decide_eq_false_iff_not] at this
    omega
  split at h
  · split at h
    · cases h
    split at h
    · cases h
    rename_i h5
    refine ⟨fun _ => by omega, fun _ i hi => ?_, by omega⟩
    have := any_false_getD _ p.2.2.1 0 (Bool.eq_false_iff.2 h5) i hi
    simp only [Bool.not_eq_false', decide_eq_true_eq] at this
    omega
  · split at h
    · cases h
    rename_i h4 _
    exact ⟨fun e => absurd e h4, fun e => absurd e h4, by omega⟩

def F_i_packedNode (p : (Bool) × (List (List (Int))) × (List (Int)) × (List (Int)) × Unit) : List (Int) := packNode p
def Q_i_packedNode (p : (Bool) × (List (List (Int))) × (List (Int)) × (List (Int)) × Unit) : Prop := nodeFault p = 0
def O_i_packedNode : Opt := ⟨fun i => false, fun i => (match decide (i = 10) with | true => [false, false, false, true, false, false, false, false, false, false, false, false, false, false, false, false, false, false, false, false, false, false, false, false, false, false, false, false, false, false, false, false, false, false, false, false, false, false, false, false, false, true, true, true, false, false, false, false, false, false, false, false, false, false] | false => (match decide (i = 3) with | true => [false, true, false, true, false, false, false, false, false, false, false, false, false, false, true, true, true, false, false, false, false, false, false, false, false, false, false, false, false, false, false, false, false, false, false, false, false, false, false, false, false, false, false, false, false, false, false, false, false, false, false, false, false, false] | false => [])), fun i => .done, fun i => none, fun i => false, fun i => [], fun i => false, fun i => none, fun i => none⟩
def τ_i_packedNode : Env := Env.of [(2, (.int .i64)), (3, (.int .i64)), (4, .bool), (5, (.int .u8)), (22, (.sl (.sl (.int .u8)))), (34, (.sl (.int .u8))), (75, (.sl (.int .i64))), (156, (.pair .bool (.pair (.sl (.sl (.int .u8))) (.pair (.sl (.int .i64)) (.pair (.sl (.int .i64)) .unit)))))] [] []

theorem ct_i_packedNode (p : (Bool) × (List (List (Int))) × (List (Int)) × (List (Int)) × Unit) : Ct pg 149 [.dat (.pair .bool (.pair (.sl (.sl (.int .u8))) (.pair (.sl (.int .i64)) (.pair (.sl (.int .i64)) .unit)))) p] ⟨[Q_i_packedNode p], [⟨(.sl (.int .u8)), (.ow .sh), F_i_packedNode p⟩], []⟩ := by
  refine ct_claim (O := O_i_packedNode) (τ := τ_i_packedNode) (EnvOk.of (by kernel_rfl) (by kernel_rfl)) (GOk.of (.cons ok_i_pair .nil : AllOk pg [(82, con_i_pair)])) mixed (Enters.of (by kernel_rfl)) (fn := Go.Proofs.Try.f149) (by kernel_rfl) rfl (by kernel_rfl) ?_
  intro hp hw
  have hq : Q_i_packedNode p := hp _ (List.mem_singleton.2 rfl)
  clear hp
  change claim Lg.std Alg.std τ_i_packedNode (Gam.of [(82, con_i_pair)]) O_i_packedNode Go.Proofs.Try.f149 [.dat (.pair .bool (.pair (.sl (.sl (.int .u8))) (.pair (.sl (.int .i64)) (.pair (.sl (.int .i64)) .unit)))) p] ⟨[Q_i_packedNode p], [⟨(.sl (.int .u8)), (.ow .sh), F_i_packedNode p⟩], []⟩
  delta con_i_pair
  generalize hg_F_i_pair : F_i_pair = g_F_i_pair
  generalize hg_Q_i_pair : Q_i_pair = g_Q_i_pair
  generalize hR0 : F_i_packedNode p = R0
  generalize Q_i_packedNode p = Q0
  generalize hL : Lg.std = L
  generalize hA : Alg.std = A
  cbv
  subst hL hA
  try dsimp only [Ty.den]
  obtain ⟨p_0, p_1, p_2, p_3, ⟨⟩⟩ := p
  simp only [Q_i_packedNode] at hq
  have hok := nodeFault_ok _ hq
  dsimp only at hok
  obtain ⟨k1, k2, k3, k4, k5⟩ := hok
  repeat' (first | intro _ | apply And.intro)
  all_goals first | trivial | ((fail_if_success (refine lp_v (V := Unit) (fun _ => ⟨[], []⟩) (fun _ => True) (fun _ => 0) () ?_ ?_ ?_)); subst hR0 hg_F_i_pair hg_Q_i_pair; (try simp only [Alg.std, F_i_pair, Q_i_pair, F_i_packedNode] at *); all_goals grind [nodeFault]) | skip
  refine lp_v (V := (Int) × (Nat) × (List Int) × (Int)) (fun ((i, N, xs, M) : (Int) × (Nat) × (List Int) × (Int)) => ⟨[Jk, .bptr 0 0, Jk, .ref (.int .u8) 1 0 [] 0 N, Jk, Jk, Jk, Jk, Jk, Jk, Jk, Jk, Jk, Jk, .dat (.sl (.sl (.int .u8))) p_1, .dat (.int .i64) M, .dat (.int .i64) i, Jk, Jk, Jk, Jk, Jk, Jk, Jk, Jk, Jk, Jk, Jk, Jk, Jk, Jk, Jk, Jk, Jk, Jk, Jk, Jk, Jk, Jk, Jk, Jk, Jk, Jk, Jk, Jk, Jk, Jk, Jk, Jk, Jk, Jk, Jk, Jk, Jk], [some (.box [.dat .bool p_0, .dat (.sl (.sl (.int .u8))) p_1, .dat (.sl (.int .i64)) p_2, .dat (.sl (.int .i64)) p_3]), some (.row 0 (.int .u8) .sh xs)]⟩) (fun ((i, N, xs, M) : (Int) × (Nat) × (List Int) × (Int)) => M = p_1.length ∧ N = xs.length ∧ 0 ≤ i ∧ i ≤ p_1.length ∧ xs.length ≤ 1 + 19 * i ∧ xs ++ packKeys p_0 (p_1.drop i.toNat) (p_2.drop i.toNat) = (p_1.length : Int) % 256 :: packKeys p_0 p_1 p_2) (fun ((i, N, xs, M) : (Int) × (Nat) × (List Int) × (Int)) => p_1.length - i.toNat) (0, _, _, _) rfl ?_ ?_
  · simp [Alg.std, wrap8]
  rintro ⟨i, N, xs, M⟩ hf I hI
  replace hf : M = p_1.length ∧ N = xs.length ∧ 0 ≤ i ∧ i ≤ p_1.length ∧ xs.length ≤ 1 + 19 * i ∧ xs ++ packKeys p_0 (p_1.drop i.toNat) (p_2.drop i.toNat) = (p_1.length : Int) % 256 :: packKeys p_0 p_1 p_2 := hf
  generalize hL : Lg.std = L
  generalize hA : Alg.std = A
  cbv
  subst hL hA
  try dsimp only [Ty.den]
  subst hI
  obtain ⟨h1, h2, h3, h4, h5, h6⟩ := hf
  have hl := hw.1.2.1.1
  have hs := fun (h : i.toNat < p_1.length) => pk_step p_0 p_1 p_2 i.toNat h
  have he := fun (h : p_1.length ≤ i.toNat) => pk_end p_0 p_1 p_2 i.toNat h
  have hsu : (i + 1).toNat = i.toNat + 1 := by omega
  have hk := k2 i.toNat
  have hv := fun e => k4 e i.toNat
  have hpl : (pairOf (p_2.getD i.toNat 0)).length = 2 := rfl
  repeat' (first | intro _ | apply And.intro)
  all_goals first | (with_reducible exact True.intro) | ((fail_if_success (refine lp_v (V := Unit) (fun _ => ⟨[], []⟩) (fun _ => True) (fun _ => 0) () ?_ ?_ ?_)); (try simp only [Lg.std, Alg.std, List.drop_zero, List.take_length] at *); (try refine ⟨(_, _, _, _), rfl, ?_, ?_⟩); (all_goals (subst hR0 hg_F_i_pair hg_Q_i_pair; (try simp only [Lg.std, Alg.std, List.drop_zero, List.take_length, F_i_pair, Q_i_pair, F_i_packedNode] at *); first | done | (grind [wrap8])))) | skip
  refine lp_v (V := (Int) × (Nat) × (List Int) × (Int)) (fun ((i, N, xs, M) : (Int) × (Nat) × (List Int) × (Int)) => ⟨[Jk, Jk, Jk, .ref (.int .u8) 0 0 [] 0 N, Jk, Jk, Jk, Jk, Jk, Jk, Jk, Jk, Jk, Jk, Jk, Jk, Jk, Jk, Jk, Jk, Jk, Jk, Jk, Jk, Jk, Jk, Jk, Jk, Jk, Jk, Jk, Jk, Jk, Jk, Jk, Jk, Jk, Jk, Jk, Jk, Jk, .dat (.sl (.int .i64)) p_3, .dat (.int .i64) M, .dat (.int .i64) i, Jk, Jk, Jk, Jk, Jk, Jk, Jk, Jk, Jk, Jk], [some (.row 0 (.int .u8) .sh xs)]⟩) (fun ((i, N, xs, M) : (Int) × (Nat) × (List Int) × (Int)) => M = p_3.length ∧ N = xs.length ∧ 0 ≤ i ∧ i ≤ p_3.length ∧ xs.length ≤ 77 + i ∧ xs ++ packKids (p_3.drop i.toNat) = packNode (p_0, p_1, p_2, p_3, ())) (fun ((i, N, xs, M) : (Int) × (Nat) × (List Int) × (Int)) => p_3.length - i.toNat) (0, _, _, _) rfl ?_ ?_
  · subst hR0 hg_F_i_pair hg_Q_i_pair
    simp only [Alg.std, F_i_pair, Q_i_pair, F_i_packedNode] at *
    all_goals grind [packNode]
  rintro ⟨i, N, xs, M⟩ hf I hI
  replace hf : M = p_3.length ∧ N = xs.length ∧ 0 ≤ i ∧ i ≤ p_3.length ∧ xs.length ≤ 77 + i ∧ xs ++ packKids (p_3.drop i.toNat) = packNode (p_0, p_1, p_2, p_3, ()) := hf
  generalize hL : Lg.std = L
  generalize hA : Alg.std = A
  cbv
  subst hL hA
  try dsimp only [Ty.den]
  subst hI
  obtain ⟨h1, h2, h3, h4, h5, h6⟩ := hf
  have hl := hw.1.2.2.2.1.1
  have hs := fun (h : i.toNat < p_3.length) => kd_step p_3 i.toNat h
  have he := fun (h : p_3.length ≤ i.toNat) => kd_end p_3 i.toNat h
  have hsu : (i + 1).toNat = i.toNat + 1 := by omega
  repeat' (first | intro _ | apply And.intro)
  all_goals first | (with_reducible exact True.intro) | ((fail_if_success (refine lp_v (V := Unit) (fun _ => ⟨[], []⟩) (fun _ => True) (fun _ => 0) () ?_ ?_ ?_)); (try simp only [Lg.std, Alg.std, List.drop_zero, List.take_length] at *); (try refine ⟨(_, _, _, _), rfl, ?_, ?_⟩); (all_goals (subst hR0 hg_F_i_pair hg_Q_i_pair; (try simp only [Lg.std, Alg.std, List.drop_zero, List.take_length, F_i_pair, Q_i_pair, F_i_packedNode] at *); first | done | (grind [packNode, wrap8])))) | skip
def con_i_packedNode : Con := ⟨true, g1 (pD (.pair .bool (.pair (.sl (.sl (.int .u8))) (.pair (.sl (.int .i64)) (.pair (.sl (.int .i64)) .unit))))) fun p => .one ⟨[Q_i_packedNode p], [⟨(.sl (.int .u8)), (.ow .sh), F_i_packedNode p⟩], []⟩, [], false, 0⟩
theorem ok_i_packedNode : ConOk pg 149 con_i_packedNode := ConOk.g1 (Enters.of (by kernel_rfl)) ct_i_packedNode
end Go.Vee
