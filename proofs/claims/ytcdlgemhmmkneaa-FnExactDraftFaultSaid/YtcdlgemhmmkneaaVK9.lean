/-
  Contracts of functions of the program: what each returns for all arguments that its precondition lets in.
-/
import Derived.Test.YtcdlgemhmmkneaaVK8
set_option linter.unusedSimpArgs false
set_option linter.unusedVariables false
set_option maxRecDepth 100000
set_option maxHeartbeats 4000000
set_option synthInstance.maxHeartbeats 400000
set_option synthInstance.maxSize 2000
namespace Go.Vee
open Go
def packKeys (leaf : Bool) : List (List Int) → List Int → List Int
  | [], _ => []
  | k :: ks, vs => ((k.length : Int) % 256 :: k) ++ (if leaf = true then pairOf (vs.getD 0 0) else []) ++ packKeys leaf ks (vs.drop 1)
def packKids (l : List Int) : List Int := l.map (· % 256)
def packNode (p : Bool × List (List Int) × List Int × List Int × Unit) : List Int := (p.2.1.length : Int) % 256 :: (packKeys p.1 p.2.1 p.2.2.1 ++ packKids p.2.2.2.1)
theorem pk_step (leaf : Bool) (keys : List (List Int)) (vals : List Int) (i : Nat) (h : i < keys.length) : packKeys leaf (keys.drop i) (vals.drop i) =
    ((keys.getD i []).length : Int) % 256 :: (keys.getD i [] ++ ((if leaf = true then pairOf (vals.getD i 0) else []) ++ packKeys leaf (keys.drop (i + 1)) (vals.drop (i + 1)))) := by
  rw [drop_cons keys [] i h]
  simp only [packKeys, List.drop_drop, List.cons_append, List.append_assoc]
  congr 2
  simp [List.getD_eq_getElem?_getD]
theorem pk_end (leaf : Bool) (keys : List (List Int)) (vals : List Int) (i : Nat) (h : keys.length ≤ i) : packKeys leaf (keys.drop i) (vals.drop i) = [] := by
  rw [drop_nil keys i h]; rfl
theorem kd_step (kids : List Int) (i : Nat) (h : i < kids.length) : packKids (kids.drop i) = kids.getD i 0 % 256 :: packKids (kids.drop (i + 1)) := by
  rw [drop_cons kids 0 i h]; rfl
theorem kd_end (kids : List Int) (i : Nat) (h : kids.length ≤ i) : packKids (kids.drop i) = [] := by
  rw [drop_nil kids i h]; rfl
theorem any_false_getD {α : Type} (P : α → Bool) (l : List α) (d : α) (h : l.any P = false) (i : Nat) (hi : i < l.length) : P (l.getD i d) = false := by
  have := List.any_eq_false.1 h (l.getD i d) (by rw [List.getD_eq_getElem?_getD, List.getElem?_eq_getElem hi]; simp)
  simpa using this
theorem nodeFault_ok (p : Bool × List (List Int) × List Int × List Int × Unit) (h : nodeFault p = 0) : p.2.1.length ≤ 4 ∧ (∀ i, i < p.2.1.length → (p.2.1.getD i []).length ≤ 16) ∧
    (p.1 = true → p.2.2.1.length = p.2.1.length) ∧ (p.1 = true → ∀ i, i < p.2.2.1.length → 0 ≤ p.2.2.1.getD i 0) ∧ p.2.2.2.1.length ≤ 5 := by
  unfold nodeFault at h
  split at h
  · cases h
  split at h
  · cases h
  rename_i h2
  split at h
  · cases h
  refine ⟨by omega, fun i hi => ?_, ?_⟩
  · have := any_false_getD badKey p.2.1 [] (Bool.eq_false_iff.2 h2) i hi
    simp only [badKey, decide_eq_false_iff_not] at this
    omega
  split at h
  · split at h
    · cases h
    split at h
    · cases h
    rename_i h5
    refine ⟨fun _ => by omega, fun _ i hi => ?_, by omega⟩
    have := any_false_getD _ p.2.2.1 0 (Bool.eq_false_iff.2 h5) i hi
    simp only [Bool.not_eq_false', decide_eq_true_eq] at this
    omega
  · split at h
    · cases h
    rename_i h4 _
    exact ⟨fun e => absurd e h4, fun e => absurd e h4, by omega⟩
theorem packKeys_length (leaf : Bool) : ∀ (ks : List (List Int)) (vs : List Int), (∀ i, i < ks.length → (ks.getD i []).length ≤ 16) → (packKeys leaf ks vs).length ≤ 19 * ks.length
  | [], vs, _ => by simp [packKeys]
  | k :: ks, vs, h => by
    have h0 : k.length ≤ 16 := h 0 (by simp)
    have ih := packKeys_length leaf ks (vs.drop 1) (fun i hi => h (i + 1) (by simpa using hi))
    have hp : (if leaf = true then pairOf (vs.getD 0 0) else []).length ≤ 2 := by split <;> simp [pairOf]
    simp only [packKeys, List.length_append, List.length_cons]
    omega
theorem packNode_length (p : Bool × List (List Int) × List Int × List Int × Unit) (h : nodeFault p = 0) : (packNode p).length ≤ 96 := by
  obtain ⟨k1, k2, k3, k4, k5⟩ := nodeFault_ok p h
  have := packKeys_length p.1 p.2.1 p.2.2.1 k2
  simp only [packNode, packKids, List.length_cons, List.length_append, List.length_map]
  omega

def F_s_l15Node (p : (Bool) × (List (List (Int))) × (List (Int)) × (List (Int)) × Unit) : List (Int) := packNode p
def Q_s_l15Node (p : (Bool) × (List (List (Int))) × (List (Int)) × (List (Int)) × Unit) : Prop := nodeFault p = 0
def O_s_l15Node : Opt := ⟨fun i => false, fun i => (match decide (i = 10) with | true => [true, false, false, true, false, true, false, false, false, false, false, false, false, false, false, false, false, false, false, false, false, false, false, false, false, false, false, false, false, false, false, false, false, false, false, false, false, false, false, false, false, false, false, false, false, false, false, false, false, false, false, false, false, false, false, false, false, false, false, false, false, false, false, false, false, false, false, false, false, false, false, false, false, false, false, false, false, false] | false => (match decide (i = 3) with | true => [true, false, false, true, true, false, false, false, false, false, false, false, false, false, false, false, false, false, false, false, false, false, false, false, false, false, false, false, false, false, false, false, false, false, false, false, false, false, false, false, false, false, false, false, false, false, false, false, false, false, false, false, false, false, false, false, false, false, false, false, false, false, false, false, false, false, false, false, false, false, false, false, false, false, false, false, false, false] | false => [])), fun i => .done, fun i => none⟩
def τ_s_l15Node : Env := Env.of [(2, (.int .i64)), (3, (.int .i64)), (4, .bool), (5, (.int .u8)), (22, (.sl (.int .u8))), (43, (.sl (.sl (.int .u8)))), (44, (.sl (.int .i64))), (49, (.pair .bool (.pair (.sl (.sl (.int .u8))) (.pair (.sl (.int .i64)) (.pair (.sl (.int .i64)) .unit)))))] [(147, (.pair .bool (.pair (.sl (.sl (.int .u8))) (.pair (.sl (.int .i64)) (.pair (.sl (.int .i64)) .unit)))))]

theorem ct_s_l15Node (p : (Bool) × (List (List (Int))) × (List (Int)) × (List (Int)) × Unit) : Ct pg 123 [.dptr (.pair .bool (.pair (.sl (.sl (.int .u8))) (.pair (.sl (.int .i64)) (.pair (.sl (.int .i64)) .unit)))) p] ⟨[Q_s_l15Node p], [⟨(.sl (.int .u8)), (.ow .sh), F_s_l15Node p⟩], []⟩ := by
  refine ct_claim (O := O_s_l15Node) (τ := τ_s_l15Node) (EnvOk.of (by kernel_rfl)) (GOk.of (.cons ok_s_l1Pair .nil : AllOk pg [(110, con_s_l1Pair)])) mixed (Enters.of (by kernel_rfl)) (fn := Go.Proofs.Try.f123) (by kernel_rfl) rfl (by kernel_rfl) ?_
  intro hp hw
  have hq : Q_s_l15Node p := hp _ (List.mem_singleton.2 rfl)
  clear hp
  change claim Lg.std Alg.std τ_s_l15Node (Gam.of [(110, ⟨true, g1 (pD (.int .i64)) fun n => ⟨[Q_s_l1Pair n], [⟨(.sl (.int .u8)), (.ow .sh), F_s_l1Pair n⟩], []⟩, []⟩)]) O_s_l15Node Go.Proofs.Try.f123 [.dptr (.pair .bool (.pair (.sl (.sl (.int .u8))) (.pair (.sl (.int .i64)) (.pair (.sl (.int .i64)) .unit)))) p] ⟨[Q_s_l15Node p], [⟨(.sl (.int .u8)), (.ow .sh), F_s_l15Node p⟩], []⟩
  generalize hg_F_s_l1Pair : F_s_l1Pair = g_F_s_l1Pair
  generalize hg_Q_s_l1Pair : Q_s_l1Pair = g_Q_s_l1Pair
  generalize hR0 : F_s_l15Node p = R0
  generalize Q_s_l15Node p = Q0
  generalize hL : Lg.std = L
  generalize hA : Alg.std = A
  cbv
  subst hL hA
  try dsimp only [Ty.den]
  obtain ⟨p_0, p_1, p_2, p_3, ⟨⟩⟩ := p
  simp only [Q_s_l15Node] at hq
  have hok := nodeFault_ok _ hq
  dsimp only at hok
  obtain ⟨k1, k2, k3, k4, k5⟩ := hok
  repeat' (first | intro _ | apply And.intro)
  all_goals first | trivial | ((fail_if_success (refine lp_v (V := Unit) (fun _ => ⟨[], []⟩) (fun _ => True) (fun _ => 0) () ?_ ?_ ?_)); subst hR0 hg_F_s_l1Pair hg_Q_s_l1Pair; (try simp only [Alg.std, F_s_l1Pair, Q_s_l1Pair, F_s_l15Node] at *); all_goals grind [nodeFault]) | skip
  refine lp_v (V := (Int) × (Nat) × (List Int)) (fun ((i, N, xs) : (Int) × (Nat) × (List Int)) => ⟨[.dptr (.pair .bool (.pair (.sl (.sl (.int .u8))) (.pair (.sl (.int .i64)) (.pair (.sl (.int .i64)) .unit)))) (p_0, p_1, p_2, p_3, PUnit.unit), .junk, .junk, .ref (.int .u8) 0 0 [] 0 N, .dat (.int .i64) i, .junk, .junk, .junk, .junk, .junk, .junk, .junk, .junk, .junk, .junk, .junk, .junk, .junk, .junk, .junk, .junk, .junk, .junk, .junk, .junk, .junk, .junk, .junk, .junk, .junk, .junk, .junk, .junk, .junk, .junk, .junk, .junk, .junk, .junk, .junk, .junk, .junk, .junk, .junk, .junk, .junk, .junk, .junk, .junk, .junk, .junk, .junk, .junk, .junk, .junk, .junk, .junk, .junk, .junk, .junk, .junk, .junk, .junk, .junk, .junk, .junk, .junk, .junk, .junk, .junk, .junk, .junk, .junk, .junk, .junk, .junk, .junk, .junk], [some (.row 0 (.int .u8) .sh xs)]⟩) (fun ((i, N, xs) : (Int) × (Nat) × (List Int)) => N = xs.length ∧ 0 ≤ i ∧ i ≤ p_1.length ∧ xs.length ≤ 1 + 19 * i ∧ xs ++ packKeys p_0 (p_1.drop i.toNat) (p_2.drop i.toNat) = (p_1.length : Int) % 256 :: packKeys p_0 p_1 p_2) (fun ((i, N, xs) : (Int) × (Nat) × (List Int)) => p_1.length - i.toNat) (0, _, _) rfl ?_ ?_
  · simp [Alg.std, wrap8]
  rintro ⟨i, N, xs⟩ hf I hI
  replace hf : N = xs.length ∧ 0 ≤ i ∧ i ≤ p_1.length ∧ xs.length ≤ 1 + 19 * i ∧ xs ++ packKeys p_0 (p_1.drop i.toNat) (p_2.drop i.toNat) = (p_1.length : Int) % 256 :: packKeys p_0 p_1 p_2 := hf
  generalize hL : Lg.std = L
  generalize hA : Alg.std = A
  cbv
  subst hL hA
  try dsimp only [Ty.den]
  subst hI
  obtain ⟨h1, h2, h3, h4, h5⟩ := hf
  have hl := hw.1.2.1.1
  have hs := fun (h : i.toNat < p_1.length) => pk_step p_0 p_1 p_2 i.toNat h
  have he := fun (h : p_1.length ≤ i.toNat) => pk_end p_0 p_1 p_2 i.toNat h
  have hsu : (i + 1).toNat = i.toNat + 1 := by omega
  have hk := k2 i.toNat
  have hv := fun e => k4 e i.toNat
  have hpl : (pairOf (p_2.getD i.toNat 0)).length = 2 := rfl
  repeat' (first | intro _ | apply And.intro)
  all_goals first | (with_reducible exact True.intro) | ((fail_if_success (refine lp_v (V := Unit) (fun _ => ⟨[], []⟩) (fun _ => True) (fun _ => 0) () ?_ ?_ ?_)); (try simp only [Lg.std, Alg.std, List.drop_zero, List.take_length] at *); (try refine ⟨(_, _, _), rfl, ?_, ?_⟩); (all_goals (subst hR0 hg_F_s_l1Pair hg_Q_s_l1Pair; (try simp only [Lg.std, Alg.std, List.drop_zero, List.take_length, F_s_l1Pair, Q_s_l1Pair, F_s_l15Node] at *); first | done | (grind [wrap8])))) | skip
  refine lp_v (V := (Int) × (Nat) × (List Int)) (fun ((i, N, xs) : (Int) × (Nat) × (List Int)) => ⟨[.dptr (.pair .bool (.pair (.sl (.sl (.int .u8))) (.pair (.sl (.int .i64)) (.pair (.sl (.int .i64)) .unit)))) (p_0, p_1, p_2, p_3, PUnit.unit), .junk, .junk, .ref (.int .u8) 0 0 [] 0 N, .junk, .dat (.int .i64) i, .junk, .junk, .junk, .junk, .junk, .junk, .junk, .junk, .junk, .junk, .junk, .junk, .junk, .junk, .junk, .junk, .junk, .junk, .junk, .junk, .junk, .junk, .junk, .junk, .junk, .junk, .junk, .junk, .junk, .junk, .junk, .junk, .junk, .junk, .junk, .junk, .junk, .junk, .junk, .junk, .junk, .junk, .junk, .junk, .junk, .junk, .junk, .junk, .junk, .junk, .junk, .junk, .junk, .junk, .junk, .junk, .junk, .junk, .junk, .junk, .junk, .junk, .junk, .junk, .junk, .junk, .junk, .junk, .junk, .junk, .junk, .junk], [some (.row 0 (.int .u8) .sh xs)]⟩) (fun ((i, N, xs) : (Int) × (Nat) × (List Int)) => N = xs.length ∧ 0 ≤ i ∧ i ≤ p_3.length ∧ xs.length ≤ 77 + i ∧ xs ++ packKids (p_3.drop i.toNat) = packNode (p_0, p_1, p_2, p_3, ())) (fun ((i, N, xs) : (Int) × (Nat) × (List Int)) => p_3.length - i.toNat) (0, _, _) rfl ?_ ?_
  · subst hR0 hg_F_s_l1Pair hg_Q_s_l1Pair
    simp only [Alg.std, F_s_l1Pair, Q_s_l1Pair, F_s_l15Node] at *
    all_goals grind [packNode]
  rintro ⟨i, N, xs⟩ hf I hI
  replace hf : N = xs.length ∧ 0 ≤ i ∧ i ≤ p_3.length ∧ xs.length ≤ 77 + i ∧ xs ++ packKids (p_3.drop i.toNat) = packNode (p_0, p_1, p_2, p_3, ()) := hf
  generalize hL : Lg.std = L
  generalize hA : Alg.std = A
  cbv
  subst hL hA
  try dsimp only [Ty.den]
  subst hI
  obtain ⟨h1, h2, h3, h4, h5⟩ := hf
  have hl := hw.1.2.2.2.1.1
  have hs := fun (h : i.toNat < p_3.length) => kd_step p_3 i.toNat h
  have he := fun (h : p_3.length ≤ i.toNat) => kd_end p_3 i.toNat h
  have hsu : (i + 1).toNat = i.toNat + 1 := by omega
  repeat' (first | intro _ | apply And.intro)
  all_goals first | (with_reducible exact True.intro) | ((fail_if_success (refine lp_v (V := Unit) (fun _ => ⟨[], []⟩) (fun _ => True) (fun _ => 0) () ?_ ?_ ?_)); (try simp only [Lg.std, Alg.std, List.drop_zero, List.take_length] at *); (try refine ⟨(_, _, _), rfl, ?_, ?_⟩); (all_goals (subst hR0 hg_F_s_l1Pair hg_Q_s_l1Pair; (try simp only [Lg.std, Alg.std, List.drop_zero, List.take_length, F_s_l1Pair, Q_s_l1Pair, F_s_l15Node] at *); first | done | (grind [packNode, wrap8])))) | skip
def con_s_l15Node : Con := ⟨true, g1 (pP (.pair .bool (.pair (.sl (.sl (.int .u8))) (.pair (.sl (.int .i64)) (.pair (.sl (.int .i64)) .unit))))) fun p => ⟨[Q_s_l15Node p], [⟨(.sl (.int .u8)), (.ow .sh), F_s_l15Node p⟩], []⟩, []⟩
theorem ok_s_l15Node : ConOk pg 123 con_s_l15Node := ConOk.g1 (Enters.of (by kernel_rfl)) ct_s_l15Node

def F_i_packedNode (p : (Bool) × (List (List (Int))) × (List (Int)) × (List (Int)) × Unit) : List (Int) := packNode p
def Q_i_packedNode (p : (Bool) × (List (List (Int))) × (List (Int)) × (List (Int)) × Unit) : Prop := nodeFault p = 0
def O_i_packedNode : Opt := ⟨fun i => false, fun i => (match decide (i = 10) with | true => [false, false, false, true, false, false, false, false, false, false, false, false, false, false, false, false, false, false, false, false, false, false, false, false, false, false, false, false, false, false, false, false, false, false, false, false, false, false, false, false, false, true, true, true, false, false, false, false, false, false, false, false, false, false] | false => (match decide (i = 3) with | true => [false, true, false, true, false, false, false, false, false, false, false, false, false, false, true, true, true, false, false, false, false, false, false, false, false, false, false, false, false, false, false, false, false, false, false, false, false, false, false, false, false, false, false, false, false, false, false, false, false, false, false, false, false, false] | false => [])), fun i => .done, fun i => none⟩
def τ_i_packedNode : Env := Env.of [(2, (.int .i64)), (3, (.int .i64)), (4, .bool), (5, (.int .u8)), (22, (.sl (.int .u8))), (43, (.sl (.sl (.int .u8)))), (44, (.sl (.int .i64))), (49, (.pair .bool (.pair (.sl (.sl (.int .u8))) (.pair (.sl (.int .i64)) (.pair (.sl (.int .i64)) .unit)))))] []

theorem ct_i_packedNode (p : (Bool) × (List (List (Int))) × (List (Int)) × (List (Int)) × Unit) : Ct pg 124 [.dat (.pair .bool (.pair (.sl (.sl (.int .u8))) (.pair (.sl (.int .i64)) (.pair (.sl (.int .i64)) .unit)))) p] ⟨[Q_i_packedNode p], [⟨(.sl (.int .u8)), (.ow .sh), F_i_packedNode p⟩], []⟩ := by
  refine ct_claim (O := O_i_packedNode) (τ := τ_i_packedNode) (EnvOk.of (by kernel_rfl)) (GOk.of (.cons ok_i_pair .nil : AllOk pg [(100, con_i_pair)])) mixed (Enters.of (by kernel_rfl)) (fn := Go.Proofs.Try.f124) (by kernel_rfl) rfl (by kernel_rfl) ?_
  intro hp hw
  have hq : Q_i_packedNode p := hp _ (List.mem_singleton.2 rfl)
  clear hp
  change claim Lg.std Alg.std τ_i_packedNode (Gam.of [(100, ⟨true, g1 (pD (.int .i64)) fun n => ⟨[Q_i_pair n], [⟨(.sl (.int .u8)), (.ow .sh), F_i_pair n⟩], []⟩, []⟩)]) O_i_packedNode Go.Proofs.Try.f124 [.dat (.pair .bool (.pair (.sl (.sl (.int .u8))) (.pair (.sl (.int .i64)) (.pair (.sl (.int .i64)) .unit)))) p] ⟨[Q_i_packedNode p], [⟨(.sl (.int .u8)), (.ow .sh), F_i_packedNode p⟩], []⟩
  generalize hg_F_i_pair : F_i_pair = g_F_i_pair
  generalize hg_Q_i_pair : Q_i_pair = g_Q_i_pair
  generalize hR0 : F_i_packedNode p = R0
  generalize Q_i_packedNode p = Q0
  generalize hL : Lg.std = L
  generalize hA : Alg.std = A
  cbv
  subst hL hA
  try dsimp only [Ty.den]
  obtain ⟨p_0, p_1, p_2, p_3, ⟨⟩⟩ := p
  simp only [Q_i_packedNode] at hq
  have hok := nodeFault_ok _ hq
  dsimp only at hok
  obtain ⟨k1, k2, k3, k4, k5⟩ := hok
  repeat' (first | intro _ | apply And.intro)
  all_goals first | trivial | ((fail_if_success (refine lp_v (V := Unit) (fun _ => ⟨[], []⟩) (fun _ => True) (fun _ => 0) () ?_ ?_ ?_)); subst hR0 hg_F_i_pair hg_Q_i_pair; (try simp only [Alg.std, F_i_pair, Q_i_pair, F_i_packedNode] at *); all_goals grind [nodeFault]) | skip
  refine lp_v (V := (Int) × (Nat) × (List Int) × (Int)) (fun ((i, N, xs, M) : (Int) × (Nat) × (List Int) × (Int)) => ⟨[.junk, .bptr 0 0, .junk, .ref (.int .u8) 1 0 [] 0 N, .junk, .junk, .junk, .junk, .junk, .junk, .junk, .junk, .junk, .junk, .dat (.sl (.sl (.int .u8))) p_1, .dat (.int .i64) M, .dat (.int .i64) i, .junk, .junk, .junk, .junk, .junk, .junk, .junk, .junk, .junk, .junk, .junk, .junk, .junk, .junk, .junk, .junk, .junk, .junk, .junk, .junk, .junk, .junk, .junk, .junk, .junk, .junk, .junk, .junk, .junk, .junk, .junk, .junk, .junk, .junk, .junk, .junk, .junk], [some (.box [.dat .bool p_0, .dat (.sl (.sl (.int .u8))) p_1, .dat (.sl (.int .i64)) p_2, .dat (.sl (.int .i64)) p_3]), some (.row 0 (.int .u8) .sh xs)]⟩) (fun ((i, N, xs, M) : (Int) × (Nat) × (List Int) × (Int)) => M = p_1.length ∧ N = xs.length ∧ 0 ≤ i ∧ i ≤ p_1.length ∧ xs.length ≤ 1 + 19 * i ∧ xs ++ packKeys p_0 (p_1.drop i.toNat) (p_2.drop i.toNat) = (p_1.length : Int) % 256 :: packKeys p_0 p_1 p_2) (fun ((i, N, xs, M) : (Int) × (Nat) × (List Int) × (Int)) => p_1.length - i.toNat) (0, _, _, _) rfl ?_ ?_
  · simp [Alg.std, wrap8]
  rintro ⟨i, N, xs, M⟩ hf I hI
  replace hf : M = p_1.length ∧ N = xs.length ∧ 0 ≤ i ∧ i ≤ p_1.length ∧ xs.length ≤ 1 + 19 * i ∧ xs ++ packKeys p_0 (p_1.drop i.toNat) (p_2.drop i.toNat) = (p_1.length : Int) % 256 :: packKeys p_0 p_1 p_2 := hf
  generalize hL : Lg.std = L
  generalize hA : Alg.std = A
  cbv
  subst hL hA
  try dsimp only [Ty.den]
  subst hI
  obtain ⟨h1, h2, h3, h4, h5, h6⟩ := hf
  have hl := hw.1.2.1.1
  have hs := fun (h : i.toNat < p_1.length) => pk_step p_0 p_1 p_2 i.toNat h
  have he := fun (h : p_1.length ≤ i.toNat) => pk_end p_0 p_1 p_2 i.toNat h
  have hsu : (i + 1).toNat = i.toNat + 1 := by omega
  have hk := k2 i.toNat
  have hv := fun e => k4 e i.toNat
  have hpl : (pairOf (p_2.getD i.toNat 0)).length = 2 := rfl
  repeat' (first | intro _ | apply And.intro)
  all_goals first | (with_reducible exact True.intro) | ((fail_if_success (refine lp_v (V := Unit) (fun _ => ⟨[], []⟩) (fun _ => True) (fun _ => 0) () ?_ ?_ ?_)); (try simp only [Lg.std, Alg.std, List.drop_zero, List.take_length] at *); (try refine ⟨(_, _, _, _), rfl, ?_, ?_⟩); (all_goals (subst hR0 hg_F_i_pair hg_Q_i_pair; (try simp only [Lg.std, Alg.std, List.drop_zero, List.take_length, F_i_pair, Q_i_pair, F_i_packedNode] at *); first | done | (grind [wrap8])))) | skip
  refine lp_v (V := (Int) × (Nat) × (List Int) × (Int)) (fun ((i, N, xs, M) : (Int) × (Nat) × (List Int) × (Int)) => ⟨[.junk, .junk, .junk, .ref (.int .u8) 0 0 [] 0 N, .junk, .junk, .junk, .junk, .junk, .junk, .junk, .junk, .junk, .junk, .junk, .junk, .junk, .junk, .junk, .junk, .junk, .junk, .junk, .junk, .junk, .junk, .junk, .junk, .junk, .junk, .junk, .junk, .junk, .junk, .junk, .junk, .junk, .junk, .junk, .junk, .junk, .dat (.sl (.int .i64)) p_3, .dat (.int .i64) M, .dat (.int .i64) i, .junk, .junk, .junk, .junk, .junk, .junk, .junk, .junk, .junk, .junk], [some (.row 0 (.int .u8) .sh xs)]⟩) (fun ((i, N, xs, M) : (Int) × (Nat) × (List Int) × (Int)) => M = p_3.length ∧ N = xs.length ∧ 0 ≤ i ∧ i ≤ p_3.length ∧ xs.length ≤ 77 + i ∧ xs ++ packKids (p_3.drop i.toNat) = packNode (p_0, p_1, p_2, p_3, ())) (fun ((i, N, xs, M) : (Int) × (Nat) × (List Int) × (Int)) => p_3.length - i.toNat) (0, _, _, _) rfl ?_ ?_
  · subst hR0 hg_F_i_pair hg_Q_i_pair
    simp only [Alg.std, F_i_pair, Q_i_pair, F_i_packedNode] at *
    all_goals grind [packNode]
  rintro ⟨i, N, xs, M⟩ hf I hI
  replace hf : M = p_3.length ∧ N = xs.length ∧ 0 ≤ i ∧ i ≤ p_3.length ∧ xs.length ≤ 77 + i ∧ xs ++ packKids (p_3.drop i.toNat) = packNode (p_0, p_1, p_2, p_3, ()) := hf
  generalize hL : Lg.std = L
  generalize hA : Alg.std = A
  cbv
  subst hL hA
  try dsimp only [Ty.den]
  subst hI
  obtain ⟨h1, h2, h3, h4, h5, h6⟩ := hf
  have hl := hw.1.2.2.2.1.1
  have hs := fun (h : i.toNat < p_3.length) => kd_step p_3 i.toNat h
  have he := fun (h : p_3.length ≤ i.toNat) => kd_end p_3 i.toNat h
  have hsu : (i + 1).toNat = i.toNat + 1 := by omega
  repeat' (first | intro _ | apply And.intro)
  all_goals first | (with_reducible exact True.intro) | ((fail_if_success (refine lp_v (V := Unit) (fun _ => ⟨[], []⟩) (fun _ => True) (fun _ => 0) () ?_ ?_ ?_)); (try simp only [Lg.std, Alg.std, List.drop_zero, List.take_length] at *); (try refine ⟨(_, _, _, _), rfl, ?_, ?_⟩); (all_goals (subst hR0 hg_F_i_pair hg_Q_i_pair; (try simp only [Lg.std, Alg.std, List.drop_zero, List.take_length, F_i_pair, Q_i_pair, F_i_packedNode] at *); first | done | (grind [packNode, wrap8])))) | skip
def con_i_packedNode : Con := ⟨true, g1 (pD (.pair .bool (.pair (.sl (.sl (.int .u8))) (.pair (.sl (.int .i64)) (.pair (.sl (.int .i64)) .unit))))) fun p => ⟨[Q_i_packedNode p], [⟨(.sl (.int .u8)), (.ow .sh), F_i_packedNode p⟩], []⟩, []⟩
theorem ok_i_packedNode : ConOk pg 124 con_i_packedNode := ConOk.g1 (Enters.of (by kernel_rfl)) ct_i_packedNode

def F_s_PackNode (p : (Bool) × (List (List (Int))) × (List (Int)) × (List (Int)) × Unit) : (Int) × (List (Int)) × Unit := if nodeFault p = 0 then (0, packNode p, ()) else (nodeFault p, [], ())
def Q_s_PackNode (p : (Bool) × (List (List (Int))) × (List (Int)) × (List (Int)) × Unit) : Prop := True
def O_s_PackNode : Opt := ⟨fun i => false, fun i => [], fun i => .done, fun i => none⟩
def τ_s_PackNode : Env := Env.of [(2, (.int .i64)), (4, .bool), (22, (.sl (.int .u8))), (38, (.pair (.int .i64) (.pair (.sl (.int .u8)) .unit))), (49, (.pair .bool (.pair (.sl (.sl (.int .u8))) (.pair (.sl (.int .i64)) (.pair (.sl (.int .i64)) .unit)))))] [(147, (.pair .bool (.pair (.sl (.sl (.int .u8))) (.pair (.sl (.int .i64)) (.pair (.sl (.int .i64)) .unit)))))]

theorem ct_s_PackNode (p : (Bool) × (List (List (Int))) × (List (Int)) × (List (Int)) × Unit) : Ct pg 61 [.dat (.pair .bool (.pair (.sl (.sl (.int .u8))) (.pair (.sl (.int .i64)) (.pair (.sl (.int .i64)) .unit)))) p] ⟨[Q_s_PackNode p], [⟨(.pair (.int .i64) (.pair (.sl (.int .u8)) .unit)), (.pr .sh (.pr (.ow .sh) .sh)), F_s_PackNode p⟩], []⟩ := by
  refine ct_claim (O := O_s_PackNode) (τ := τ_s_PackNode) (EnvOk.of (by kernel_rfl)) (GOk.of (.cons ok_s_NodeFault (.cons ok_s_l15Node .nil) : AllOk pg [(54, con_s_NodeFault), (123, con_s_l15Node)])) mixed (Enters.of (by kernel_rfl)) (fn := Go.Proofs.Try.f61) (by kernel_rfl) rfl (by kernel_rfl) ?_
  intro hp hw
  have hq : Q_s_PackNode p := hp _ (List.mem_singleton.2 rfl)
  clear hp
  change claim Lg.std Alg.std τ_s_PackNode (Gam.of [(54, ⟨true, g1 (pD (.pair .bool (.pair (.sl (.sl (.int .u8))) (.pair (.sl (.int .i64)) (.pair (.sl (.int .i64)) .unit))))) fun p => ⟨[Q_s_NodeFault p], [⟨(.int .i64), .sh, F_s_NodeFault p⟩], []⟩, []⟩), (123, ⟨true, g1 (pP (.pair .bool (.pair (.sl (.sl (.int .u8))) (.pair (.sl (.int .i64)) (.pair (.sl (.int .i64)) .unit))))) fun p => ⟨[Q_s_l15Node p], [⟨(.sl (.int .u8)), (.ow .sh), F_s_l15Node p⟩], []⟩, []⟩)]) O_s_PackNode Go.Proofs.Try.f61 [.dat (.pair .bool (.pair (.sl (.sl (.int .u8))) (.pair (.sl (.int .i64)) (.pair (.sl (.int .i64)) .unit)))) p] ⟨[Q_s_PackNode p], [⟨(.pair (.int .i64) (.pair (.sl (.int .u8)) .unit)), (.pr .sh (.pr (.ow .sh) .sh)), F_s_PackNode p⟩], []⟩
  generalize hg_F_s_NodeFault : F_s_NodeFault = g_F_s_NodeFault
  generalize hg_Q_s_NodeFault : Q_s_NodeFault = g_Q_s_NodeFault
  generalize hg_F_s_l15Node : F_s_l15Node = g_F_s_l15Node
  generalize hg_Q_s_l15Node : Q_s_l15Node = g_Q_s_l15Node
  generalize hR0 : F_s_PackNode p = R0
  generalize Q_s_PackNode p = Q0
  generalize hL : Lg.std = L
  generalize hA : Alg.std = A
  cbv
  subst hL hA
  try dsimp only [Ty.den]
  obtain ⟨p_0, p_1, p_2, p_3, ⟨⟩⟩ := p
  subst hR0 hg_F_s_NodeFault hg_Q_s_NodeFault hg_F_s_l15Node hg_Q_s_l15Node
  simp only [Lg.std, Alg.std, List.drop_zero, List.take_length, F_s_NodeFault, F_s_l15Node, Q_s_NodeFault, Q_s_l15Node, F_s_PackNode]
  all_goals grind
def con_s_PackNode : Con := ⟨true, g1 (pD (.pair .bool (.pair (.sl (.sl (.int .u8))) (.pair (.sl (.int .i64)) (.pair (.sl (.int .i64)) .unit))))) fun p => ⟨[Q_s_PackNode p], [⟨(.pair (.int .i64) (.pair (.sl (.int .u8)) .unit)), (.pr .sh (.pr (.ow .sh) .sh)), F_s_PackNode p⟩], []⟩, []⟩
theorem ok_s_PackNode : ConOk pg 61 con_s_PackNode := ConOk.g1 (Enters.of (by kernel_rfl)) ct_s_PackNode

def F_i_PackNode (p : (Bool) × (List (List (Int))) × (List (Int)) × (List (Int)) × Unit) : (Int) × (List (Int)) × Unit := if nodeFault p = 0 then (0, packNode p, ()) else (nodeFault p, [], ())
def Q_i_PackNode (p : (Bool) × (List (List (Int))) × (List (Int)) × (List (Int)) × Unit) : Prop := True
def O_i_PackNode : Opt := ⟨fun i => false, fun i => [], fun i => .done, fun i => none⟩
def τ_i_PackNode : Env := Env.of [(2, (.int .i64)), (4, .bool), (22, (.sl (.int .u8))), (38, (.pair (.int .i64) (.pair (.sl (.int .u8)) .unit))), (49, (.pair .bool (.pair (.sl (.sl (.int .u8))) (.pair (.sl (.int .i64)) (.pair (.sl (.int .i64)) .unit)))))] []

theorem ct_i_PackNode (p : (Bool) × (List (List (Int))) × (List (Int)) × (List (Int)) × Unit) : Ct pg 62 [.dat (.pair .bool (.pair (.sl (.sl (.int .u8))) (.pair (.sl (.int .i64)) (.pair (.sl (.int .i64)) .unit)))) p] ⟨[Q_i_PackNode p], [⟨(.pair (.int .i64) (.pair (.sl (.int .u8)) .unit)), (.pr .sh (.pr (.ow .sh) .sh)), F_i_PackNode p⟩], []⟩ := by
  refine ct_claim (O := O_i_PackNode) (τ := τ_i_PackNode) (EnvOk.of (by kernel_rfl)) (GOk.of (.cons ok_i_NodeFault (.cons ok_i_packedNode .nil) : AllOk pg [(55, con_i_NodeFault), (124, con_i_packedNode)])) mixed (Enters.of (by kernel_rfl)) (fn := Go.Proofs.Try.f62) (by kernel_rfl) rfl (by kernel_rfl) ?_
  intro hp hw
  have hq : Q_i_PackNode p := hp _ (List.mem_singleton.2 rfl)
  clear hp
  change claim Lg.std Alg.std τ_i_PackNode (Gam.of [(55, ⟨true, g1 (pD (.pair .bool (.pair (.sl (.sl (.int .u8))) (.pair (.sl (.int .i64)) (.pair (.sl (.int .i64)) .unit))))) fun p => ⟨[Q_i_NodeFault p], [⟨(.int .i64), .sh, F_i_NodeFault p⟩], []⟩, []⟩), (124, ⟨true, g1 (pD (.pair .bool (.pair (.sl (.sl (.int .u8))) (.pair (.sl (.int .i64)) (.pair (.sl (.int .i64)) .unit))))) fun p => ⟨[Q_i_packedNode p], [⟨(.sl (.int .u8)), (.ow .sh), F_i_packedNode p⟩], []⟩, []⟩)]) O_i_PackNode Go.Proofs.Try.f62 [.dat (.pair .bool (.pair (.sl (.sl (.int .u8))) (.pair (.sl (.int .i64)) (.pair (.sl (.int .i64)) .unit)))) p] ⟨[Q_i_PackNode p], [⟨(.pair (.int .i64) (.pair (.sl (.int .u8)) .unit)), (.pr .sh (.pr (.ow .sh) .sh)), F_i_PackNode p⟩], []⟩
  generalize hg_F_i_NodeFault : F_i_NodeFault = g_F_i_NodeFault
  generalize hg_Q_i_NodeFault : Q_i_NodeFault = g_Q_i_NodeFault
  generalize hg_F_i_packedNode : F_i_packedNode = g_F_i_packedNode
  generalize hg_Q_i_packedNode : Q_i_packedNode = g_Q_i_packedNode
  generalize hR0 : F_i_PackNode p = R0
  generalize Q_i_PackNode p = Q0
  generalize hL : Lg.std = L
  generalize hA : Alg.std = A
  cbv
  subst hL hA
  try dsimp only [Ty.den]
  obtain ⟨p_0, p_1, p_2, p_3, ⟨⟩⟩ := p
  subst hR0 hg_F_i_NodeFault hg_Q_i_NodeFault hg_F_i_packedNode hg_Q_i_packedNode
  simp only [Lg.std, Alg.std, List.drop_zero, List.take_length, F_i_NodeFault, F_i_packedNode, Q_i_NodeFault, Q_i_packedNode, F_i_PackNode]
  all_goals grind
def con_i_PackNode : Con := ⟨true, g1 (pD (.pair .bool (.pair (.sl (.sl (.int .u8))) (.pair (.sl (.int .i64)) (.pair (.sl (.int .i64)) .unit))))) fun p => ⟨[Q_i_PackNode p], [⟨(.pair (.int .i64) (.pair (.sl (.int .u8)) .unit)), (.pr .sh (.pr (.ow .sh) .sh)), F_i_PackNode p⟩], []⟩, []⟩
theorem ok_i_PackNode : ConOk pg 62 con_i_PackNode := ConOk.g1 (Enters.of (by kernel_rfl)) ct_i_PackNode

def F_w_FnExactPackNode (n : (Bool) × (List (List (Int))) × (List (Int)) × (List (Int)) × Unit) : Bool := true
def Q_w_FnExactPackNode (n : (Bool) × (List (List (Int))) × (List (Int)) × (List (Int)) × Unit) : Prop := True
def O_w_FnExactPackNode : Opt := ⟨fun i => false, fun i => [], fun i => (match decide (i = 10) with | true => (.alt 0 (.alt 1 (.alt 2 (.alt 3 (.take 4 .done) .no) .no) .no) (.alt 1 (.alt 0 (.alt 2 (.alt 3 (.take 4 .done) .no) .no) (.alt 2 (.alt 0 (.alt 3 (.take 4 .done) .no) .no) .no)) .no)) | false => .done), fun i => (match decide (i = 10) with | true => some [false, true, false, false, true, true, true, false, false, false, false, false, false, false, false, false, false, false, false, false, false, false, false, false, false, false, false, false, false, false, false, true, false, false, false, false, false, false, false, false, false, false, false, false, false, false, false, false, false, false, false, false, false, false, false, false, false, false, false, false, false, false, false, false, false, false, false, false, false] | false => none)⟩
def τ_w_FnExactPackNode : Env := Env.of [(2, (.int .i64)), (3, (.int .i64)), (4, .bool), (38, (.pair (.int .i64) (.pair (.sl (.int .u8)) .unit))), (46, (.pair .bool (.pair (.sl (.sl (.int .u8))) (.pair (.sl (.int .i64)) (.pair (.sl (.int .i64)) .unit))))), (49, (.pair .bool (.pair (.sl (.sl (.int .u8))) (.pair (.sl (.int .i64)) (.pair (.sl (.int .i64)) .unit)))))] []

theorem ct_w_FnExactPackNode (n : (Bool) × (List (List (Int))) × (List (Int)) × (List (Int)) × Unit) : Ct pg 12 [.dat (.pair .bool (.pair (.sl (.sl (.int .u8))) (.pair (.sl (.int .i64)) (.pair (.sl (.int .i64)) .unit)))) n] ⟨[Q_w_FnExactPackNode n], [⟨.bool, .sh, F_w_FnExactPackNode n⟩], []⟩ := by
  refine ct_claim (O := O_w_FnExactPackNode) (τ := τ_w_FnExactPackNode) (EnvOk.of (by kernel_rfl)) (GOk.of (.cons ok_w_eqBytesResult (.cons ok_w_markBytesResult (.cons ok_w_heldBytesResult (.cons ok_w_toNode (.cons ok_w_eqNode (.cons ok_w_szNode (.cons ok_w_markNode (.cons ok_s_PackNode (.cons ok_i_PackNode .nil)))))))) : AllOk pg [(27, con_w_eqBytesResult), (29, con_w_markBytesResult), (30, con_w_heldBytesResult), (33, con_w_toNode), (35, con_w_eqNode), (31, con_w_szNode), (63, con_w_markNode), (61, con_s_PackNode), (62, con_i_PackNode)])) mixed (Enters.of (by kernel_rfl)) (fn := Go.Proofs.Try.f12) (by kernel_rfl) rfl (by kernel_rfl) ?_
  intro hp hw
  have hq : Q_w_FnExactPackNode n := hp _ (List.mem_singleton.2 rfl)
  clear hp
  change claim Lg.std Alg.std τ_w_FnExactPackNode (Gam.of [(27, ⟨true, g2 (pD (.pair (.int .i64) (.pair (.sl (.int .u8)) .unit))) (pD (.pair (.int .i64) (.pair (.sl (.int .u8)) .unit))) fun a b => ⟨[Q_w_eqBytesResult a b], [⟨.bool, .sh, F_w_eqBytesResult a b⟩], []⟩, []⟩), (29, ⟨true, g2 (pV (.pair (.int .i64) (.pair (.sl (.int .u8)) .unit)) (.pr .sh (.pr (.ow .sh) .sh))) (pD (.int .i64)) fun a k => ⟨[Q_w_markBytesResult a k], [⟨(.int .i64), .sh, F_w_markBytesResult a k⟩], [.mv (.pair (.int .i64) (.pair (.sl (.int .u8)) .unit)) (.pr .sh (.pr (.ow .sh) .sh)) (B_w_markBytesResult_a a k)]⟩, [(.pr .sh (.pr (.ow .sh) .sh))]⟩), (30, ⟨true, g2 (pD (.pair (.int .i64) (.pair (.sl (.int .u8)) .unit))) (pD (.int .i64)) fun a k => ⟨[Q_w_heldBytesResult a k], [⟨(.int .i64), .sh, F_w_heldBytesResult a k⟩], []⟩, []⟩), (33, ⟨true, g1 (pD (.pair .bool (.pair (.sl (.sl (.int .u8))) (.pair (.sl (.int .i64)) (.pair (.sl (.int .i64)) .unit))))) fun a => ⟨[Q_w_toNode a], [⟨(.pair .bool (.pair (.sl (.sl (.int .u8))) (.pair (.sl (.int .i64)) (.pair (.sl (.int .i64)) .unit)))), (.pr .sh (.pr (.ow (.ow .sh)) (.pr (.ow .sh) (.pr (.ow .sh) .sh)))), F_w_toNode a⟩], []⟩, []⟩), (35, ⟨true, g2 (pD (.pair .bool (.pair (.sl (.sl (.int .u8))) (.pair (.sl (.int .i64)) (.pair (.sl (.int .i64)) .unit))))) (pD (.pair .bool (.pair (.sl (.sl (.int .u8))) (.pair (.sl (.int .i64)) (.pair (.sl (.int .i64)) .unit))))) fun a b => ⟨[Q_w_eqNode a b], [⟨.bool, .sh, F_w_eqNode a b⟩], []⟩, []⟩), (31, ⟨true, g2 (pD (.pair .bool (.pair (.sl (.sl (.int .u8))) (.pair (.sl (.int .i64)) (.pair (.sl (.int .i64)) .unit))))) (pD (.int .i64)) fun a left => ⟨[Q_w_szNode a left], [⟨(.int .i64), .sh, F_w_szNode a left⟩], []⟩, []⟩), (63, ⟨true, g2 (pV (.pair .bool (.pair (.sl (.sl (.int .u8))) (.pair (.sl (.int .i64)) (.pair (.sl (.int .i64)) .unit)))) (.pr .sh (.pr (.ow (.ow .sh)) (.pr (.ow .sh) (.pr (.ow .sh) .sh))))) (pD (.int .i64)) fun a k => ⟨[Q_w_markNode a k], [⟨(.int .i64), .sh, F_w_markNode a k⟩], [.mv (.pair .bool (.pair (.sl (.sl (.int .u8))) (.pair (.sl (.int .i64)) (.pair (.sl (.int .i64)) .unit)))) (.pr .sh (.pr (.ow (.ow .sh)) (.pr (.ow .sh) (.pr (.ow .sh) .sh)))) (B_w_markNode_a a k)]⟩, [(.pr .sh (.pr (.ow (.ow .sh)) (.pr (.ow .sh) (.pr (.ow .sh) .sh))))]⟩), (61, ⟨true, g1 (pD (.pair .bool (.pair (.sl (.sl (.int .u8))) (.pair (.sl (.int .i64)) (.pair (.sl (.int .i64)) .unit))))) fun p => ⟨[Q_s_PackNode p], [⟨(.pair (.int .i64) (.pair (.sl (.int .u8)) .unit)), (.pr .sh (.pr (.ow .sh) .sh)), F_s_PackNode p⟩], []⟩, []⟩), (62, ⟨true, g1 (pD (.pair .bool (.pair (.sl (.sl (.int .u8))) (.pair (.sl (.int .i64)) (.pair (.sl (.int .i64)) .unit))))) fun p => ⟨[Q_i_PackNode p], [⟨(.pair (.int .i64) (.pair (.sl (.int .u8)) .unit)), (.pr .sh (.pr (.ow .sh) .sh)), F_i_PackNode p⟩], []⟩, []⟩)]) O_w_FnExactPackNode Go.Proofs.Try.f12 [.dat (.pair .bool (.pair (.sl (.sl (.int .u8))) (.pair (.sl (.int .i64)) (.pair (.sl (.int .i64)) .unit)))) n] ⟨[Q_w_FnExactPackNode n], [⟨.bool, .sh, F_w_FnExactPackNode n⟩], []⟩
  generalize hg_F_w_eqBytesResult : F_w_eqBytesResult = g_F_w_eqBytesResult
  generalize hg_Q_w_eqBytesResult : Q_w_eqBytesResult = g_Q_w_eqBytesResult
  generalize hg_F_w_markBytesResult : F_w_markBytesResult = g_F_w_markBytesResult
  generalize hg_B_w_markBytesResult_a : B_w_markBytesResult_a = g_B_w_markBytesResult_a
  generalize hg_Q_w_markBytesResult : Q_w_markBytesResult = g_Q_w_markBytesResult
  generalize hg_F_w_heldBytesResult : F_w_heldBytesResult = g_F_w_heldBytesResult
  generalize hg_Q_w_heldBytesResult : Q_w_heldBytesResult = g_Q_w_heldBytesResult
  generalize hg_F_w_toNode : F_w_toNode = g_F_w_toNode
  generalize hg_Q_w_toNode : Q_w_toNode = g_Q_w_toNode
  generalize hg_F_w_eqNode : F_w_eqNode = g_F_w_eqNode
  generalize hg_Q_w_eqNode : Q_w_eqNode = g_Q_w_eqNode
  generalize hg_F_w_szNode : F_w_szNode = g_F_w_szNode
  generalize hg_Q_w_szNode : Q_w_szNode = g_Q_w_szNode
  generalize hg_F_w_markNode : F_w_markNode = g_F_w_markNode
  generalize hg_B_w_markNode_a : B_w_markNode_a = g_B_w_markNode_a
  generalize hg_Q_w_markNode : Q_w_markNode = g_Q_w_markNode
  generalize hg_F_s_PackNode : F_s_PackNode = g_F_s_PackNode
  generalize hg_Q_s_PackNode : Q_s_PackNode = g_Q_s_PackNode
  generalize hg_F_i_PackNode : F_i_PackNode = g_F_i_PackNode
  generalize hg_Q_i_PackNode : Q_i_PackNode = g_Q_i_PackNode
  generalize hR0 : F_w_FnExactPackNode n = R0
  generalize Q_w_FnExactPackNode n = Q0
  generalize hL : Lg.std = L
  generalize hA : Alg.std = A
  cbv
  subst hL hA
  try dsimp only [Ty.den]
  obtain ⟨n_0, n_1, n_2, n_3, ⟨⟩⟩ := n
  have hct_n := cnt_tot (.pair .bool (.pair (.sl (.sl (.int .u8))) (.pair (.sl (.int .i64)) (.pair (.sl (.int .i64)) .unit)))) (n_0, n_1, n_2, n_3, PUnit.unit) (by decide)
  have hlen := packNode_length (n_0, n_1, n_2, n_3, PUnit.unit)
  have hc0 : cnt false (.pair (.int .i64) (.pair (.sl (.int .u8)) .unit)) (if nodeFault (n_0, n_1, n_2, n_3, PUnit.unit) = 0 then (0, packNode (n_0, n_1, n_2, n_3, PUnit.unit), ()) else (nodeFault (n_0, n_1, n_2, n_3, PUnit.unit), [], ())) ≤ 96 := by
    split
    · rename_i h
      have := hlen h
      simp only [szf, tot_p, tot_u, tot_i, tot_b, tot_s, cnt_p, cnt_u, cnt_i0, cnt_b0, cnt_s0, cnt_i1, cnt_b1, cnt_s1, cnt_l, mk_p, mk_u, mk_i0, mk_b0, mk_s0, mk_i1, mk_s1, mk_l, hd_p, hd_u, hd_i0, hd_b0, hd_s0, hd_i1, hd_b1, hd_s1, hd_l, cnt_int]
      omega
    · simp [cnt, cntL]
  subst hR0 hg_F_w_eqBytesResult hg_Q_w_eqBytesResult hg_F_w_markBytesResult hg_B_w_markBytesResult_a hg_Q_w_markBytesResult hg_F_w_heldBytesResult hg_Q_w_heldBytesResult hg_F_w_toNode hg_Q_w_toNode hg_F_w_eqNode hg_Q_w_eqNode hg_F_w_szNode hg_Q_w_szNode hg_F_w_markNode hg_B_w_markNode_a hg_Q_w_markNode hg_F_s_PackNode hg_Q_s_PackNode hg_F_i_PackNode hg_Q_i_PackNode
  simp only [Lg.std, Alg.std, List.drop_zero, List.take_length, F_w_eqBytesResult, F_w_markBytesResult, F_w_heldBytesResult, F_w_toNode, F_w_eqNode, F_w_szNode, F_w_markNode, F_s_PackNode, F_i_PackNode, B_w_markBytesResult_a, B_w_markNode_a, Q_w_eqBytesResult, Q_w_markBytesResult, Q_w_heldBytesResult, Q_w_toNode, Q_w_eqNode, Q_w_szNode, Q_w_markNode, Q_s_PackNode, Q_i_PackNode, F_w_FnExactPackNode]
  generalize hW : (if nodeFault (n_0, n_1, n_2, n_3, PUnit.unit) = 0 then (0, packNode (n_0, n_1, n_2, n_3, PUnit.unit), ()) else (nodeFault (n_0, n_1, n_2, n_3, PUnit.unit), [], ()) : (Int) × (List (Int)) × Unit) = w at *
  clear hW
  obtain ⟨w_0, w_1, ⟨⟩⟩ := w
  try dsimp only at *
  have hm := hd_mk false (.pair (.int .i64) (.pair (.sl (.int .u8)) .unit)) (w_0, w_1, PUnit.unit) 1 (by omega)

  have mt_w_1 := fun k => mk_take false (.int .u8) w_1 k
  dsimp only [Ty.den] at mt_w_1
  simp only [tot_p, tot_u, tot_i, tot_b, tot_s, cnt_p, cnt_u, cnt_i0, cnt_b0, cnt_s0, cnt_i1, cnt_b1, cnt_s1, cnt_l, mk_p, mk_u, mk_i0, mk_b0, mk_s0, mk_i1, mk_s1, mk_l, hd_p, hd_u, hd_i0, hd_b0, hd_s0, hd_i1, hd_b1, hd_s1, hd_l, mt_w_1] at *
  repeat' (first | intro _ | apply And.intro)
  all_goals grind [szf, cnt_mk, hd_mk]
def con_w_FnExactPackNode : Con := ⟨true, g1 (pD (.pair .bool (.pair (.sl (.sl (.int .u8))) (.pair (.sl (.int .i64)) (.pair (.sl (.int .i64)) .unit))))) fun n => ⟨[Q_w_FnExactPackNode n], [⟨.bool, .sh, F_w_FnExactPackNode n⟩], []⟩, []⟩
theorem ok_w_FnExactPackNode : ConOk pg 12 con_w_FnExactPackNode := ConOk.g1 (Enters.of (by kernel_rfl)) ct_w_FnExactPackNode
end Go.Vee
