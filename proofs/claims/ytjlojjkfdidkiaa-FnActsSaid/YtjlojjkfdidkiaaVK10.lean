/-
  Contracts of functions of the program: what each returns for all arguments that its precondition lets in.
-/
import Derived.Test.YtjlojjkfdidkiaaVK9
set_option linter.unusedSimpArgs false
set_option linter.unusedVariables false
set_option maxRecDepth 100000
set_option maxHeartbeats 4000000
set_option synthInstance.maxHeartbeats 4000000
set_option synthInstance.maxSize 20000000
namespace Go.Vee
open Go
theorem take_add {α : Type} (l : List α) (d : α) (i : Nat) (h : i < l.length) : l.take (i + 1) = l.take i ++ [l.getD i d] := by
  rw [List.take_add_one, List.getElem?_eq_getElem h]; simp [List.getD_eq_getElem?_getD, h]
theorem tot_puts_at (a : List PutT) (i : Nat) (h : i < a.length) : (a.getD i putD).2.1.length < tot (.sl tPut) a := by
  have := tot_at tPut a putD i h
  rw [tot_putv] at this; exact this
theorem tot_secs_at (a : List (List Int)) (i : Nat) (h : i < a.length) : (a.getD i []).length < tot (.sl (.sl (.int .u8))) a := by
  have := tot_at (.sl (.int .u8)) a [] i h
  rw [tot_int] at this; exact this


def F_i_ownPuts (list : List ((Int) × (List (Int)) × Unit)) : List ((Int) × (List (Int)) × Unit) := list
def Q_i_ownPuts (list : List ((Int) × (List (Int)) × Unit)) : Prop := tot (.sl tPut) list ≤ 1048576
def O_i_ownPuts : Opt := ⟨fun i => false, fun i => (match decide (i = 3) with | true => [false, false, false, true, false, false, false, true, true, true, false, false, false, false, false, false, false, false, false, false, false, false, false, false] | false => []), fun i => (match decide (i = 5) with | true => (.take 0 (.take 1 (.take 3 (.alt 2 (.alt 4 (.alt 5 (.take 6 (.alt 7 (.alt 8 (.take 9 .done) .no) .no)) .no) .no) (.alt 4 (.alt 2 (.alt 5 (.take 6 (.alt 7 (.alt 8 (.take 9 .done) .no) .no)) .no) (.alt 5 (.alt 2 (.take 6 (.alt 7 (.alt 8 (.take 9 .done) .no) .no)) .no) .no)) .no))))) | false => .done), fun i => (match decide (i = 5) with | true => some [false, false, false, true, false, false, false, true, true, true, false, false, false, false, false, false, false, false, false, false, false, false, false, false] | false => none), fun i => false, fun i => [], fun i => false, fun i => none, fun i => none⟩
def τ_i_ownPuts : Env := Env.of [(2, (.int .i64)), (3, (.int .i64)), (28, (.sl (.pair (.int .i64) (.pair (.sl (.int .u8)) .unit)))), (34, (.sl (.int .u8))), (120, (.pair (.int .i64) (.pair (.sl (.int .u8)) .unit)))] [] []

theorem ct_i_ownPuts (list : List ((Int) × (List (Int)) × Unit)) : Ct pg 119 [.dat (.sl (.pair (.int .i64) (.pair (.sl (.int .u8)) .unit))) list] ⟨[Q_i_ownPuts list], [⟨(.sl (.pair (.int .i64) (.pair (.sl (.int .u8)) .unit))), (.ow (.pr .sh (.pr (.ow .sh) .sh))), F_i_ownPuts list⟩], []⟩ := by
  refine ct_claim (O := O_i_ownPuts) (τ := τ_i_ownPuts) (EnvOk.of (by kernel_rfl) (by kernel_rfl)) (GOk.of (.cons ok_sl_Clone_byte .nil : AllOk pg [(84, con_sl_Clone_byte)])) mixed (Enters.of (by kernel_rfl)) (fn := Go.Proofs.Try.f119) (by kernel_rfl) rfl (by kernel_rfl) ?_
  intro hp hw
  have hq : Q_i_ownPuts list := hp _ (List.mem_singleton.2 rfl)
  clear hp
  change claim Lg.std Alg.std τ_i_ownPuts (Gam.of [(84, con_sl_Clone_byte)]) O_i_ownPuts Go.Proofs.Try.f119 [.dat (.sl (.pair (.int .i64) (.pair (.sl (.int .u8)) .unit))) list] ⟨[Q_i_ownPuts list], [⟨(.sl (.pair (.int .i64) (.pair (.sl (.int .u8)) .unit))), (.ow (.pr .sh (.pr (.ow .sh) .sh))), F_i_ownPuts list⟩], []⟩
  delta con_sl_Clone_byte
  generalize hg_F_sl_Clone_byte : F_sl_Clone_byte = g_F_sl_Clone_byte
  generalize hg_Q_sl_Clone_byte : Q_sl_Clone_byte = g_Q_sl_Clone_byte
  generalize hR0 : F_i_ownPuts list = R0
  generalize Q_i_ownPuts list = Q0
  generalize hL : Lg.std = L
  generalize hA : Alg.std = A
  cbv
  subst hL hA
  try dsimp only [Ty.den]
  simp only [Q_i_ownPuts] at hq
  have hle := tot_len tPut list
  refine lp_v (V := (Int) × (Int) × (Nat) × (List ((Int) × (List (Int)) × Unit))) (fun ((i, M, N, xs) : (Int) × (Int) × (Nat) × (List ((Int) × (List (Int)) × Unit))) => ⟨[Jk, Jk, Jk, .ref (.pair (.int .i64) (.pair (.sl (.int .u8)) .unit)) 0 0 [] 0 N, Jk, Jk, Jk, .dat (.sl (.pair (.int .i64) (.pair (.sl (.int .u8)) .unit))) list, .dat (.int .i64) M, .dat (.int .i64) i, Jk, Jk, Jk, Jk, Jk, Jk, Jk, Jk, Jk, Jk, Jk, Jk, Jk, Jk], [some (.row 0 (.pair (.int .i64) (.pair (.sl (.int .u8)) .unit)) (.pr .sh (.pr (.ow .sh) .sh)) xs)]⟩) (fun ((i, M, N, xs) : (Int) × (Int) × (Nat) × (List ((Int) × (List (Int)) × Unit))) => M = list.length ∧ N = xs.length ∧ 0 ≤ i ∧ i ≤ list.length ∧ xs = list.take i.toNat) (fun ((i, M, N, xs) : (Int) × (Int) × (Nat) × (List ((Int) × (List (Int)) × Unit))) => list.length - i.toNat) (0, _, _, _) rfl ?_ ?_
  · simp [Alg.std]
  rintro ⟨i, M, N, xs⟩ hf I hI
  replace hf : M = list.length ∧ N = xs.length ∧ 0 ≤ i ∧ i ≤ list.length ∧ xs = list.take i.toNat := hf
  generalize hL : Lg.std = L
  generalize hA : Alg.std = A
  cbv
  subst hL hA
  try dsimp only [Ty.den]
  subst hI
  obtain ⟨h1, h2, h3, h4, h5⟩ := hf
  have ht := fun (h : i.toNat < list.length) => take_add list putD i.toNat h
  have ha := fun (h : i.toNat < list.length) => tot_puts_at list i.toNat h
  have hsu : (i + 1).toNat = i.toNat + 1 := by omega
  have h4' : i ≤ (list.length : Int) := h4
  have hxl : xs.length = i.toNat := by rw [h5, List.length_take]; exact Nat.min_eq_left (by omega)
  have hta := fun (h : list.length ≤ i.toNat) => List.take_of_length_le h
  try dsimp only [putD] at ht ha
  repeat' (first | intro _ | apply And.intro)
  all_goals first | (with_reducible exact True.intro) | ((fail_if_success (refine lp_v (V := Unit) (fun _ => ⟨[], []⟩) (fun _ => True) (fun _ => 0) () ?_ ?_ ?_)); (try simp only [Lg.std, Alg.std, List.drop_zero, List.take_length] at *); (try refine ⟨(_, _, _, _), rfl, ?_, ?_⟩); (all_goals (subst hR0 hg_F_sl_Clone_byte hg_Q_sl_Clone_byte; (try simp only [Lg.std, Alg.std, List.drop_zero, List.take_length, F_sl_Clone_byte, Q_sl_Clone_byte, F_i_ownPuts] at *); first | done | ((try generalize list.getD i.toNat (0, [], ()) = xa at *); (try obtain ⟨xa0, xa1, ⟨⟩⟩ := xa); (try dsimp only at *); grind)))) | skip
def con_i_ownPuts : Con := ⟨true, g1 (pD (.sl (.pair (.int .i64) (.pair (.sl (.int .u8)) .unit)))) fun list => .one ⟨[Q_i_ownPuts list], [⟨(.sl (.pair (.int .i64) (.pair (.sl (.int .u8)) .unit))), (.ow (.pr .sh (.pr (.ow .sh) .sh))), F_i_ownPuts list⟩], []⟩, [], false, 0⟩
theorem ok_i_ownPuts : ConOk pg 119 con_i_ownPuts := ConOk.g1 (Enters.of (by kernel_rfl)) ct_i_ownPuts

def F_i_ownDisk (d : (List (List (Int))) × (List ((Int) × (List (Int)) × Unit)) × Unit) : (List (List (Int))) × (List ((Int) × (List (Int)) × Unit)) × Unit := d
def Q_i_ownDisk (d : (List (List (Int))) × (List ((Int) × (List (Int)) × Unit)) × Unit) : Prop := tot tDisk d ≤ 1048576
def O_i_ownDisk : Opt := ⟨fun i => false, fun i => (match decide (i = 3) with | true => [false, false, true, true, false, false, false, false, false, false, false, true, true, true, false, false, false, false, false, false, false, false, false, false, false, false] | false => []), fun i => (match decide (i = 5) with | true => (.take 0 (.take 2 (.alt 1 (.alt 3 (.alt 4 (.alt 5 (.take 6 (.alt 7 .done .no)) .no) .no) .no) (.alt 3 (.alt 1 (.alt 4 (.alt 5 (.take 6 (.alt 7 .done .no)) .no) .no) (.alt 4 (.take 1 (.alt 5 (.take 6 (.alt 7 .done .no)) .no)) .no)) .no)))) | false => .done), fun i => (match decide (i = 5) with | true => some [false, false, true, true, false, false, false, false, false, false, false, true, true, true, false, false, false, false, false, false, false, false, false, false, false, false] | false => none), fun i => (match decide (i = 3) with | true => true | false => false), fun i => (match decide (i = 3) with | true => [(3, some 0, (.sl (.int .u8)), (.ow .sh))] | false => []), fun i => false, fun i => none, fun i => none⟩
def τ_i_ownDisk : Env := Env.of [(2, (.int .i64)), (3, (.int .i64)), (22, (.sl (.sl (.int .u8)))), (28, (.sl (.pair (.int .i64) (.pair (.sl (.int .u8)) .unit)))), (30, (.pair (.sl (.sl (.int .u8))) (.pair (.sl (.pair (.int .i64) (.pair (.sl (.int .u8)) .unit))) .unit))), (34, (.sl (.int .u8)))] [] []

theorem ct_i_ownDisk (d : (List (List (Int))) × (List ((Int) × (List (Int)) × Unit)) × Unit) : Ct pg 91 [.dat (.pair (.sl (.sl (.int .u8))) (.pair (.sl (.pair (.int .i64) (.pair (.sl (.int .u8)) .unit))) .unit)) d] ⟨[Q_i_ownDisk d], [⟨(.pair (.sl (.sl (.int .u8))) (.pair (.sl (.pair (.int .i64) (.pair (.sl (.int .u8)) .unit))) .unit)), (.pr (.ow (.ow .sh)) (.pr (.ow (.pr .sh (.pr (.ow .sh) .sh))) .sh)), F_i_ownDisk d⟩], []⟩ := by
  refine ct_claim (O := O_i_ownDisk) (τ := τ_i_ownDisk) (EnvOk.of (by kernel_rfl) (by kernel_rfl)) (GOk.of (.cons ok_sl_Clone_byte (.cons ok_i_ownPuts .nil) : AllOk pg [(84, con_sl_Clone_byte), (119, con_i_ownPuts)])) mixed (Enters.of (by kernel_rfl)) (fn := Go.Proofs.Try.f91) (by kernel_rfl) rfl (by kernel_rfl) ?_
  intro hp hw
  have hq : Q_i_ownDisk d := hp _ (List.mem_singleton.2 rfl)
  clear hp
  change claim Lg.std Alg.std τ_i_ownDisk (Gam.of [(84, con_sl_Clone_byte), (119, con_i_ownPuts)]) O_i_ownDisk Go.Proofs.Try.f91 [.dat (.pair (.sl (.sl (.int .u8))) (.pair (.sl (.pair (.int .i64) (.pair (.sl (.int .u8)) .unit))) .unit)) d] ⟨[Q_i_ownDisk d], [⟨(.pair (.sl (.sl (.int .u8))) (.pair (.sl (.pair (.int .i64) (.pair (.sl (.int .u8)) .unit))) .unit)), (.pr (.ow (.ow .sh)) (.pr (.ow (.pr .sh (.pr (.ow .sh) .sh))) .sh)), F_i_ownDisk d⟩], []⟩
  delta con_sl_Clone_byte con_i_ownPuts
  generalize hg_F_sl_Clone_byte : F_sl_Clone_byte = g_F_sl_Clone_byte
  generalize hg_Q_sl_Clone_byte : Q_sl_Clone_byte = g_Q_sl_Clone_byte
  generalize hg_F_i_ownPuts : F_i_ownPuts = g_F_i_ownPuts
  generalize hg_Q_i_ownPuts : Q_i_ownPuts = g_Q_i_ownPuts
  generalize hR0 : F_i_ownDisk d = R0
  generalize Q_i_ownDisk d = Q0
  generalize hL : Lg.std = L
  generalize hA : Alg.std = A
  cbv
  subst hL hA
  try dsimp only [Ty.den]
  obtain ⟨d_0, d_1, ⟨⟩⟩ := d
  simp only [Q_i_ownDisk] at hq
  have hle0 := tot_len (.sl (.int .u8)) d_0
  have hle1 := tot_len tPut d_1
  have hqd : tot (.sl (.sl (.int .u8))) d_0 + tot (.sl tPut) d_1 ≤ 1048576 := by simp only [tot_p, tot_u] at hq; omega
  repeat' (first | intro _ | apply And.intro)
  all_goals first | trivial | ((fail_if_success (refine lp_v (V := Unit) (fun _ => ⟨[], []⟩) (fun _ => True) (fun _ => 0) () ?_ ?_ ?_)); subst hR0 hg_F_sl_Clone_byte hg_Q_sl_Clone_byte hg_F_i_ownPuts hg_Q_i_ownPuts; (try simp only [Alg.std, F_sl_Clone_byte, F_i_ownPuts, Q_sl_Clone_byte, Q_i_ownPuts, F_i_ownDisk] at *); all_goals grind) | skip
  refine lp_v (V := (Int) × (Int) × (Nat) × (List (List Int)) × (Nat) × (List ((Int) × (List (Int)) × Unit))) (fun ((i, M, N, xs, K, ps) : (Int) × (Int) × (Nat) × (List (List Int)) × (Nat) × (List ((Int) × (List (Int)) × Unit))) => ⟨[Jk, Jk, .bptr 0 0, .bptr 1 0, Jk, Jk, Jk, Jk, Jk, Jk, Jk, .dat (.sl (.sl (.int .u8))) d_0, .dat (.int .i64) M, .dat (.int .i64) i, Jk, Jk, Jk, Jk, Jk, Jk, Jk, Jk, Jk, Jk, Jk, Jk], [some (.box [.nilS, .nilS]), some (.box [.ref (.sl (.int .u8)) 2 0 [] 0 N, .ref (.pair (.int .i64) (.pair (.sl (.int .u8)) .unit)) 3 0 [] 0 K]), some (.row 0 (.sl (.int .u8)) (.ow .sh) xs), some (.row 0 (.pair (.int .i64) (.pair (.sl (.int .u8)) .unit)) (.pr .sh (.pr (.ow .sh) .sh)) ps)]⟩) (fun ((i, M, N, xs, K, ps) : (Int) × (Int) × (Nat) × (List (List Int)) × (Nat) × (List ((Int) × (List (Int)) × Unit))) => M = d_0.length ∧ K = d_1.length ∧ ps = d_1 ∧ N = xs.length ∧ 0 ≤ i ∧ i ≤ d_0.length ∧ xs = d_0.take i.toNat) (fun ((i, M, N, xs, K, ps) : (Int) × (Int) × (Nat) × (List (List Int)) × (Nat) × (List ((Int) × (List (Int)) × Unit))) => d_0.length - i.toNat) (0, _, _, _, _, _) rfl ?_ ?_
  · subst hR0 hg_F_sl_Clone_byte hg_Q_sl_Clone_byte hg_F_i_ownPuts hg_Q_i_ownPuts
    (try simp only [Alg.std, F_sl_Clone_byte, F_i_ownPuts, Q_sl_Clone_byte, Q_i_ownPuts, F_i_ownDisk] at *)
    all_goals grind
  rintro ⟨i, M, N, xs, K, ps⟩ hf I hI
  replace hf : M = d_0.length ∧ K = d_1.length ∧ ps = d_1 ∧ N = xs.length ∧ 0 ≤ i ∧ i ≤ d_0.length ∧ xs = d_0.take i.toNat := hf
  generalize hL : Lg.std = L
  generalize hA : Alg.std = A
  cbv
  subst hL hA
  try dsimp only [Ty.den]
  subst hI
  obtain ⟨h1, h2, h3, h4, h5, h6, h7⟩ := hf
  have h6' : i ≤ (d_0.length : Int) := h6
  have ht := fun (h : i.toNat < d_0.length) => take_add d_0 [] i.toNat h
  have ha := fun (h : i.toNat < d_0.length) => tot_secs_at d_0 i.toNat h
  have hsu : (i + 1).toNat = i.toNat + 1 := by omega
  have hxl : xs.length = i.toNat := by rw [h7, List.length_take]; exact Nat.min_eq_left (by omega)
  have hta := fun (h : d_0.length ≤ i.toNat) => List.take_of_length_le h
  try dsimp only [putD] at ht ha
  repeat' (first | intro _ | apply And.intro)
  all_goals first | (with_reducible exact True.intro) | ((fail_if_success (refine lp_v (V := Unit) (fun _ => ⟨[], []⟩) (fun _ => True) (fun _ => 0) () ?_ ?_ ?_)); (try simp only [Lg.std, Alg.std, List.drop_zero, List.take_length] at *); (try refine ⟨(_, _, _, _, _, _), rfl, ?_, ?_⟩); (all_goals (subst hR0 hg_F_sl_Clone_byte hg_Q_sl_Clone_byte hg_F_i_ownPuts hg_Q_i_ownPuts; (try simp only [Lg.std, Alg.std, List.drop_zero, List.take_length, F_sl_Clone_byte, F_i_ownPuts, Q_sl_Clone_byte, Q_i_ownPuts, F_i_ownDisk] at *); first | done | (grind)))) | skip
def con_i_ownDisk : Con := ⟨true, g1 (pD (.pair (.sl (.sl (.int .u8))) (.pair (.sl (.pair (.int .i64) (.pair (.sl (.int .u8)) .unit))) .unit))) fun d => .one ⟨[Q_i_ownDisk d], [⟨(.pair (.sl (.sl (.int .u8))) (.pair (.sl (.pair (.int .i64) (.pair (.sl (.int .u8)) .unit))) .unit)), (.pr (.ow (.ow .sh)) (.pr (.ow (.pr .sh (.pr (.ow .sh) .sh))) .sh)), F_i_ownDisk d⟩], []⟩, [], false, 0⟩
theorem ok_i_ownDisk : ConOk pg 91 con_i_ownDisk := ConOk.g1 (Enters.of (by kernel_rfl)) ct_i_ownDisk

def F_s_l14Copy (d : (List (List (Int))) × (List ((Int) × (List (Int)) × Unit)) × Unit) : (List (List (Int))) × (List ((Int) × (List (Int)) × Unit)) × Unit := d
def Q_s_l14Copy (d : (List (List (Int))) × (List ((Int) × (List (Int)) × Unit)) × Unit) : Prop := tot tDisk d ≤ 1048576
def O_s_l14Copy : Opt := ⟨fun i => false, fun i => (match decide (i = 7) with | true => [true, false, true, true, false, true, false, false, false, false, false, false, false, false, false, false, false, false, false, false, false, false, false, false, false, false, false, false, false, false, false, false, false, false, false, false, false, false, false, false, false, false, false, false, false, false, false, false, false, false, false, false, false, false, false, false, false, false, false, false, false, false] | false => (match decide (i = 3) with | true => [true, false, true, true, true, false, false, false, false, false, false, false, false, false, false, false, false, false, false, false, false, false, false, false, false, false, false, false, false, false, false, false, false, false, false, false, false, false, false, false, false, false, false, false, false, false, false, false, false, false, false, false, false, false, false, false, false, false, false, false, false, false] | false => [])), fun i => (match decide (i = 9) with | true => (.take 0 (.take 2 (.take 3 (.take 4 (.take 6 (.take 10 (.take 11 (.take 12 (.take 14 (.alt 1 (.alt 5 (.take 7 (.take 8 (.alt 9 (.alt 13 (.take 15 (.take 16 (.alt 17 (.alt 18 (.take 19 (.alt 20 (.alt 21 (.take 22 (.alt 23 .done .no)) .no) .no)) .no) .no))) .no) (.alt 13 (.take 15 (.take 16 (.alt 9 (.alt 17 (.alt 18 (.take 19 (.alt 20 (.alt 21 (.take 22 (.alt 23 .done .no)) .no) .no)) .no) .no) (.alt 17 (.alt 9 (.alt 18 (.take 19 (.alt 20 (.alt 21 (.take 22 (.alt 23 .done .no)) .no) .no)) .no) (.alt 18 (.alt 9 (.take 19 (.alt 20 (.alt 21 (.take 22 (.alt 23 .done .no)) .no) .no)) .no) .no)) .no)))) .no)))) (.alt 13 (.take 15 (.take 16 (.alt 5 (.take 7 (.take 8 (.alt 9 (.alt 17 (.alt 18 (.take 19 (.alt 20 (.alt 21 (.take 22 (.alt 23 .done .no)) .no) .no)) .no) .no) (.alt 17 (.alt 9 (.alt 18 (.take 19 (.alt 20 (.alt 21 (.take 22 (.alt 23 .done .no)) .no) .no)) .no) (.alt 18 (.alt 9 (.take 19 (.alt 20 (.alt 21 (.take 22 (.alt 23 .done .no)) .no) .no)) .no) .no)) .no)))) (.alt 17 (.alt 5 (.take 7 (.take 8 (.alt 9 (.alt 18 (.take 19 (.alt 20 (.alt 21 (.take 22 (.alt 23 .done .no)) .no) .no)) .no) (.alt 18 (.alt 9 (.take 19 (.alt 20 (.alt 21 (.take 22 (.alt 23 .done .no)) .no) .no)) .no) .no)))) (.alt 18 (.alt 5 (.take 7 (.take 8 (.alt 9 (.take 19 (.alt 20 (.alt 21 (.take 22 (.alt 23 .done .no)) .no) .no)) .no))) .no) .no)) .no)))) .no)) (.alt 5 (.take 7 (.take 8 (.alt 1 (.alt 9 (.alt 13 (.take 15 (.take 16 (.alt 17 (.alt 18 (.take 19 (.alt 20 (.alt 21 (.take 22 (.alt 23 .done .no)) .no) .no)) .no) .no))) .no) (.alt 13 (.take 15 (.take 16 (.alt 9 (.alt 17 (.alt 18 (.take 19 (.alt 20 (.alt 21 (.take 22 (.alt 23 .done .no)) .no) .no)) .no) .no) (.alt 17 (.alt 9 (.alt 18 (.take 19 (.alt 20 (.alt 21 (.take 22 (.alt 23 .done .no)) .no) .no)) .no) (.alt 18 (.alt 9 (.take 19 (.alt 20 (.alt 21 (.take 22 (.alt 23 .done .no)) .no) .no)) .no) .no)) .no)))) .no)) (.alt 9 (.alt 1 (.alt 13 (.take 15 (.take 16 (.alt 17 (.alt 18 (.take 19 (.alt 20 (.alt 21 (.take 22 (.alt 23 .done .no)) .no) .no)) .no) .no))) .no) (.alt 13 (.take 15 (.take 16 (.alt 1 (.alt 17 (.alt 18 (.take 19 (.alt 20 (.alt 21 (.take 22 (.alt 23 .done .no)) .no) .no)) .no) .no) (.alt 17 (.alt 1 (.alt 18 (.take 19 (.alt 20 (.alt 21 (.take 22 (.alt 23 .done .no)) .no) .no)) .no) (.alt 18 (.take 19 (.alt 1 (.alt 20 (.alt 21 (.take 22 (.alt 23 .done .no)) .no) .no) (.alt 20 (.take 1 (.alt 21 (.take 22 (.alt 23 .done .no)) .no)) .no))) .no)) .no)))) .no)) (.alt 13 (.take 15 (.take 16 (.alt 1 (.alt 9 (.alt 17 (.alt 18 (.take 19 (.alt 20 (.alt 21 (.take 22 (.alt 23 .done .no)) .no) .no)) .no) .no) (.alt 17 (.alt 9 (.alt 18 (.take 19 (.alt 20 (.alt 21 (.take 22 (.alt 23 .done .no)) .no) .no)) .no) (.alt 18 (.alt 9 (.take 19 (.alt 20 (.alt 21 (.take 22 (.alt 23 .done .no)) .no) .no)) .no) .no)) .no)) (.alt 9 (.alt 1 (.alt 17 (.alt 18 (.take 19 (.alt 20 (.alt 21 (.take 22 (.alt 23 .done .no)) .no) .no)) .no) .no) (.alt 17 (.alt 1 (.alt 18 (.take 19 (.alt 20 (.alt 21 (.take 22 (.alt 23 .done .no)) .no) .no)) .no) (.alt 18 (.take 19 (.alt 1 (.alt 20 (.alt 21 (.take 22 (.alt 23 .done .no)) .no) .no) (.alt 20 (.take 1 (.alt 21 (.take 22 (.alt 23 .done .no)) .no)) .no))) .no)) .no)) (.alt 17 (.alt 1 (.alt 9 (.alt 18 (.take 19 (.alt 20 (.alt 21 (.take 22 (.alt 23 .done .no)) .no) .no)) .no) (.alt 18 (.alt 9 (.take 19 (.alt 20 (.alt 21 (.take 22 (.alt 23 .done .no)) .no) .no)) .no) .no)) (.alt 9 (.alt 1 (.alt 18 (.take 19 (.alt 20 (.alt 21 (.take 22 (.alt 23 .done .no)) .no) .no)) .no) (.alt 18 (.take 19 (.alt 1 (.alt 20 (.alt 21 (.take 22 (.alt 23 .done .no)) .no) .no) (.alt 20 (.take 1 (.alt 21 (.take 22 (.alt 23 .done .no)) .no)) .no))) .no)) (.alt 18 (.alt 1 (.alt 9 (.take 19 (.alt 20 (.alt 21 (.take 22 (.alt 23 .done .no)) .no) .no)) .no) (.alt 9 (.take 19 (.alt 1 (.alt 20 (.alt 21 (.take 22 (.alt 23 .done .no)) .no) .no) (.alt 20 (.take 1 (.alt 21 (.take 22 (.alt 23 .done .no)) .no)) .no))) .no)) .no))) .no))))) .no))))) (.alt 13 (.take 15 (.take 16 (.alt 1 (.alt 5 (.take 7 (.take 8 (.alt 9 (.alt 17 (.alt 18 (.take 19 (.alt 20 (.alt 21 (.take 22 (.alt 23 .done .no)) .no) .no)) .no) .no) (.alt 17 (.alt 9 (.alt 18 (.take 19 (.alt 20 (.alt 21 (.take 22 (.alt 23 .done .no)) .no) .no)) .no) (.alt 18 (.alt 9 (.take 19 (.alt 20 (.alt 21 (.take 22 (.alt 23 .done .no)) .no) .no)) .no) .no)) .no)))) (.alt 17 (.alt 5 (.take 7 (.take 8 (.alt 9 (.alt 18 (.take 19 (.alt 20 (.alt 21 (.take 22 (.alt 23 .done .no)) .no) .no)) .no) (.alt 18 (.alt 9 (.take 19 (.alt 20 (.alt 21 (.take 22 (.alt 23 .done .no)) .no) .no)) .no) .no)))) (.alt 18 (.alt 5 (.take 7 (.take 8 (.alt 9 (.take 19 (.alt 20 (.alt 21 (.take 22 (.alt 23 .done .no)) .no) .no)) .no))) .no) .no)) .no)) (.alt 5 (.take 7 (.take 8 (.alt 1 (.alt 9 (.alt 17 (.alt 18 (.take 19 (.alt 20 (.alt 21 (.take 22 (.alt 23 .done .no)) .no) .no)) .no) .no) (.alt 17 (.alt 9 (.alt 18 (.take 19 (.alt 20 (.alt 21 (.take 22 (.alt 23 .done .no)) .no) .no)) .no) (.alt 18 (.alt 9 (.take 19 (.alt 20 (.alt 21 (.take 22 (.alt 23 .done .no)) .no) .no)) .no) .no)) .no)) (.alt 9 (.alt 1 (.alt 17 (.alt 18 (.take 19 (.alt 20 (.alt 21 (.take 22 (.alt 23 .done .no)) .no) .no)) .no) .no) (.alt 17 (.alt 1 (.alt 18 (.take 19 (.alt 20 (.alt 21 (.take 22 (.alt 23 .done .no)) .no) .no)) .no) (.alt 18 (.take 19 (.alt 1 (.alt 20 (.alt 21 (.take 22 (.alt 23 .done .no)) .no) .no) (.alt 20 (.take 1 (.alt 21 (.take 22 (.alt 23 .done .no)) .no)) .no))) .no)) .no)) (.alt 17 (.alt 1 (.alt 9 (.alt 18 (.take 19 (.alt 20 (.alt 21 (.take 22 (.alt 23 .done .no)) .no) .no)) .no) (.alt 18 (.alt 9 (.take 19 (.alt 20 (.alt 21 (.take 22 (.alt 23 .done .no)) .no) .no)) .no) .no)) (.alt 9 (.alt 1 (.alt 18 (.take 19 (.alt 20 (.alt 21 (.take 22 (.alt 23 .done .no)) .no) .no)) .no) (.alt 18 (.take 19 (.alt 1 (.alt 20 (.alt 21 (.take 22 (.alt 23 .done .no)) .no) .no) (.alt 20 (.take 1 (.alt 21 (.take 22 (.alt 23 .done .no)) .no)) .no))) .no)) (.alt 18 (.alt 1 (.alt 9 (.take 19 (.alt 20 (.alt 21 (.take 22 (.alt 23 .done .no)) .no) .no)) .no) (.alt 9 (.take 19 (.alt 1 (.alt 20 (.alt 21 (.take 22 (.alt 23 .done .no)) .no) .no) (.alt 20 (.take 1 (.alt 21 (.take 22 (.alt 23 .done .no)) .no)) .no))) .no)) .no))) .no))))) (.alt 17 (.alt 1 (.alt 5 (.take 7 (.take 8 (.alt 9 (.alt 18 (.take 19 (.alt 20 (.alt 21 (.take 22 (.alt 23 .done .no)) .no) .no)) .no) (.alt 18 (.alt 9 (.take 19 (.alt 20 (.alt 21 (.take 22 (.alt 23 .done .no)) .no) .no)) .no) .no)))) (.alt 18 (.alt 5 (.take 7 (.take 8 (.alt 9 (.take 19 (.alt 20 (.alt 21 (.take 22 (.alt 23 .done .no)) .no) .no)) .no))) .no) .no)) (.alt 5 (.take 7 (.take 8 (.alt 1 (.alt 9 (.alt 18 (.take 19 (.alt 20 (.alt 21 (.take 22 (.alt 23 .done .no)) .no) .no)) .no) (.alt 18 (.alt 9 (.take 19 (.alt 20 (.alt 21 (.take 22 (.alt 23 .done .no)) .no) .no)) .no) .no)) (.alt 9 (.alt 1 (.alt 18 (.take 19 (.alt 20 (.alt 21 (.take 22 (.alt 23 .done .no)) .no) .no)) .no) (.alt 18 (.take 19 (.alt 1 (.alt 20 (.alt 21 (.take 22 (.alt 23 .done .no)) .no) .no) (.alt 20 (.take 1 (.alt 21 (.take 22 (.alt 23 .done .no)) .no)) .no))) .no)) (.alt 18 (.alt 1 (.alt 9 (.take 19 (.alt 20 (.alt 21 (.take 22 (.alt 23 .done .no)) .no) .no)) .no) (.alt 9 (.take 19 (.alt 1 (.alt 20 (.alt 21 (.take 22 (.alt 23 .done .no)) .no) .no) (.alt 20 (.take 1 (.alt 21 (.take 22 (.alt 23 .done .no)) .no)) .no))) .no)) .no))))) (.alt 18 (.alt 1 (.alt 5 (.take 7 (.take 8 (.alt 9 (.take 19 (.alt 20 (.alt 21 (.take 22 (.alt 23 .done .no)) .no) .no)) .no))) .no) (.alt 5 (.take 7 (.take 8 (.alt 1 (.alt 9 (.take 19 (.alt 20 (.alt 21 (.take 22 (.alt 23 .done .no)) .no) .no)) .no) (.alt 9 (.take 19 (.alt 1 (.alt 20 (.alt 21 (.take 22 (.alt 23 .done .no)) .no) .no) (.alt 20 (.take 1 (.alt 21 (.take 22 (.alt 23 .done .no)) .no)) .no))) .no)))) .no)) .no))) .no))))) .no)))))))))))) | false => (match decide (i = 5) with | true => (.take 0 (.take 2 (.take 3 (.take 4 (.take 6 (.alt 1 (.alt 5 (.take 7 (.alt 8 (.alt 9 (.alt 10 (.alt 11 (.take 12 (.alt 13 .done .no)) .no) .no) .no) .no)) .no) (.alt 5 (.take 7 (.alt 1 (.alt 8 (.alt 9 (.alt 10 (.alt 11 (.take 12 (.alt 13 .done .no)) .no) .no) .no) .no) (.alt 8 (.alt 1 (.alt 9 (.alt 10 (.alt 11 (.take 12 (.alt 13 .done .no)) .no) .no) .no) (.alt 9 (.alt 1 (.alt 10 (.alt 11 (.take 12 (.alt 13 .done .no)) .no) .no) (.alt 10 (.take 1 (.alt 11 (.take 12 (.alt 13 .done .no)) .no)) .no)) .no)) .no))) .no))))))) | false => .done)), fun i => (match decide (i = 9) with | true => some [true, false, true, true, false, true, false, false, false, false, false, false, false, false, false, false, false, false, false, false, false, false, false, false, false, false, false, false, false, false, false, false, false, false, false, false, false, false, false, false, false, false, false, false, false, false, false, false, false, false, false, false, false, false, false, false, false, false, false, false, false, false] | false => (match decide (i = 5) with | true => some [true, false, true, true, true, false, false, false, false, false, false, false, false, false, false, false, false, false, false, false, false, false, false, false, false, false, false, false, false, false, false, false, false, false, false, false, false, false, false, false, false, false, false, false, false, false, false, false, false, false, false, false, false, false, false, false, false, false, false, false, false, false] | false => none)), fun i => (match decide (i = 7) with | true => true | false => (match decide (i = 3) with | true => true | false => false)), fun i => (match decide (i = 7) with | true => [(3, some 0, (.sl (.int .u8)), (.ow .sh)), (3, some 1, (.pair (.int .i64) (.pair (.sl (.int .u8)) .unit)), (.pr .sh (.pr (.ow .sh) .sh)))] | false => (match decide (i = 3) with | true => [(3, some 0, (.sl (.int .u8)), (.ow .sh))] | false => [])), fun i => false, fun i => none, fun i => none⟩
def τ_s_l14Copy : Env := Env.of [(2, (.int .i64)), (3, (.int .i64)), (4, .bool), (22, (.sl (.sl (.int .u8)))), (28, (.sl (.pair (.int .i64) (.pair (.sl (.int .u8)) .unit)))), (30, (.pair (.sl (.sl (.int .u8))) (.pair (.sl (.pair (.int .i64) (.pair (.sl (.int .u8)) .unit))) .unit))), (34, (.sl (.int .u8))), (120, (.pair (.int .i64) (.pair (.sl (.int .u8)) .unit)))] [(80, (.pair (.sl (.sl (.int .u8))) (.pair (.sl (.pair (.int .i64) (.pair (.sl (.int .u8)) .unit))) .unit)))] []

theorem ct_s_l14Copy (d : (List (List (Int))) × (List ((Int) × (List (Int)) × Unit)) × Unit) : Ct pg 96 [.dptr (.pair (.sl (.sl (.int .u8))) (.pair (.sl (.pair (.int .i64) (.pair (.sl (.int .u8)) .unit))) .unit)) d] ⟨[Q_s_l14Copy d], [⟨(.pair (.sl (.sl (.int .u8))) (.pair (.sl (.pair (.int .i64) (.pair (.sl (.int .u8)) .unit))) .unit)), (.pr (.ow (.ow .sh)) (.pr (.ow (.pr .sh (.pr (.ow .sh) .sh))) .sh)), F_s_l14Copy d⟩], []⟩ := by
  refine ct_claim (O := O_s_l14Copy) (τ := τ_s_l14Copy) (EnvOk.of (by kernel_rfl) (by kernel_rfl)) (GOk.of (.cons ok_s_l1Copy .nil : AllOk pg [(77, con_s_l1Copy)])) mixed (Enters.of (by kernel_rfl)) (fn := Go.Proofs.Try.f96) (by kernel_rfl) rfl (by kernel_rfl) ?_
  intro hp hw
  have hq : Q_s_l14Copy d := hp _ (List.mem_singleton.2 rfl)
  clear hp
  change claim Lg.std Alg.std τ_s_l14Copy (Gam.of [(77, con_s_l1Copy)]) O_s_l14Copy Go.Proofs.Try.f96 [.dptr (.pair (.sl (.sl (.int .u8))) (.pair (.sl (.pair (.int .i64) (.pair (.sl (.int .u8)) .unit))) .unit)) d] ⟨[Q_s_l14Copy d], [⟨(.pair (.sl (.sl (.int .u8))) (.pair (.sl (.pair (.int .i64) (.pair (.sl (.int .u8)) .unit))) .unit)), (.pr (.ow (.ow .sh)) (.pr (.ow (.pr .sh (.pr (.ow .sh) .sh))) .sh)), F_s_l14Copy d⟩], []⟩
  delta con_s_l1Copy
  generalize hg_F_s_l1Copy : F_s_l1Copy = g_F_s_l1Copy
  generalize hg_Q_s_l1Copy : Q_s_l1Copy = g_Q_s_l1Copy
  generalize hR0 : F_s_l14Copy d = R0
  generalize Q_s_l14Copy d = Q0
  generalize hL : Lg.std = L
  generalize hA : Alg.std = A
  cbv
  subst hL hA
  try dsimp only [Ty.den]
  obtain ⟨d_0, d_1, ⟨⟩⟩ := d
  simp only [Q_s_l14Copy] at hq
  have hle0 := tot_len (.sl (.int .u8)) d_0
  have hle1 := tot_len tPut d_1
  have hqd : tot (.sl (.sl (.int .u8))) d_0 + tot (.sl tPut) d_1 ≤ 1048576 := by simp only [tot_p, tot_u] at hq; omega
  repeat' (first | intro _ | apply And.intro)
  all_goals first | trivial | ((fail_if_success (refine lp_v (V := Unit) (fun _ => ⟨[], []⟩) (fun _ => True) (fun _ => 0) () ?_ ?_ ?_)); subst hR0 hg_F_s_l1Copy hg_Q_s_l1Copy; (try simp only [Alg.std, F_s_l1Copy, Q_s_l1Copy, F_s_l14Copy] at *); all_goals grind) | skip
  refine lp_v (V := (Int) × (Nat) × (List (List Int))) (fun ((i, N, xs) : (Int) × (Nat) × (List (List Int))) => ⟨[.dptr (.pair (.sl (.sl (.int .u8))) (.pair (.sl (.pair (.int .i64) (.pair (.sl (.int .u8)) .unit))) .unit)) (d_0, d_1, PUnit.unit), Jk, .bptr 0 0, .bptr 1 0, .dat (.int .i64) i, Jk, Jk, Jk, Jk, Jk, Jk, Jk, Jk, Jk, Jk, Jk, Jk, Jk, Jk, Jk, Jk, Jk, Jk, Jk, Jk, Jk, Jk, Jk, Jk, Jk, Jk, Jk, Jk, Jk, Jk, Jk, Jk, Jk, Jk, Jk, Jk, Jk, Jk, Jk, Jk, Jk, Jk, Jk, Jk, Jk, Jk, Jk, Jk, Jk, Jk, Jk, Jk, Jk, Jk, Jk, Jk, Jk], [some (.box [.nilS, .nilS]), some (.box [.ref (.sl (.int .u8)) 2 0 [] 0 N, .nilS]), some (.row 0 (.sl (.int .u8)) (.ow .sh) xs)]⟩) (fun ((i, N, xs) : (Int) × (Nat) × (List (List Int))) => N = xs.length ∧ 0 ≤ i ∧ i ≤ d_0.length ∧ xs = d_0.take i.toNat) (fun ((i, N, xs) : (Int) × (Nat) × (List (List Int))) => d_0.length - i.toNat) (0, _, _) rfl ?_ ?_
  · subst hR0 hg_F_s_l1Copy hg_Q_s_l1Copy
    (try simp only [Alg.std, F_s_l1Copy, Q_s_l1Copy, F_s_l14Copy] at *)
    all_goals grind
  rintro ⟨i, N, xs⟩ hf I hI
  replace hf : N = xs.length ∧ 0 ≤ i ∧ i ≤ d_0.length ∧ xs = d_0.take i.toNat := hf
  generalize hL : Lg.std = L
  generalize hA : Alg.std = A
  cbv
  subst hL hA
  try dsimp only [Ty.den]
  subst hI
  obtain ⟨h1, h2, h3, h4⟩ := hf
  have h3' : i ≤ (d_0.length : Int) := h3
  have ht := fun (h : i.toNat < d_0.length) => take_add d_0 [] i.toNat h
  have ha := fun (h : i.toNat < d_0.length) => tot_secs_at d_0 i.toNat h
  have hsu : (i + 1).toNat = i.toNat + 1 := by omega
  have hxl : xs.length = i.toNat := by rw [h4, List.length_take]; exact Nat.min_eq_left (by omega)
  have hta := fun (h : d_0.length ≤ i.toNat) => List.take_of_length_le h
  try dsimp only [putD] at ht ha
  repeat' (first | intro _ | apply And.intro)
  all_goals first | (with_reducible exact True.intro) | ((fail_if_success (refine lp_v (V := Unit) (fun _ => ⟨[], []⟩) (fun _ => True) (fun _ => 0) () ?_ ?_ ?_)); (try simp only [Lg.std, Alg.std, List.drop_zero, List.take_length] at *); (try refine ⟨(_, _, _), rfl, ?_, ?_⟩); (all_goals (subst hR0 hg_F_s_l1Copy hg_Q_s_l1Copy; (try simp only [Lg.std, Alg.std, List.drop_zero, List.take_length, F_s_l1Copy, Q_s_l1Copy, F_s_l14Copy] at *); first | done | (grind)))) | skip
  refine lp_v (V := (Int) × (Nat) × (List (List Int)) × (Nat) × (List ((Int) × (List (Int)) × Unit))) (fun ((i, N, xs, K, ps) : (Int) × (Nat) × (List (List Int)) × (Nat) × (List ((Int) × (List (Int)) × Unit))) => ⟨[.dptr (.pair (.sl (.sl (.int .u8))) (.pair (.sl (.pair (.int .i64) (.pair (.sl (.int .u8)) .unit))) .unit)) (d_0, d_1, PUnit.unit), Jk, .bptr 0 0, .bptr 1 0, Jk, .dat (.int .i64) i, Jk, Jk, Jk, Jk, Jk, Jk, Jk, Jk, Jk, Jk, Jk, Jk, Jk, Jk, Jk, Jk, Jk, Jk, Jk, Jk, Jk, Jk, Jk, Jk, Jk, Jk, Jk, Jk, Jk, Jk, Jk, Jk, Jk, Jk, Jk, Jk, Jk, Jk, Jk, Jk, Jk, Jk, Jk, Jk, Jk, Jk, Jk, Jk, Jk, Jk, Jk, Jk, Jk, Jk, Jk, Jk], [some (.box [.nilS, .nilS]), some (.box [.ref (.sl (.int .u8)) 2 0 [] 0 N, .ref (.pair (.int .i64) (.pair (.sl (.int .u8)) .unit)) 3 0 [] 0 K]), some (.row 0 (.sl (.int .u8)) (.ow .sh) xs), some (.row 0 (.pair (.int .i64) (.pair (.sl (.int .u8)) .unit)) (.pr .sh (.pr (.ow .sh) .sh)) ps)]⟩) (fun ((i, N, xs, K, ps) : (Int) × (Nat) × (List (List Int)) × (Nat) × (List ((Int) × (List (Int)) × Unit))) => N = xs.length ∧ xs = d_0 ∧ K = ps.length ∧ 0 ≤ i ∧ i ≤ d_1.length ∧ ps = d_1.take i.toNat) (fun ((i, N, xs, K, ps) : (Int) × (Nat) × (List (List Int)) × (Nat) × (List ((Int) × (List (Int)) × Unit))) => d_1.length - i.toNat) (0, _, _, _, _) rfl ?_ ?_
  · subst hR0 hg_F_s_l1Copy hg_Q_s_l1Copy
    (try simp only [Alg.std, F_s_l1Copy, Q_s_l1Copy, F_s_l14Copy] at *)
    all_goals grind
  rintro ⟨i, N, xs, K, ps⟩ hf I hI
  replace hf : N = xs.length ∧ xs = d_0 ∧ K = ps.length ∧ 0 ≤ i ∧ i ≤ d_1.length ∧ ps = d_1.take i.toNat := hf
  generalize hL : Lg.std = L
  generalize hA : Alg.std = A
  cbv
  subst hL hA
  try dsimp only [Ty.den]
  subst hI
  obtain ⟨h1, h2, h3, h4, h5, h6⟩ := hf
  have h5' : i ≤ (d_1.length : Int) := h5
  have ht := fun (h : i.toNat < d_1.length) => take_add d_1 putD i.toNat h
  have ha := fun (h : i.toNat < d_1.length) => tot_puts_at d_1 i.toNat h
  have hsu : (i + 1).toNat = i.toNat + 1 := by omega
  have hxl : ps.length = i.toNat := by rw [h6, List.length_take]; exact Nat.min_eq_left (by omega)
  have hta := fun (h : d_1.length ≤ i.toNat) => List.take_of_length_le h
  try dsimp only [putD] at ht ha
  repeat' (first | intro _ | apply And.intro)
  all_goals first | (with_reducible exact True.intro) | ((fail_if_success (refine lp_v (V := Unit) (fun _ => ⟨[], []⟩) (fun _ => True) (fun _ => 0) () ?_ ?_ ?_)); (try simp only [Lg.std, Alg.std, List.drop_zero, List.take_length] at *); (try refine ⟨(_, _, _, _, _), rfl, ?_, ?_⟩); (all_goals (subst hR0 hg_F_s_l1Copy hg_Q_s_l1Copy; (try simp only [Lg.std, Alg.std, List.drop_zero, List.take_length, F_s_l1Copy, Q_s_l1Copy, F_s_l14Copy] at *); first | done | ((try generalize d_1.getD i.toNat (0, [], ()) = xa at *); (try obtain ⟨xa0, xa1, ⟨⟩⟩ := xa); (try dsimp only at *); grind)))) | skip
def con_s_l14Copy : Con := ⟨true, g1 (pP (.pair (.sl (.sl (.int .u8))) (.pair (.sl (.pair (.int .i64) (.pair (.sl (.int .u8)) .unit))) .unit))) fun d => .one ⟨[Q_s_l14Copy d], [⟨(.pair (.sl (.sl (.int .u8))) (.pair (.sl (.pair (.int .i64) (.pair (.sl (.int .u8)) .unit))) .unit)), (.pr (.ow (.ow .sh)) (.pr (.ow (.pr .sh (.pr (.ow .sh) .sh))) .sh)), F_s_l14Copy d⟩], []⟩, [], false, 0⟩
theorem ok_s_l14Copy : ConOk pg 96 con_s_l14Copy := ConOk.g1 (Enters.of (by kernel_rfl)) ct_s_l14Copy

def F_s_l14Waits (d : (List (List (Int))) × (List ((Int) × (List (Int)) × Unit)) × Unit) (n : Int) : Int := findG (fun x => decide (x.1 = n)) d.2.1 0
def Q_s_l14Waits (d : (List (List (Int))) × (List ((Int) × (List (Int)) × Unit)) × Unit) (n : Int) : Prop := True
def O_s_l14Waits : Opt := ⟨fun i => false, fun i => (match decide (i = 2) with | true => [true, true, false, false, false, true, false, false, false, false, false, false, false, false, false, false, false, false, false, false, false, false, false, false, false, false] | false => []), fun i => .done, fun i => none, fun i => false, fun i => [], fun i => false, fun i => none, fun i => none⟩
def τ_s_l14Waits : Env := Env.of [(2, (.int .i64)), (3, (.int .i64)), (4, .bool), (28, (.sl (.pair (.int .i64) (.pair (.sl (.int .u8)) .unit)))), (30, (.pair (.sl (.sl (.int .u8))) (.pair (.sl (.pair (.int .i64) (.pair (.sl (.int .u8)) .unit))) .unit))), (120, (.pair (.int .i64) (.pair (.sl (.int .u8)) .unit)))] [(80, (.pair (.sl (.sl (.int .u8))) (.pair (.sl (.pair (.int .i64) (.pair (.sl (.int .u8)) .unit))) .unit)))] []

theorem ct_s_l14Waits (d : (List (List (Int))) × (List ((Int) × (List (Int)) × Unit)) × Unit) (n : Int) : Ct pg 132 [.dptr (.pair (.sl (.sl (.int .u8))) (.pair (.sl (.pair (.int .i64) (.pair (.sl (.int .u8)) .unit))) .unit)) d, .dat (.int .i64) n] ⟨[Q_s_l14Waits d n], [⟨(.int .i64), .sh, F_s_l14Waits d n⟩], []⟩ := by
  refine ct_claim (O := O_s_l14Waits) (τ := τ_s_l14Waits) (EnvOk.of (by kernel_rfl) (by kernel_rfl)) (GOk.of (.nil : AllOk pg [])) mixed (Enters.of (by kernel_rfl)) (fn := Go.Proofs.Try.f132) (by kernel_rfl) rfl (by kernel_rfl) ?_
  intro hp hw
  have hq : Q_s_l14Waits d n := hp _ (List.mem_singleton.2 rfl)
  clear hp
  change claim Lg.std Alg.std τ_s_l14Waits (Gam.of []) O_s_l14Waits Go.Proofs.Try.f132 [.dptr (.pair (.sl (.sl (.int .u8))) (.pair (.sl (.pair (.int .i64) (.pair (.sl (.int .u8)) .unit))) .unit)) d, .dat (.int .i64) n] ⟨[Q_s_l14Waits d n], [⟨(.int .i64), .sh, F_s_l14Waits d n⟩], []⟩
  generalize hR0 : F_s_l14Waits d n = R0
  generalize Q_s_l14Waits d n = Q0
  generalize hL : Lg.std = L
  generalize hA : Alg.std = A
  cbv
  subst hL hA
  try dsimp only [Ty.den]
  obtain ⟨d_0, d_1, ⟨⟩⟩ := d
  refine lp_v (V := (Int)) (fun (i : Int) => ⟨[.dptr (.pair (.sl (.sl (.int .u8))) (.pair (.sl (.pair (.int .i64) (.pair (.sl (.int .u8)) .unit))) .unit)) (d_0, d_1, PUnit.unit), .dat (.int .i64) n, Jk, Jk, Jk, .dat (.int .i64) i, Jk, Jk, Jk, Jk, Jk, Jk, Jk, Jk, Jk, Jk, Jk, Jk, Jk, Jk, Jk, Jk, Jk, Jk, Jk, Jk], []⟩) (fun (i : Int) => 0 ≤ i ∧ i ≤ d_1.length ∧ findG (fun x : PutT => decide (x.1 = n)) d_1 0 = findG (fun x : PutT => decide (x.1 = n)) (d_1.drop i.toNat) i) (fun (i : Int) => d_1.length - i.toNat) (0) rfl ?_ ?_
  · simp
  rintro i hf I hI
  replace hf : 0 ≤ i ∧ i ≤ d_1.length ∧ findG (fun x : PutT => decide (x.1 = n)) d_1 0 = findG (fun x : PutT => decide (x.1 = n)) (d_1.drop i.toNat) i := hf
  generalize hL : Lg.std = L
  generalize hA : Alg.std = A
  cbv
  subst hL hA
  try dsimp only [Ty.den]
  subst hI
  obtain ⟨h1, h2, h3⟩ := hf
  have hl := hw.1.2.1.1
  have hdc := fun (h : i.toNat < d_1.length) => drop_cons d_1 ((0, [], PUnit.unit) : (Int) × (List (Int)) × Unit) i.toNat h
  have he := fun (h : d_1.length ≤ i.toNat) => drop_nil d_1 i.toNat h
  have hsu : (i + 1).toNat = i.toNat + 1 := by omega
  repeat' (first | intro _ | apply And.intro)
  all_goals first | (with_reducible exact True.intro) | ((fail_if_success (refine lp_v (V := Unit) (fun _ => ⟨[], []⟩) (fun _ => True) (fun _ => 0) () ?_ ?_ ?_)); (try simp only [Lg.std, Alg.std, List.drop_zero, List.take_length] at *); (try refine ⟨_, rfl, ?_, ?_⟩); (all_goals (subst hR0; (try simp only [Lg.std, Alg.std, List.drop_zero, List.take_length, F_s_l14Waits] at *); first | done | ((try generalize d_1.getD i.toNat (0, [], ()) = xa at *); (try obtain ⟨xa0, xa1, ⟨⟩⟩ := xa); (try dsimp only at *); grind [findG_cons, findG_nil])))) | skip
def con_s_l14Waits : Con := ⟨true, g2 (pP (.pair (.sl (.sl (.int .u8))) (.pair (.sl (.pair (.int .i64) (.pair (.sl (.int .u8)) .unit))) .unit))) (pD (.int .i64)) fun d n => .one ⟨[Q_s_l14Waits d n], [⟨(.int .i64), .sh, F_s_l14Waits d n⟩], []⟩, [], false, 0⟩
theorem ok_s_l14Waits : ConOk pg 132 con_s_l14Waits := ConOk.g2 (Enters.of (by kernel_rfl)) ct_s_l14Waits

def F_s_l14Sector (d : (List (List (Int))) × (List ((Int) × (List (Int)) × Unit)) × Unit) (n : Int) : Bool := decide (0 ≤ n ∧ n ≤ (d.1.length : Int) - 1)
def Q_s_l14Sector (d : (List (List (Int))) × (List ((Int) × (List (Int)) × Unit)) × Unit) (n : Int) : Prop := True
def O_s_l14Sector : Opt := ⟨fun i => false, fun i => [], fun i => .done, fun i => none, fun i => false, fun i => [], fun i => false, fun i => none, fun i => none⟩
def τ_s_l14Sector : Env := Env.of [(2, (.int .i64)), (3, (.int .i64)), (4, .bool), (22, (.sl (.sl (.int .u8)))), (30, (.pair (.sl (.sl (.int .u8))) (.pair (.sl (.pair (.int .i64) (.pair (.sl (.int .u8)) .unit))) .unit)))] [(80, (.pair (.sl (.sl (.int .u8))) (.pair (.sl (.pair (.int .i64) (.pair (.sl (.int .u8)) .unit))) .unit)))] []

theorem ct_s_l14Sector (d : (List (List (Int))) × (List ((Int) × (List (Int)) × Unit)) × Unit) (n : Int) : Ct pg 120 [.dptr (.pair (.sl (.sl (.int .u8))) (.pair (.sl (.pair (.int .i64) (.pair (.sl (.int .u8)) .unit))) .unit)) d, .dat (.int .i64) n] ⟨[Q_s_l14Sector d n], [⟨.bool, .sh, F_s_l14Sector d n⟩], []⟩ := by
  refine ct_claim (O := O_s_l14Sector) (τ := τ_s_l14Sector) (EnvOk.of (by kernel_rfl) (by kernel_rfl)) (GOk.of (.cons ok_s_l1In .nil : AllOk pg [(65, con_s_l1In)])) mixed (Enters.of (by kernel_rfl)) (fn := Go.Proofs.Try.f120) (by kernel_rfl) rfl (by kernel_rfl) ?_
  intro hp hw
  have hq : Q_s_l14Sector d n := hp _ (List.mem_singleton.2 rfl)
  clear hp
  change claim Lg.std Alg.std τ_s_l14Sector (Gam.of [(65, con_s_l1In)]) O_s_l14Sector Go.Proofs.Try.f120 [.dptr (.pair (.sl (.sl (.int .u8))) (.pair (.sl (.pair (.int .i64) (.pair (.sl (.int .u8)) .unit))) .unit)) d, .dat (.int .i64) n] ⟨[Q_s_l14Sector d n], [⟨.bool, .sh, F_s_l14Sector d n⟩], []⟩
  delta con_s_l1In
  generalize hg_F_s_l1In : F_s_l1In = g_F_s_l1In
  generalize hg_Q_s_l1In : Q_s_l1In = g_Q_s_l1In
  generalize hR0 : F_s_l14Sector d n = R0
  generalize Q_s_l14Sector d n = Q0
  generalize hL : Lg.std = L
  generalize hA : Alg.std = A
  cbv
  subst hL hA
  try dsimp only [Ty.den]
  obtain ⟨d_0, d_1, ⟨⟩⟩ := d
  have hl := hw.1.1.1
  subst hR0 hg_F_s_l1In hg_Q_s_l1In
  simp only [Q_s_l14Sector] at hq
  simp only [Lg.std, Alg.std, List.drop_zero, List.take_length, F_s_l1In, Q_s_l1In, F_s_l14Sector]
  all_goals grind
def con_s_l14Sector : Con := ⟨true, g2 (pP (.pair (.sl (.sl (.int .u8))) (.pair (.sl (.pair (.int .i64) (.pair (.sl (.int .u8)) .unit))) .unit))) (pD (.int .i64)) fun d n => .one ⟨[Q_s_l14Sector d n], [⟨.bool, .sh, F_s_l14Sector d n⟩], []⟩, [], false, 0⟩
theorem ok_s_l14Sector : ConOk pg 120 con_s_l14Sector := ConOk.g2 (Enters.of (by kernel_rfl)) ct_s_l14Sector

def F_i_Disk_writeFault (d : (List (List (Int))) × (List ((Int) × (List (Int)) × Unit)) × Unit) (n : Int) (data : List (Int)) : Int := writeFault d n data
def Q_i_Disk_writeFault (d : (List (List (Int))) × (List ((Int) × (List (Int)) × Unit)) × Unit) (n : Int) (data : List (Int)) : Prop := True
def O_i_Disk_writeFault : Opt := ⟨fun i => false, fun i => [], fun i => .done, fun i => none, fun i => false, fun i => [], fun i => false, fun i => none, fun i => none⟩
def τ_i_Disk_writeFault : Env := Env.of [(2, (.int .i64)), (3, (.int .i64)), (4, .bool), (30, (.pair (.sl (.sl (.int .u8))) (.pair (.sl (.pair (.int .i64) (.pair (.sl (.int .u8)) .unit))) .unit))), (34, (.sl (.int .u8)))] [] []

theorem ct_i_Disk_writeFault (d : (List (List (Int))) × (List ((Int) × (List (Int)) × Unit)) × Unit) (n : Int) (data : List (Int)) : Ct pg 94 [.dat (.pair (.sl (.sl (.int .u8))) (.pair (.sl (.pair (.int .i64) (.pair (.sl (.int .u8)) .unit))) .unit)) d, .dat (.int .i64) n, .dat (.sl (.int .u8)) data] ⟨[Q_i_Disk_writeFault d n data], [⟨(.int .i64), .sh, F_i_Disk_writeFault d n data⟩], []⟩ := by
  refine ct_claim (O := O_i_Disk_writeFault) (τ := τ_i_Disk_writeFault) (EnvOk.of (by kernel_rfl) (by kernel_rfl)) (GOk.of (.cons ok_i_Disk_has .nil : AllOk pg [(103, con_i_Disk_has)])) mixed (Enters.of (by kernel_rfl)) (fn := Go.Proofs.Try.f94) (by kernel_rfl) rfl (by kernel_rfl) ?_
  intro hp hw
  have hq : Q_i_Disk_writeFault d n data := hp _ (List.mem_singleton.2 rfl)
  clear hp
  change claim Lg.std Alg.std τ_i_Disk_writeFault (Gam.of [(103, con_i_Disk_has)]) O_i_Disk_writeFault Go.Proofs.Try.f94 [.dat (.pair (.sl (.sl (.int .u8))) (.pair (.sl (.pair (.int .i64) (.pair (.sl (.int .u8)) .unit))) .unit)) d, .dat (.int .i64) n, .dat (.sl (.int .u8)) data] ⟨[Q_i_Disk_writeFault d n data], [⟨(.int .i64), .sh, F_i_Disk_writeFault d n data⟩], []⟩
  delta con_i_Disk_has
  generalize hg_F_i_Disk_has : F_i_Disk_has = g_F_i_Disk_has
  generalize hg_Q_i_Disk_has : Q_i_Disk_has = g_Q_i_Disk_has
  generalize hR0 : F_i_Disk_writeFault d n data = R0
  generalize Q_i_Disk_writeFault d n data = Q0
  generalize hL : Lg.std = L
  generalize hA : Alg.std = A
  cbv
  subst hL hA
  try dsimp only [Ty.den]
  subst hR0 hg_F_i_Disk_has hg_Q_i_Disk_has
  simp only [Q_i_Disk_writeFault] at hq
  simp only [Lg.std, Alg.std, List.drop_zero, List.take_length, F_i_Disk_has, Q_i_Disk_has, F_i_Disk_writeFault]
  all_goals grind [writeFault]
def con_i_Disk_writeFault : Con := ⟨true, g3 (pD (.pair (.sl (.sl (.int .u8))) (.pair (.sl (.pair (.int .i64) (.pair (.sl (.int .u8)) .unit))) .unit))) (pD (.int .i64)) (pD (.sl (.int .u8))) fun d n data => .one ⟨[Q_i_Disk_writeFault d n data], [⟨(.int .i64), .sh, F_i_Disk_writeFault d n data⟩], []⟩, [], false, 0⟩
theorem ok_i_Disk_writeFault : ConOk pg 94 con_i_Disk_writeFault := ConOk.g3 (Enters.of (by kernel_rfl)) ct_i_Disk_writeFault

def B_i_Disk_write_d (d : (List (List (Int))) × (List ((Int) × (List (Int)) × Unit)) × Unit) (n : Int) (data : List (Int)) : (List (List (Int))) × (List ((Int) × (List (Int)) × Unit)) × Unit := writeD d n data
def Q_i_Disk_write (d : (List (List (Int))) × (List ((Int) × (List (Int)) × Unit)) × Unit) (n : Int) (data : List (Int)) : Prop := d.2.1.length ≤ 1048576 ∧ data.length ≤ 1048576
def O_i_Disk_write : Opt := ⟨fun i => false, fun i => [], fun i => .done, fun i => none, fun i => false, fun i => [], fun i => false, fun i => none, fun i => none⟩
def τ_i_Disk_write : Env := Env.of [(2, (.int .i64)), (3, (.int .i64)), (4, .bool), (28, (.sl (.pair (.int .i64) (.pair (.sl (.int .u8)) .unit)))), (30, (.pair (.sl (.sl (.int .u8))) (.pair (.sl (.pair (.int .i64) (.pair (.sl (.int .u8)) .unit))) .unit))), (34, (.sl (.int .u8))), (120, (.pair (.int .i64) (.pair (.sl (.int .u8)) .unit)))] [(80, (.pair (.sl (.sl (.int .u8))) (.pair (.sl (.pair (.int .i64) (.pair (.sl (.int .u8)) .unit))) .unit)))] []

theorem ct_i_Disk_write (d : (List (List (Int))) × (List ((Int) × (List (Int)) × Unit)) × Unit) (n : Int) (data : List (Int)) : Ct pg 95 [.mp (.pair (.sl (.sl (.int .u8))) (.pair (.sl (.pair (.int .i64) (.pair (.sl (.int .u8)) .unit))) .unit)) (.pr (.ow (.ow .sh)) (.pr (.ow (.pr .sh (.pr (.ow .sh) .sh))) .sh)) d, .dat (.int .i64) n, .dat (.sl (.int .u8)) data] ⟨[Q_i_Disk_write d n data], [], [.mp (.pair (.sl (.sl (.int .u8))) (.pair (.sl (.pair (.int .i64) (.pair (.sl (.int .u8)) .unit))) .unit)) (.pr (.ow (.ow .sh)) (.pr (.ow (.pr .sh (.pr (.ow .sh) .sh))) .sh)) (B_i_Disk_write_d d n data)]⟩ := by
  refine ct_claim (O := O_i_Disk_write) (τ := τ_i_Disk_write) (EnvOk.of (by kernel_rfl) (by kernel_rfl)) (GOk.of (.cons ok_sl_Clone_byte (.cons ok_i_Disk_putFor .nil) : AllOk pg [(84, con_sl_Clone_byte), (104, con_i_Disk_putFor)])) mixed (Enters.of (by kernel_rfl)) (fn := Go.Proofs.Try.f95) (by kernel_rfl) rfl (by kernel_rfl) ?_
  intro hp hw
  have hq : Q_i_Disk_write d n data := hp _ (List.mem_singleton.2 rfl)
  clear hp
  change claim Lg.std Alg.std τ_i_Disk_write (Gam.of [(84, con_sl_Clone_byte), (104, con_i_Disk_putFor)]) O_i_Disk_write Go.Proofs.Try.f95 [.mp (.pair (.sl (.sl (.int .u8))) (.pair (.sl (.pair (.int .i64) (.pair (.sl (.int .u8)) .unit))) .unit)) (.pr (.ow (.ow .sh)) (.pr (.ow (.pr .sh (.pr (.ow .sh) .sh))) .sh)) d, .dat (.int .i64) n, .dat (.sl (.int .u8)) data] ⟨[Q_i_Disk_write d n data], [], [.mp (.pair (.sl (.sl (.int .u8))) (.pair (.sl (.pair (.int .i64) (.pair (.sl (.int .u8)) .unit))) .unit)) (.pr (.ow (.ow .sh)) (.pr (.ow (.pr .sh (.pr (.ow .sh) .sh))) .sh)) (B_i_Disk_write_d d n data)]⟩
  delta con_sl_Clone_byte con_i_Disk_putFor
  generalize hg_F_sl_Clone_byte : F_sl_Clone_byte = g_F_sl_Clone_byte
  generalize hg_Q_sl_Clone_byte : Q_sl_Clone_byte = g_Q_sl_Clone_byte
  generalize hg_F_i_Disk_putFor : F_i_Disk_putFor = g_F_i_Disk_putFor
  generalize hg_Q_i_Disk_putFor : Q_i_Disk_putFor = g_Q_i_Disk_putFor
  generalize hB_d : B_i_Disk_write_d d n data = B_d
  generalize Q_i_Disk_write d n data = Q0
  generalize hL : Lg.std = L
  generalize hA : Alg.std = A
  cbv
  subst hL hA
  try dsimp only [Ty.den]
  obtain ⟨d_0, d_1, ⟨⟩⟩ := d
  have hr := findG_range (fun x : PutT => decide (x.1 = n)) d_1 0 (by omega)
  subst hB_d hg_F_sl_Clone_byte hg_Q_sl_Clone_byte hg_F_i_Disk_putFor hg_Q_i_Disk_putFor
  simp only [Q_i_Disk_write] at hq
  simp only [Lg.std, Alg.std, List.drop_zero, List.take_length, F_sl_Clone_byte, F_i_Disk_putFor, Q_sl_Clone_byte, Q_i_Disk_putFor, B_i_Disk_write_d, writeD, putD] at *
  try simp only [true_and, and_true, false_implies, implies_true, imp_self]
  generalize findG (fun x : PutT => decide (x.1 = n)) d_1 0 = k at *
  (try generalize d_1.getD k.toNat (0, [], ()) = xa at *); (try obtain ⟨xa0, xa1, ⟨⟩⟩ := xa); (try dsimp only at *)
  repeat' (first | intro _ | apply And.intro)
  all_goals grind
def con_i_Disk_write : Con := ⟨true, g3 (pW (.pair (.sl (.sl (.int .u8))) (.pair (.sl (.pair (.int .i64) (.pair (.sl (.int .u8)) .unit))) .unit)) (.pr (.ow (.ow .sh)) (.pr (.ow (.pr .sh (.pr (.ow .sh) .sh))) .sh))) (pD (.int .i64)) (pD (.sl (.int .u8))) fun d n data => .one ⟨[Q_i_Disk_write d n data], [], [.mp (.pair (.sl (.sl (.int .u8))) (.pair (.sl (.pair (.int .i64) (.pair (.sl (.int .u8)) .unit))) .unit)) (.pr (.ow (.ow .sh)) (.pr (.ow (.pr .sh (.pr (.ow .sh) .sh))) .sh)) (B_i_Disk_write_d d n data)]⟩, [(.pr (.ow (.ow .sh)) (.pr (.ow (.pr .sh (.pr (.ow .sh) .sh))) .sh))], false, 0⟩
theorem ok_i_Disk_write : ConOk pg 95 con_i_Disk_write := ConOk.g3 (Enters.of (by kernel_rfl)) ct_i_Disk_write

def B_s_l14Write_d (d : (List (List (Int))) × (List ((Int) × (List (Int)) × Unit)) × Unit) (n : Int) (data : List (Int)) : (List (List (Int))) × (List ((Int) × (List (Int)) × Unit)) × Unit := writeD d n data
def Q_s_l14Write (d : (List (List (Int))) × (List ((Int) × (List (Int)) × Unit)) × Unit) (n : Int) (data : List (Int)) : Prop := d.2.1.length ≤ 1048576 ∧ data.length ≤ 1048576
def O_s_l14Write : Opt := ⟨fun i => false, fun i => [], fun i => (match decide (i = 3) with | true => (.take 0 (.take 1 (.take 2 (.take 3 (.take 5 (.take 6 (.alt 4 (.alt 7 (.take 8 (.alt 9 (.alt 10 (.take 11 (.take 12 (.alt 13 .done .no))) .no) .no)) .no) (.alt 7 (.take 8 (.alt 4 (.alt 9 (.alt 10 (.take 11 (.take 12 (.alt 13 .done .no))) .no) .no) (.alt 9 (.take 4 (.alt 10 (.take 11 (.take 12 (.alt 13 .done .no))) .no)) .no))) .no)))))))) | false => (match decide (i = 2) with | true => (.take 0 (.take 1 (.take 2 (.take 4 (.take 5 (.alt 3 (.alt 6 (.take 7 (.take 8 (.alt 9 .done .no))) .no) (.alt 6 (.take 3 (.take 7 (.take 8 (.alt 9 .done .no)))) .no))))))) | false => .done)), fun i => (match decide (i = 3) with | true => some [false, false, false, false, false, false, false, false, false, false, false, false, false, false, false, false, false, false, false, false, false, false, false, false, false, false, false, false, false, false, false, false, false, false] | false => (match decide (i = 2) with | true => some [false, false, false, false, false, false, false, false, false, false, false, false, false, false, false, false, false, false, false, false, false, false, false, false, false, false, false, false, false, false, false, false, false, false] | false => none)), fun i => false, fun i => [], fun i => false, fun i => none, fun i => none⟩
def τ_s_l14Write : Env := Env.of [(2, (.int .i64)), (3, (.int .i64)), (4, .bool), (28, (.sl (.pair (.int .i64) (.pair (.sl (.int .u8)) .unit)))), (30, (.pair (.sl (.sl (.int .u8))) (.pair (.sl (.pair (.int .i64) (.pair (.sl (.int .u8)) .unit))) .unit))), (34, (.sl (.int .u8))), (120, (.pair (.int .i64) (.pair (.sl (.int .u8)) .unit)))] [(80, (.pair (.sl (.sl (.int .u8))) (.pair (.sl (.pair (.int .i64) (.pair (.sl (.int .u8)) .unit))) .unit)))] []

theorem ct_s_l14Write (d : (List (List (Int))) × (List ((Int) × (List (Int)) × Unit)) × Unit) (n : Int) (data : List (Int)) : Ct pg 121 [.mp (.pair (.sl (.sl (.int .u8))) (.pair (.sl (.pair (.int .i64) (.pair (.sl (.int .u8)) .unit))) .unit)) (.pr (.ow (.ow .sh)) (.pr (.ow (.pr .sh (.pr (.ow .sh) .sh))) .sh)) d, .dat (.int .i64) n, .dat (.sl (.int .u8)) data] ⟨[Q_s_l14Write d n data], [], [.mp (.pair (.sl (.sl (.int .u8))) (.pair (.sl (.pair (.int .i64) (.pair (.sl (.int .u8)) .unit))) .unit)) (.pr (.ow (.ow .sh)) (.pr (.ow (.pr .sh (.pr (.ow .sh) .sh))) .sh)) (B_s_l14Write_d d n data)]⟩ := by
  refine ct_claim (O := O_s_l14Write) (τ := τ_s_l14Write) (EnvOk.of (by kernel_rfl) (by kernel_rfl)) (GOk.of (.cons ok_s_l1Copy (.cons ok_s_l14Waits .nil) : AllOk pg [(77, con_s_l1Copy), (132, con_s_l14Waits)])) mixed (Enters.of (by kernel_rfl)) (fn := Go.Proofs.Try.f121) (by kernel_rfl) rfl (by kernel_rfl) ?_
  intro hp hw
  have hq : Q_s_l14Write d n data := hp _ (List.mem_singleton.2 rfl)
  clear hp
  change claim Lg.std Alg.std τ_s_l14Write (Gam.of [(77, con_s_l1Copy), (132, con_s_l14Waits)]) O_s_l14Write Go.Proofs.Try.f121 [.mp (.pair (.sl (.sl (.int .u8))) (.pair (.sl (.pair (.int .i64) (.pair (.sl (.int .u8)) .unit))) .unit)) (.pr (.ow (.ow .sh)) (.pr (.ow (.pr .sh (.pr (.ow .sh) .sh))) .sh)) d, .dat (.int .i64) n, .dat (.sl (.int .u8)) data] ⟨[Q_s_l14Write d n data], [], [.mp (.pair (.sl (.sl (.int .u8))) (.pair (.sl (.pair (.int .i64) (.pair (.sl (.int .u8)) .unit))) .unit)) (.pr (.ow (.ow .sh)) (.pr (.ow (.pr .sh (.pr (.ow .sh) .sh))) .sh)) (B_s_l14Write_d d n data)]⟩
  delta con_s_l1Copy con_s_l14Waits
  generalize hg_F_s_l1Copy : F_s_l1Copy = g_F_s_l1Copy
  generalize hg_Q_s_l1Copy : Q_s_l1Copy = g_Q_s_l1Copy
  generalize hg_F_s_l14Waits : F_s_l14Waits = g_F_s_l14Waits
  generalize hg_Q_s_l14Waits : Q_s_l14Waits = g_Q_s_l14Waits
  generalize hB_d : B_s_l14Write_d d n data = B_d
  generalize Q_s_l14Write d n data = Q0
  generalize hL : Lg.std = L
  generalize hA : Alg.std = A
  cbv
  subst hL hA
  try dsimp only [Ty.den]
  obtain ⟨d_0, d_1, ⟨⟩⟩ := d
  have hr := findG_range (fun x : PutT => decide (x.1 = n)) d_1 0 (by omega)
  subst hB_d hg_F_s_l1Copy hg_Q_s_l1Copy hg_F_s_l14Waits hg_Q_s_l14Waits
  simp only [Q_s_l14Write] at hq
  simp only [Lg.std, Alg.std, List.drop_zero, List.take_length, F_s_l1Copy, F_s_l14Waits, Q_s_l1Copy, Q_s_l14Waits, B_s_l14Write_d, writeD, putD] at *
  try simp only [true_and, and_true, false_implies, implies_true, imp_self]
  generalize findG (fun x : PutT => decide (x.1 = n)) d_1 0 = k at *
  (try generalize d_1.getD k.toNat (0, [], ()) = xa at *); (try obtain ⟨xa0, xa1, ⟨⟩⟩ := xa); (try dsimp only at *)
  repeat' (first | intro _ | apply And.intro)
  all_goals grind
def con_s_l14Write : Con := ⟨true, g3 (pW (.pair (.sl (.sl (.int .u8))) (.pair (.sl (.pair (.int .i64) (.pair (.sl (.int .u8)) .unit))) .unit)) (.pr (.ow (.ow .sh)) (.pr (.ow (.pr .sh (.pr (.ow .sh) .sh))) .sh))) (pD (.int .i64)) (pD (.sl (.int .u8))) fun d n data => .one ⟨[Q_s_l14Write d n data], [], [.mp (.pair (.sl (.sl (.int .u8))) (.pair (.sl (.pair (.int .i64) (.pair (.sl (.int .u8)) .unit))) .unit)) (.pr (.ow (.ow .sh)) (.pr (.ow (.pr .sh (.pr (.ow .sh) .sh))) .sh)) (B_s_l14Write_d d n data)]⟩, [(.pr (.ow (.ow .sh)) (.pr (.ow (.pr .sh (.pr (.ow .sh) .sh))) .sh))], false, 0⟩
theorem ok_s_l14Write : ConOk pg 121 con_s_l14Write := ConOk.g3 (Enters.of (by kernel_rfl)) ct_s_l14Write
end Go.Vee
