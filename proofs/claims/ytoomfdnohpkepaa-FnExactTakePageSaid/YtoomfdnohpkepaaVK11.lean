/-
  Contracts of functions of the program: what each returns for all arguments that its precondition lets in.
-/
import Derived.Test.YtoomfdnohpkepaaVK10
set_option linter.unusedSimpArgs false
set_option linter.unusedVariables false
set_option maxRecDepth 100000
set_option maxHeartbeats 4000000
set_option synthInstance.maxHeartbeats 4000000
set_option synthInstance.maxSize 20000
namespace Go.Vee
open Go
theorem take_add {α : Type} (l : List α) (d : α) (i : Nat) (h : i < l.length) : l.take (i + 1) = l.take i ++ [l.getD i d] := by
  rw [List.take_add_one, List.getElem?_eq_getElem h]; simp [List.getD_eq_getElem?_getD, h]
theorem firstNZ_drop (l : List Int) (i : Nat) (h : i < l.length) : firstNZ (l.drop i) = if l.getD i 0 ≠ 0 then l.getD i 0 else firstNZ (l.drop (i + 1)) := by
  rw [drop_cons l 0 i h]; rfl
theorem firstNZ_end (l : List Int) (i : Nat) (h : l.length ≤ i) : firstNZ (l.drop i) = 0 := by rw [drop_nil l i h]; rfl
theorem put_eta (p : PutT) : (p.1, p.2.1, ()) = p := rfl
theorem tot_puts_at (a : List PutT) (i : Nat) (h : i < a.length) : (a.getD i putD).2.1.length < tot (.sl tPut) a := by
  have := tot_at tPut a putD i h
  rw [tot_putv] at this; exact this
theorem tot_secs_at (a : List (List Int)) (i : Nat) (h : i < a.length) : (a.getD i []).length < tot (.sl (.sl (.int .u8))) a := by
  have := tot_at (.sl (.int .u8)) a [] i h
  rw [tot_int] at this; exact this

def F_i_ownPuts (list : List ((Int) × (List (Int)) × Unit)) : List ((Int) × (List (Int)) × Unit) := list
def Q_i_ownPuts (list : List ((Int) × (List (Int)) × Unit)) : Prop := tot (.sl tPut) list ≤ 1048576
def O_i_ownPuts : Opt := ⟨fun i => false, fun i => (match decide (i = 3) with | true => [false, false, false, true, false, false, false, true, true, true, false, false, false, false, false, false, false, false, false, false, false, false, false, false] | false => []), fun i => (match decide (i = 5) with | true => (.take 0 (.take 1 (.take 3 (.alt 2 (.alt 4 (.alt 5 (.take 6 (.alt 7 (.alt 8 (.take 9 .done) .no) .no)) .no) .no) (.alt 4 (.alt 2 (.alt 5 (.take 6 (.alt 7 (.alt 8 (.take 9 .done) .no) .no)) .no) (.alt 5 (.alt 2 (.take 6 (.alt 7 (.alt 8 (.take 9 .done) .no) .no)) .no) .no)) .no))))) | false => .done), fun i => (match decide (i = 5) with | true => some [false, false, false, true, false, false, false, true, true, true, false, false, false, false, false, false, false, false, false, false, false, false, false, false] | false => none), fun i => false, fun i => []⟩
def τ_i_ownPuts : Env := Env.of [(2, (.int .i64)), (3, (.int .i64)), (26, (.sl (.int .u8))), (28, (.sl (.pair (.int .i64) (.pair (.sl (.int .u8)) .unit)))), (145, (.pair (.int .i64) (.pair (.sl (.int .u8)) .unit)))] [] []

theorem ct_i_ownPuts (list : List ((Int) × (List (Int)) × Unit)) : Ct pg 151 [.dat (.sl (.pair (.int .i64) (.pair (.sl (.int .u8)) .unit))) list] ⟨[Q_i_ownPuts list], [⟨(.sl (.pair (.int .i64) (.pair (.sl (.int .u8)) .unit))), (.ow (.pr .sh (.pr (.ow .sh) .sh))), F_i_ownPuts list⟩], []⟩ := by
  refine ct_claim (O := O_i_ownPuts) (τ := τ_i_ownPuts) (EnvOk.of (by kernel_rfl) (by kernel_rfl)) (GOk.of (.cons ok_sl_Clone_byte .nil : AllOk pg [(152, con_sl_Clone_byte)])) mixed (Enters.of (by kernel_rfl)) (fn := Go.Proofs.Try.f151) (by kernel_rfl) rfl (by kernel_rfl) ?_
  intro hp hw
  have hq : Q_i_ownPuts list := hp _ (List.mem_singleton.2 rfl)
  clear hp
  change claim Lg.std Alg.std τ_i_ownPuts (Gam.of [(152, ⟨true, g1 (pD (.sl (.int .u8))) fun s => ⟨[Q_sl_Clone_byte s], [⟨(.sl (.int .u8)), (.ow .sh), F_sl_Clone_byte s⟩], []⟩, [], false, 0⟩)]) O_i_ownPuts Go.Proofs.Try.f151 [.dat (.sl (.pair (.int .i64) (.pair (.sl (.int .u8)) .unit))) list] ⟨[Q_i_ownPuts list], [⟨(.sl (.pair (.int .i64) (.pair (.sl (.int .u8)) .unit))), (.ow (.pr .sh (.pr (.ow .sh) .sh))), F_i_ownPuts list⟩], []⟩
  generalize hg_F_sl_Clone_byte : F_sl_Clone_byte = g_F_sl_Clone_byte
  generalize hg_Q_sl_Clone_byte : Q_sl_Clone_byte = g_Q_sl_Clone_byte
  generalize hR0 : F_i_ownPuts list = R0
  generalize Q_i_ownPuts list = Q0
  generalize hL : Lg.std = L
  generalize hA : Alg.std = A
  cbv
  subst hL hA
  try dsimp only [Ty.den]
  simp only [Q_i_ownPuts] at hq
  have hle := tot_len tPut list
  refine lp_v (V := (Int) × (Int) × (Nat) × (List ((Int) × (List (Int)) × Unit))) (fun ((i, M, N, xs) : (Int) × (Int) × (Nat) × (List ((Int) × (List (Int)) × Unit))) => ⟨[.junk, .junk, .junk, .ref (.pair (.int .i64) (.pair (.sl (.int .u8)) .unit)) 0 0 [] 0 N, .junk, .junk, .junk, .dat (.sl (.pair (.int .i64) (.pair (.sl (.int .u8)) .unit))) list, .dat (.int .i64) M, .dat (.int .i64) i, .junk, .junk, .junk, .junk, .junk, .junk, .junk, .junk, .junk, .junk, .junk, .junk, .junk, .junk], [some (.row 0 (.pair (.int .i64) (.pair (.sl (.int .u8)) .unit)) (.pr .sh (.pr (.ow .sh) .sh)) xs)]⟩) (fun ((i, M, N, xs) : (Int) × (Int) × (Nat) × (List ((Int) × (List (Int)) × Unit))) => M = list.length ∧ N = xs.length ∧ 0 ≤ i ∧ i ≤ list.length ∧ xs = list.take i.toNat) (fun ((i, M, N, xs) : (Int) × (Int) × (Nat) × (List ((Int) × (List (Int)) × Unit))) => list.length - i.toNat) (0, _, _, _) rfl ?_ ?_
  · simp [Alg.std]
  rintro ⟨i, M, N, xs⟩ hf I hI
  replace hf : M = list.length ∧ N = xs.length ∧ 0 ≤ i ∧ i ≤ list.length ∧ xs = list.take i.toNat := hf
  generalize hL : Lg.std = L
  generalize hA : Alg.std = A
  cbv
  subst hL hA
  try dsimp only [Ty.den]
  subst hI
  obtain ⟨h1, h2, h3, h4, h5⟩ := hf
  have ht := fun (h : i.toNat < list.length) => take_add list putD i.toNat h
  have ha := fun (h : i.toNat < list.length) => tot_puts_at list i.toNat h
  have hsu : (i + 1).toNat = i.toNat + 1 := by omega
  have h4' : i ≤ (list.length : Int) := h4
  have hxl : xs.length = i.toNat := by rw [h5, List.length_take]; exact Nat.min_eq_left (by omega)
  have hta := fun (h : list.length ≤ i.toNat) => List.take_of_length_le h
  try dsimp only [putD] at ht ha
  repeat' (first | intro _ | apply And.intro)
  all_goals first | (with_reducible exact True.intro) | ((fail_if_success (refine lp_v (V := Unit) (fun _ => ⟨[], []⟩) (fun _ => True) (fun _ => 0) () ?_ ?_ ?_)); (try simp only [Lg.std, Alg.std, List.drop_zero, List.take_length] at *); (try refine ⟨(_, _, _, _), rfl, ?_, ?_⟩); (all_goals (subst hR0 hg_F_sl_Clone_byte hg_Q_sl_Clone_byte; (try simp only [Lg.std, Alg.std, List.drop_zero, List.take_length, F_sl_Clone_byte, Q_sl_Clone_byte, F_i_ownPuts] at *); first | done | ((try generalize list.getD i.toNat (0, [], ()) = xa at *); (try obtain ⟨xa0, xa1, ⟨⟩⟩ := xa); (try dsimp only at *); grind)))) | skip
def con_i_ownPuts : Con := ⟨true, g1 (pD (.sl (.pair (.int .i64) (.pair (.sl (.int .u8)) .unit)))) fun list => ⟨[Q_i_ownPuts list], [⟨(.sl (.pair (.int .i64) (.pair (.sl (.int .u8)) .unit))), (.ow (.pr .sh (.pr (.ow .sh) .sh))), F_i_ownPuts list⟩], []⟩, [], false, 0⟩
theorem ok_i_ownPuts : ConOk pg 151 con_i_ownPuts := ConOk.g1 (Enters.of (by kernel_rfl)) ct_i_ownPuts

def F_i_ownDisk (d : (List (List (Int))) × (List ((Int) × (List (Int)) × Unit)) × Unit) : (List (List (Int))) × (List ((Int) × (List (Int)) × Unit)) × Unit := d
def Q_i_ownDisk (d : (List (List (Int))) × (List ((Int) × (List (Int)) × Unit)) × Unit) : Prop := tot tDisk d ≤ 1048576
def O_i_ownDisk : Opt := ⟨fun i => false, fun i => (match decide (i = 3) with | true => [false, false, true, true, false, false, false, false, false, false, false, true, true, true, false, false, false, false, false, false, false, false, false, false, false, false] | false => []), fun i => (match decide (i = 5) with | true => (.take 0 (.take 2 (.alt 1 (.alt 3 (.alt 4 (.alt 5 (.take 6 (.alt 7 .done .no)) .no) .no) .no) (.alt 3 (.alt 1 (.alt 4 (.alt 5 (.take 6 (.alt 7 .done .no)) .no) .no) (.alt 4 (.alt 1 (.alt 5 (.take 6 (.alt 7 .done .no)) .no) .no) .no)) .no)))) | false => .done), fun i => (match decide (i = 5) with | true => some [false, false, true, true, false, false, false, false, false, false, false, true, true, true, false, false, false, false, false, false, false, false, false, false, false, false] | false => none), fun i => (match decide (i = 3) with | true => true | false => false), fun i => (match decide (i = 3) with | true => [(3, some 0, (.sl (.int .u8)), (.ow .sh))] | false => [])⟩
def τ_i_ownDisk : Env := Env.of [(2, (.int .i64)), (3, (.int .i64)), (22, (.sl (.sl (.int .u8)))), (26, (.sl (.int .u8))), (28, (.sl (.pair (.int .i64) (.pair (.sl (.int .u8)) .unit)))), (30, (.pair (.sl (.sl (.int .u8))) (.pair (.sl (.pair (.int .i64) (.pair (.sl (.int .u8)) .unit))) .unit)))] [] []

theorem ct_i_ownDisk (d : (List (List (Int))) × (List ((Int) × (List (Int)) × Unit)) × Unit) : Ct pg 90 [.dat (.pair (.sl (.sl (.int .u8))) (.pair (.sl (.pair (.int .i64) (.pair (.sl (.int .u8)) .unit))) .unit)) d] ⟨[Q_i_ownDisk d], [⟨(.pair (.sl (.sl (.int .u8))) (.pair (.sl (.pair (.int .i64) (.pair (.sl (.int .u8)) .unit))) .unit)), (.pr (.ow (.ow .sh)) (.pr (.ow (.pr .sh (.pr (.ow .sh) .sh))) .sh)), F_i_ownDisk d⟩], []⟩ := by
  refine ct_claim (O := O_i_ownDisk) (τ := τ_i_ownDisk) (EnvOk.of (by kernel_rfl) (by kernel_rfl)) (GOk.of (.cons ok_sl_Clone_byte (.cons ok_i_ownPuts .nil) : AllOk pg [(152, con_sl_Clone_byte), (151, con_i_ownPuts)])) mixed (Enters.of (by kernel_rfl)) (fn := Go.Proofs.Try.f90) (by kernel_rfl) rfl (by kernel_rfl) ?_
  intro hp hw
  have hq : Q_i_ownDisk d := hp _ (List.mem_singleton.2 rfl)
  clear hp
  change claim Lg.std Alg.std τ_i_ownDisk (Gam.of [(152, ⟨true, g1 (pD (.sl (.int .u8))) fun s => ⟨[Q_sl_Clone_byte s], [⟨(.sl (.int .u8)), (.ow .sh), F_sl_Clone_byte s⟩], []⟩, [], false, 0⟩), (151, ⟨true, g1 (pD (.sl (.pair (.int .i64) (.pair (.sl (.int .u8)) .unit)))) fun list => ⟨[Q_i_ownPuts list], [⟨(.sl (.pair (.int .i64) (.pair (.sl (.int .u8)) .unit))), (.ow (.pr .sh (.pr (.ow .sh) .sh))), F_i_ownPuts list⟩], []⟩, [], false, 0⟩)]) O_i_ownDisk Go.Proofs.Try.f90 [.dat (.pair (.sl (.sl (.int .u8))) (.pair (.sl (.pair (.int .i64) (.pair (.sl (.int .u8)) .unit))) .unit)) d] ⟨[Q_i_ownDisk d], [⟨(.pair (.sl (.sl (.int .u8))) (.pair (.sl (.pair (.int .i64) (.pair (.sl (.int .u8)) .unit))) .unit)), (.pr (.ow (.ow .sh)) (.pr (.ow (.pr .sh (.pr (.ow .sh) .sh))) .sh)), F_i_ownDisk d⟩], []⟩
  generalize hg_F_sl_Clone_byte : F_sl_Clone_byte = g_F_sl_Clone_byte
  generalize hg_Q_sl_Clone_byte : Q_sl_Clone_byte = g_Q_sl_Clone_byte
  generalize hg_F_i_ownPuts : F_i_ownPuts = g_F_i_ownPuts
  generalize hg_Q_i_ownPuts : Q_i_ownPuts = g_Q_i_ownPuts
  generalize hR0 : F_i_ownDisk d = R0
  generalize Q_i_ownDisk d = Q0
  generalize hL : Lg.std = L
  generalize hA : Alg.std = A
  cbv
  subst hL hA
  try dsimp only [Ty.den]
  obtain ⟨d_0, d_1, ⟨⟩⟩ := d
  simp only [Q_i_ownDisk] at hq
  have hle0 := tot_len (.sl (.int .u8)) d_0
  have hle1 := tot_len tPut d_1
  have hqd : tot (.sl (.sl (.int .u8))) d_0 + tot (.sl tPut) d_1 ≤ 1048576 := by simp only [tot_p, tot_u] at hq; omega
  repeat' (first | intro _ | apply And.intro)
  all_goals first | trivial | ((fail_if_success (refine lp_v (V := Unit) (fun _ => ⟨[], []⟩) (fun _ => True) (fun _ => 0) () ?_ ?_ ?_)); subst hR0 hg_F_sl_Clone_byte hg_Q_sl_Clone_byte hg_F_i_ownPuts hg_Q_i_ownPuts; (try simp only [Alg.std, F_sl_Clone_byte, F_i_ownPuts, Q_sl_Clone_byte, Q_i_ownPuts, F_i_ownDisk] at *); all_goals grind) | skip
  refine lp_v (V := (Int) × (Int) × (Nat) × (List (List Int)) × (Nat) × (List ((Int) × (List (Int)) × Unit))) (fun ((i, M, N, xs, K, ps) : (Int) × (Int) × (Nat) × (List (List Int)) × (Nat) × (List ((Int) × (List (Int)) × Unit))) => ⟨[.junk, .junk, .bptr 0 0, .bptr 1 0, .junk, .junk, .junk, .junk, .junk, .junk, .junk, .dat (.sl (.sl (.int .u8))) d_0, .dat (.int .i64) M, .dat (.int .i64) i, .junk, .junk, .junk, .junk, .junk, .junk, .junk, .junk, .junk, .junk, .junk, .junk], [some (.box [.nilS, .nilS]), some (.box [.ref (.sl (.int .u8)) 2 0 [] 0 N, .ref (.pair (.int .i64) (.pair (.sl (.int .u8)) .unit)) 3 0 [] 0 K]), some (.row 0 (.sl (.int .u8)) (.ow .sh) xs), some (.row 0 (.pair (.int .i64) (.pair (.sl (.int .u8)) .unit)) (.pr .sh (.pr (.ow .sh) .sh)) ps)]⟩) (fun ((i, M, N, xs, K, ps) : (Int) × (Int) × (Nat) × (List (List Int)) × (Nat) × (List ((Int) × (List (Int)) × Unit))) => M = d_0.length ∧ K = d_1.length ∧ ps = d_1 ∧ N = xs.length ∧ 0 ≤ i ∧ i ≤ d_0.length ∧ xs = d_0.take i.toNat) (fun ((i, M, N, xs, K, ps) : (Int) × (Int) × (Nat) × (List (List Int)) × (Nat) × (List ((Int) × (List (Int)) × Unit))) => d_0.length - i.toNat) (0, _, _, _, _, _) rfl ?_ ?_
  · subst hR0 hg_F_sl_Clone_byte hg_Q_sl_Clone_byte hg_F_i_ownPuts hg_Q_i_ownPuts
    (try simp only [Alg.std, F_sl_Clone_byte, F_i_ownPuts, Q_sl_Clone_byte, Q_i_ownPuts, F_i_ownDisk] at *)
    all_goals grind
  rintro ⟨i, M, N, xs, K, ps⟩ hf I hI
  replace hf : M = d_0.length ∧ K = d_1.length ∧ ps = d_1 ∧ N = xs.length ∧ 0 ≤ i ∧ i ≤ d_0.length ∧ xs = d_0.take i.toNat := hf
  generalize hL : Lg.std = L
  generalize hA : Alg.std = A
  cbv
  subst hL hA
  try dsimp only [Ty.den]
  subst hI
  obtain ⟨h1, h2, h3, h4, h5, h6, h7⟩ := hf
  have h6' : i ≤ (d_0.length : Int) := h6
  have ht := fun (h : i.toNat < d_0.length) => take_add d_0 [] i.toNat h
  have ha := fun (h : i.toNat < d_0.length) => tot_secs_at d_0 i.toNat h
  have hsu : (i + 1).toNat = i.toNat + 1 := by omega
  have hxl : xs.length = i.toNat := by rw [h7, List.length_take]; exact Nat.min_eq_left (by omega)
  have hta := fun (h : d_0.length ≤ i.toNat) => List.take_of_length_le h
  try dsimp only [putD] at ht ha
  repeat' (first | intro _ | apply And.intro)
  all_goals first | (with_reducible exact True.intro) | ((fail_if_success (refine lp_v (V := Unit) (fun _ => ⟨[], []⟩) (fun _ => True) (fun _ => 0) () ?_ ?_ ?_)); (try simp only [Lg.std, Alg.std, List.drop_zero, List.take_length] at *); (try refine ⟨(_, _, _, _, _, _), rfl, ?_, ?_⟩); (all_goals (subst hR0 hg_F_sl_Clone_byte hg_Q_sl_Clone_byte hg_F_i_ownPuts hg_Q_i_ownPuts; (try simp only [Lg.std, Alg.std, List.drop_zero, List.take_length, F_sl_Clone_byte, F_i_ownPuts, Q_sl_Clone_byte, Q_i_ownPuts, F_i_ownDisk] at *); first | done | (grind)))) | skip
def con_i_ownDisk : Con := ⟨true, g1 (pD (.pair (.sl (.sl (.int .u8))) (.pair (.sl (.pair (.int .i64) (.pair (.sl (.int .u8)) .unit))) .unit))) fun d => ⟨[Q_i_ownDisk d], [⟨(.pair (.sl (.sl (.int .u8))) (.pair (.sl (.pair (.int .i64) (.pair (.sl (.int .u8)) .unit))) .unit)), (.pr (.ow (.ow .sh)) (.pr (.ow (.pr .sh (.pr (.ow .sh) .sh))) .sh)), F_i_ownDisk d⟩], []⟩, [], false, 0⟩
theorem ok_i_ownDisk : ConOk pg 90 con_i_ownDisk := ConOk.g1 (Enters.of (by kernel_rfl)) ct_i_ownDisk

def F_s_l14Copy (d : (List (List (Int))) × (List ((Int) × (List (Int)) × Unit)) × Unit) : (List (List (Int))) × (List ((Int) × (List (Int)) × Unit)) × Unit := d
def Q_s_l14Copy (d : (List (List (Int))) × (List ((Int) × (List (Int)) × Unit)) × Unit) : Prop := tot tDisk d ≤ 1048576
def O_s_l14Copy : Opt := ⟨fun i => false, fun i => (match decide (i = 7) with | true => [true, false, true, true, false, true, false, false, false, false, false, false, false, false, false, false, false, false, false, false, false, false, false, false, false, false, false, false, false, false, false, false, false, false, false, false, false, false, false, false, false, false, false, false, false, false, false, false, false, false, false, false, false, false, false, false, false, false, false, false, false, false] | false => (match decide (i = 3) with | true => [true, false, true, true, true, false, false, false, false, false, false, false, false, false, false, false, false, false, false, false, false, false, false, false, false, false, false, false, false, false, false, false, false, false, false, false, false, false, false, false, false, false, false, false, false, false, false, false, false, false, false, false, false, false, false, false, false, false, false, false, false, false] | false => [])), fun i => (match decide (i = 9) with | true => (.take 0 (.take 2 (.take 3 (.take 4 (.take 6 (.take 10 (.take 11 (.take 12 (.take 14 (.alt 1 (.alt 5 (.take 7 (.take 8 (.alt 9 (.alt 13 (.take 15 (.take 16 (.alt 17 (.alt 18 (.take 19 (.alt 20 (.alt 21 (.take 22 (.alt 23 .done .no)) .no) .no)) .no) .no))) .no) (.alt 13 (.take 15 (.take 16 (.alt 9 (.alt 17 (.alt 18 (.take 19 (.alt 20 (.alt 21 (.take 22 (.alt 23 .done .no)) .no) .no)) .no) .no) (.alt 17 (.alt 9 (.alt 18 (.take 19 (.alt 20 (.alt 21 (.take 22 (.alt 23 .done .no)) .no) .no)) .no) (.alt 18 (.alt 9 (.take 19 (.alt 20 (.alt 21 (.take 22 (.alt 23 .done .no)) .no) .no)) .no) .no)) .no)))) .no)))) (.alt 13 (.take 15 (.take 16 (.alt 5 (.take 7 (.take 8 (.alt 9 (.alt 17 (.alt 18 (.take 19 (.alt 20 (.alt 21 (.take 22 (.alt 23 .done .no)) .no) .no)) .no) .no) (.alt 17 (.alt 9 (.alt 18 (.take 19 (.alt 20 (.alt 21 (.take 22 (.alt 23 .done .no)) .no) .no)) .no) (.alt 18 (.alt 9 (.take 19 (.alt 20 (.alt 21 (.take 22 (.alt 23 .done .no)) .no) .no)) .no) .no)) .no)))) (.alt 17 (.alt 5 (.take 7 (.take 8 (.alt 9 (.alt 18 (.take 19 (.alt 20 (.alt 21 (.take 22 (.alt 23 .done .no)) .no) .no)) .no) (.alt 18 (.alt 9 (.take 19 (.alt 20 (.alt 21 (.take 22 (.alt 23 .done .no)) .no) .no)) .no) .no)))) (.alt 18 (.alt 5 (.take 7 (.take 8 (.alt 9 (.take 19 (.alt 20 (.alt 21 (.take 22 (.alt 23 .done .no)) .no) .no)) .no))) .no) .no)) .no)))) .no)) (.alt 5 (.take 7 (.take 8 (.alt 1 (.alt 9 (.alt 13 (.take 15 (.take 16 (.alt 17 (.alt 18 (.take 19 (.alt 20 (.alt 21 (.take 22 (.alt 23 .done .no)) .no) .no)) .no) .no))) .no) (.alt 13 (.take 15 (.take 16 (.alt 9 (.alt 17 (.alt 18 (.take 19 (.alt 20 (.alt 21 (.take 22 (.alt 23 .done .no)) .no) .no)) .no) .no) (.alt 17 (.alt 9 (.alt 18 (.take 19 (.alt 20 (.alt 21 (.take 22 (.alt 23 .done .no)) .no) .no)) .no) (.alt 18 (.alt 9 (.take 19 (.alt 20 (.alt 21 (.take 22 (.alt 23 .done .no)) .no) .no)) .no) .no)) .no)))) .no)) (.alt 9 (.alt 1 (.alt 13 (.take 15 (.take 16 (.alt 17 (.alt 18 (.take 19 (.alt 20 (.alt 21 (.take 22 (.alt 23 .done .no)) .no) .no)) .no) .no))) .no) (.alt 13 (.take 15 (.take 16 (.alt 1 (.alt 17 (.alt 18 (.take 19 (.alt 20 (.alt 21 (.take 22 (.alt 23 .done .no)) .no) .no)) .no) .no) (.alt 17 (.alt 1 (.alt 18 (.take 19 (.alt 20 (.alt 21 (.take 22 (.alt 23 .done .no)) .no) .no)) .no) (.alt 18 (.take 19 (.alt 1 (.alt 20 (.alt 21 (.take 22 (.alt 23 .done .no)) .no) .no) (.alt 20 (.alt 1 (.alt 21 (.take 22 (.alt 23 .done .no)) .no) .no) .no))) .no)) .no)))) .no)) (.alt 13 (.take 15 (.take 16 (.alt 1 (.alt 9 (.alt 17 (.alt 18 (.take 19 (.alt 20 (.alt 21 (.take 22 (.alt 23 .done .no)) .no) .no)) .no) .no) (.alt 17 (.alt 9 (.alt 18 (.take 19 (.alt 20 (.alt 21 (.take 22 (.alt 23 .done .no)) .no) .no)) .no) (.alt 18 (.alt 9 (.take 19 (.alt 20 (.alt 21 (.take 22 (.alt 23 .done .no)) .no) .no)) .no) .no)) .no)) (.alt 9 (.alt 1 (.alt 17 (.alt 18 (.take 19 (.alt 20 (.alt 21 (.take 22 (.alt 23 .done .no)) .no) .no)) .no) .no) (.alt 17 (.alt 1 (.alt 18 (.take 19 (.alt 20 (.alt 21 (.take 22 (.alt 23 .done .no)) .no) .no)) .no) (.alt 18 (.take 19 (.alt 1 (.alt 20 (.alt 21 (.take 22 (.alt 23 .done .no)) .no) .no) (.alt 20 (.alt 1 (.alt 21 (.take 22 (.alt 23 .done .no)) .no) .no) .no))) .no)) .no)) (.alt 17 (.alt 1 (.alt 9 (.alt 18 (.take 19 (.alt 20 (.alt 21 (.take 22 (.alt 23 .done .no)) .no) .no)) .no) (.alt 18 (.alt 9 (.take 19 (.alt 20 (.alt 21 (.take 22 (.alt 23 .done .no)) .no) .no)) .no) .no)) (.alt 9 (.alt 1 (.alt 18 (.take 19 (.alt 20 (.alt 21 (.take 22 (.alt 23 .done .no)) .no) .no)) .no) (.alt 18 (.take 19 (.alt 1 (.alt 20 (.alt 21 (.take 22 (.alt 23 .done .no)) .no) .no) (.alt 20 (.alt 1 (.alt 21 (.take 22 (.alt 23 .done .no)) .no) .no) .no))) .no)) (.alt 18 (.alt 1 (.alt 9 (.take 19 (.alt 20 (.alt 21 (.take 22 (.alt 23 .done .no)) .no) .no)) .no) (.alt 9 (.take 19 (.alt 1 (.alt 20 (.alt 21 (.take 22 (.alt 23 .done .no)) .no) .no) (.alt 20 (.alt 1 (.alt 21 (.take 22 (.alt 23 .done .no)) .no) .no) .no))) .no)) .no))) .no))))) .no))))) (.alt 13 (.take 15 (.take 16 (.alt 1 (.alt 5 (.take 7 (.take 8 (.alt 9 (.alt 17 (.alt 18 (.take 19 (.alt 20 (.alt 21 (.take 22 (.alt 23 .done .no)) .no) .no)) .no) .no) (.alt 17 (.alt 9 (.alt 18 (.take 19 (.alt 20 (.alt 21 (.take 22 (.alt 23 .done .no)) .no) .no)) .no) (.alt 18 (.alt 9 (.take 19 (.alt 20 (.alt 21 (.take 22 (.alt 23 .done .no)) .no) .no)) .no) .no)) .no)))) (.alt 17 (.alt 5 (.take 7 (.take 8 (.alt 9 (.alt 18 (.take 19 (.alt 20 (.alt 21 (.take 22 (.alt 23 .done .no)) .no) .no)) .no) (.alt 18 (.alt 9 (.take 19 (.alt 20 (.alt 21 (.take 22 (.alt 23 .done .no)) .no) .no)) .no) .no)))) (.alt 18 (.alt 5 (.take 7 (.take 8 (.alt 9 (.take 19 (.alt 20 (.alt 21 (.take 22 (.alt 23 .done .no)) .no) .no)) .no))) .no) .no)) .no)) (.alt 5 (.take 7 (.take 8 (.alt 1 (.alt 9 (.alt 17 (.alt 18 (.take 19 (.alt 20 (.alt 21 (.take 22 (.alt 23 .done .no)) .no) .no)) .no) .no) (.alt 17 (.alt 9 (.alt 18 (.take 19 (.alt 20 (.alt 21 (.take 22 (.alt 23 .done .no)) .no) .no)) .no) (.alt 18 (.alt 9 (.take 19 (.alt 20 (.alt 21 (.take 22 (.alt 23 .done .no)) .no) .no)) .no) .no)) .no)) (.alt 9 (.alt 1 (.alt 17 (.alt 18 (.take 19 (.alt 20 (.alt 21 (.take 22 (.alt 23 .done .no)) .no) .no)) .no) .no) (.alt 17 (.alt 1 (.alt 18 (.take 19 (.alt 20 (.alt 21 (.take 22 (.alt 23 .done .no)) .no) .no)) .no) (.alt 18 (.take 19 (.alt 1 (.alt 20 (.alt 21 (.take 22 (.alt 23 .done .no)) .no) .no) (.alt 20 (.alt 1 (.alt 21 (.take 22 (.alt 23 .done .no)) .no) .no) .no))) .no)) .no)) (.alt 17 (.alt 1 (.alt 9 (.alt 18 (.take 19 (.alt 20 (.alt 21 (.take 22 (.alt 23 .done .no)) .no) .no)) .no) (.alt 18 (.alt 9 (.take 19 (.alt 20 (.alt 21 (.take 22 (.alt 23 .done .no)) .no) .no)) .no) .no)) (.alt 9 (.alt 1 (.alt 18 (.take 19 (.alt 20 (.alt 21 (.take 22 (.alt 23 .done .no)) .no) .no)) .no) (.alt 18 (.take 19 (.alt 1 (.alt 20 (.alt 21 (.take 22 (.alt 23 .done .no)) .no) .no) (.alt 20 (.alt 1 (.alt 21 (.take 22 (.alt 23 .done .no)) .no) .no) .no))) .no)) (.alt 18 (.alt 1 (.alt 9 (.take 19 (.alt 20 (.alt 21 (.take 22 (.alt 23 .done .no)) .no) .no)) .no) (.alt 9 (.take 19 (.alt 1 (.alt 20 (.alt 21 (.take 22 (.alt 23 .done .no)) .no) .no) (.alt 20 (.alt 1 (.alt 21 (.take 22 (.alt 23 .done .no)) .no) .no) .no))) .no)) .no))) .no))))) (.alt 17 (.alt 1 (.alt 5 (.take 7 (.take 8 (.alt 9 (.alt 18 (.take 19 (.alt 20 (.alt 21 (.take 22 (.alt 23 .done .no)) .no) .no)) .no) (.alt 18 (.alt 9 (.take 19 (.alt 20 (.alt 21 (.take 22 (.alt 23 .done .no)) .no) .no)) .no) .no)))) (.alt 18 (.alt 5 (.take 7 (.take 8 (.alt 9 (.take 19 (.alt 20 (.alt 21 (.take 22 (.alt 23 .done .no)) .no) .no)) .no))) .no) .no)) (.alt 5 (.take 7 (.take 8 (.alt 1 (.alt 9 (.alt 18 (.take 19 (.alt 20 (.alt 21 (.take 22 (.alt 23 .done .no)) .no) .no)) .no) (.alt 18 (.alt 9 (.take 19 (.alt 20 (.alt 21 (.take 22 (.alt 23 .done .no)) .no) .no)) .no) .no)) (.alt 9 (.alt 1 (.alt 18 (.take 19 (.alt 20 (.alt 21 (.take 22 (.alt 23 .done .no)) .no) .no)) .no) (.alt 18 (.take 19 (.alt 1 (.alt 20 (.alt 21 (.take 22 (.alt 23 .done .no)) .no) .no) (.alt 20 (.alt 1 (.alt 21 (.take 22 (.alt 23 .done .no)) .no) .no) .no))) .no)) (.alt 18 (.alt 1 (.alt 9 (.take 19 (.alt 20 (.alt 21 (.take 22 (.alt 23 .done .no)) .no) .no)) .no) (.alt 9 (.take 19 (.alt 1 (.alt 20 (.alt 21 (.take 22 (.alt 23 .done .no)) .no) .no) (.alt 20 (.alt 1 (.alt 21 (.take 22 (.alt 23 .done .no)) .no) .no) .no))) .no)) .no))))) (.alt 18 (.alt 1 (.alt 5 (.take 7 (.take 8 (.alt 9 (.take 19 (.alt 20 (.alt 21 (.take 22 (.alt 23 .done .no)) .no) .no)) .no))) .no) (.alt 5 (.take 7 (.take 8 (.alt 1 (.alt 9 (.take 19 (.alt 20 (.alt 21 (.take 22 (.alt 23 .done .no)) .no) .no)) .no) (.alt 9 (.take 19 (.alt 1 (.alt 20 (.alt 21 (.take 22 (.alt 23 .done .no)) .no) .no) (.alt 20 (.alt 1 (.alt 21 (.take 22 (.alt 23 .done .no)) .no) .no) .no))) .no)))) .no)) .no))) .no))))) .no)))))))))))) | false => (match decide (i = 5) with | true => (.take 0 (.take 2 (.take 3 (.take 4 (.take 6 (.alt 1 (.alt 5 (.take 7 (.alt 8 (.alt 9 (.alt 10 (.alt 11 (.take 12 (.alt 13 .done .no)) .no) .no) .no) .no)) .no) (.alt 5 (.take 7 (.alt 1 (.alt 8 (.alt 9 (.alt 10 (.alt 11 (.take 12 (.alt 13 .done .no)) .no) .no) .no) .no) (.alt 8 (.alt 1 (.alt 9 (.alt 10 (.alt 11 (.take 12 (.alt 13 .done .no)) .no) .no) .no) (.alt 9 (.alt 1 (.alt 10 (.alt 11 (.take 12 (.alt 13 .done .no)) .no) .no) (.alt 10 (.alt 1 (.alt 11 (.take 12 (.alt 13 .done .no)) .no) .no) .no)) .no)) .no))) .no))))))) | false => .done)), fun i => (match decide (i = 9) with | true => some [true, false, true, true, false, true, false, false, false, false, false, false, false, false, false, false, false, false, false, false, false, false, false, false, false, false, false, false, false, false, false, false, false, false, false, false, false, false, false, false, false, false, false, false, false, false, false, false, false, false, false, false, false, false, false, false, false, false, false, false, false, false] | false => (match decide (i = 5) with | true => some [true, false, true, true, true, false, false, false, false, false, false, false, false, false, false, false, false, false, false, false, false, false, false, false, false, false, false, false, false, false, false, false, false, false, false, false, false, false, false, false, false, false, false, false, false, false, false, false, false, false, false, false, false, false, false, false, false, false, false, false, false, false] | false => none)), fun i => (match decide (i = 7) with | true => true | false => (match decide (i = 3) with | true => true | false => false)), fun i => (match decide (i = 7) with | true => [(3, some 0, (.sl (.int .u8)), (.ow .sh)), (3, some 1, (.pair (.int .i64) (.pair (.sl (.int .u8)) .unit)), (.pr .sh (.pr (.ow .sh) .sh)))] | false => (match decide (i = 3) with | true => [(3, some 0, (.sl (.int .u8)), (.ow .sh))] | false => []))⟩
def τ_s_l14Copy : Env := Env.of [(2, (.int .i64)), (3, (.int .i64)), (4, .bool), (22, (.sl (.sl (.int .u8)))), (26, (.sl (.int .u8))), (28, (.sl (.pair (.int .i64) (.pair (.sl (.int .u8)) .unit)))), (30, (.pair (.sl (.sl (.int .u8))) (.pair (.sl (.pair (.int .i64) (.pair (.sl (.int .u8)) .unit))) .unit))), (145, (.pair (.int .i64) (.pair (.sl (.int .u8)) .unit)))] [(114, (.pair (.sl (.sl (.int .u8))) (.pair (.sl (.pair (.int .i64) (.pair (.sl (.int .u8)) .unit))) .unit)))] []

theorem ct_s_l14Copy (d : (List (List (Int))) × (List ((Int) × (List (Int)) × Unit)) × Unit) : Ct pg 83 [.dptr (.pair (.sl (.sl (.int .u8))) (.pair (.sl (.pair (.int .i64) (.pair (.sl (.int .u8)) .unit))) .unit)) d] ⟨[Q_s_l14Copy d], [⟨(.pair (.sl (.sl (.int .u8))) (.pair (.sl (.pair (.int .i64) (.pair (.sl (.int .u8)) .unit))) .unit)), (.pr (.ow (.ow .sh)) (.pr (.ow (.pr .sh (.pr (.ow .sh) .sh))) .sh)), F_s_l14Copy d⟩], []⟩ := by
  refine ct_claim (O := O_s_l14Copy) (τ := τ_s_l14Copy) (EnvOk.of (by kernel_rfl) (by kernel_rfl)) (GOk.of (.cons ok_s_l1Copy .nil : AllOk pg [(144, con_s_l1Copy)])) mixed (Enters.of (by kernel_rfl)) (fn := Go.Proofs.Try.f83) (by kernel_rfl) rfl (by kernel_rfl) ?_
  intro hp hw
  have hq : Q_s_l14Copy d := hp _ (List.mem_singleton.2 rfl)
  clear hp
  change claim Lg.std Alg.std τ_s_l14Copy (Gam.of [(144, ⟨true, g1 (pD (.sl (.int .u8))) fun data => ⟨[Q_s_l1Copy data], [⟨(.sl (.int .u8)), (.ow .sh), F_s_l1Copy data⟩], []⟩, [], false, 0⟩)]) O_s_l14Copy Go.Proofs.Try.f83 [.dptr (.pair (.sl (.sl (.int .u8))) (.pair (.sl (.pair (.int .i64) (.pair (.sl (.int .u8)) .unit))) .unit)) d] ⟨[Q_s_l14Copy d], [⟨(.pair (.sl (.sl (.int .u8))) (.pair (.sl (.pair (.int .i64) (.pair (.sl (.int .u8)) .unit))) .unit)), (.pr (.ow (.ow .sh)) (.pr (.ow (.pr .sh (.pr (.ow .sh) .sh))) .sh)), F_s_l14Copy d⟩], []⟩
  generalize hg_F_s_l1Copy : F_s_l1Copy = g_F_s_l1Copy
  generalize hg_Q_s_l1Copy : Q_s_l1Copy = g_Q_s_l1Copy
  generalize hR0 : F_s_l14Copy d = R0
  generalize Q_s_l14Copy d = Q0
  generalize hL : Lg.std = L
  generalize hA : Alg.std = A
  cbv
  subst hL hA
  try dsimp only [Ty.den]
  obtain ⟨d_0, d_1, ⟨⟩⟩ := d
  simp only [Q_s_l14Copy] at hq
  have hle0 := tot_len (.sl (.int .u8)) d_0
  have hle1 := tot_len tPut d_1
  have hqd : tot (.sl (.sl (.int .u8))) d_0 + tot (.sl tPut) d_1 ≤ 1048576 := by simp only [tot_p, tot_u] at hq; omega
  repeat' (first | intro _ | apply And.intro)
  all_goals first | trivial | ((fail_if_success (refine lp_v (V := Unit) (fun _ => ⟨[], []⟩) (fun _ => True) (fun _ => 0) () ?_ ?_ ?_)); subst hR0 hg_F_s_l1Copy hg_Q_s_l1Copy; (try simp only [Alg.std, F_s_l1Copy, Q_s_l1Copy, F_s_l14Copy] at *); all_goals grind) | skip
  refine lp_v (V := (Int) × (Nat) × (List (List Int))) (fun ((i, N, xs) : (Int) × (Nat) × (List (List Int))) => ⟨[.dptr (.pair (.sl (.sl (.int .u8))) (.pair (.sl (.pair (.int .i64) (.pair (.sl (.int .u8)) .unit))) .unit)) (d_0, d_1, PUnit.unit), .junk, .bptr 0 0, .bptr 1 0, .dat (.int .i64) i, .junk, .junk, .junk, .junk, .junk, .junk, .junk, .junk, .junk, .junk, .junk, .junk, .junk, .junk, .junk, .junk, .junk, .junk, .junk, .junk, .junk, .junk, .junk, .junk, .junk, .junk, .junk, .junk, .junk, .junk, .junk, .junk, .junk, .junk, .junk, .junk, .junk, .junk, .junk, .junk, .junk, .junk, .junk, .junk, .junk, .junk, .junk, .junk, .junk, .junk, .junk, .junk, .junk, .junk, .junk, .junk, .junk], [some (.box [.nilS, .nilS]), some (.box [.ref (.sl (.int .u8)) 2 0 [] 0 N, .nilS]), some (.row 0 (.sl (.int .u8)) (.ow .sh) xs)]⟩) (fun ((i, N, xs) : (Int) × (Nat) × (List (List Int))) => N = xs.length ∧ 0 ≤ i ∧ i ≤ d_0.length ∧ xs = d_0.take i.toNat) (fun ((i, N, xs) : (Int) × (Nat) × (List (List Int))) => d_0.length - i.toNat) (0, _, _) rfl ?_ ?_
  · subst hR0 hg_F_s_l1Copy hg_Q_s_l1Copy
    (try simp only [Alg.std, F_s_l1Copy, Q_s_l1Copy, F_s_l14Copy] at *)
    all_goals grind
  rintro ⟨i, N, xs⟩ hf I hI
  replace hf : N = xs.length ∧ 0 ≤ i ∧ i ≤ d_0.length ∧ xs = d_0.take i.toNat := hf
  generalize hL : Lg.std = L
  generalize hA : Alg.std = A
  cbv
  subst hL hA
  try dsimp only [Ty.den]
  subst hI
  obtain ⟨h1, h2, h3, h4⟩ := hf
  have h3' : i ≤ (d_0.length : Int) := h3
  have ht := fun (h : i.toNat < d_0.length) => take_add d_0 [] i.toNat h
  have ha := fun (h : i.toNat < d_0.length) => tot_secs_at d_0 i.toNat h
  have hsu : (i + 1).toNat = i.toNat + 1 := by omega
  have hxl : xs.length = i.toNat := by rw [h4, List.length_take]; exact Nat.min_eq_left (by omega)
  have hta := fun (h : d_0.length ≤ i.toNat) => List.take_of_length_le h
  try dsimp only [putD] at ht ha
  repeat' (first | intro _ | apply And.intro)
  all_goals first | (with_reducible exact True.intro) | ((fail_if_success (refine lp_v (V := Unit) (fun _ => ⟨[], []⟩) (fun _ => True) (fun _ => 0) () ?_ ?_ ?_)); (try simp only [Lg.std, Alg.std, List.drop_zero, List.take_length] at *); (try refine ⟨(_, _, _), rfl, ?_, ?_⟩); (all_goals (subst hR0 hg_F_s_l1Copy hg_Q_s_l1Copy; (try simp only [Lg.std, Alg.std, List.drop_zero, List.take_length, F_s_l1Copy, Q_s_l1Copy, F_s_l14Copy] at *); first | done | (grind)))) | skip
  refine lp_v (V := (Int) × (Nat) × (List (List Int)) × (Nat) × (List ((Int) × (List (Int)) × Unit))) (fun ((i, N, xs, K, ps) : (Int) × (Nat) × (List (List Int)) × (Nat) × (List ((Int) × (List (Int)) × Unit))) => ⟨[.dptr (.pair (.sl (.sl (.int .u8))) (.pair (.sl (.pair (.int .i64) (.pair (.sl (.int .u8)) .unit))) .unit)) (d_0, d_1, PUnit.unit), .junk, .bptr 0 0, .bptr 1 0, .junk, .dat (.int .i64) i, .junk, .junk, .junk, .junk, .junk, .junk, .junk, .junk, .junk, .junk, .junk, .junk, .junk, .junk, .junk, .junk, .junk, .junk, .junk, .junk, .junk, .junk, .junk, .junk, .junk, .junk, .junk, .junk, .junk, .junk, .junk, .junk, .junk, .junk, .junk, .junk, .junk, .junk, .junk, .junk, .junk, .junk, .junk, .junk, .junk, .junk, .junk, .junk, .junk, .junk, .junk, .junk, .junk, .junk, .junk, .junk], [some (.box [.nilS, .nilS]), some (.box [.ref (.sl (.int .u8)) 2 0 [] 0 N, .ref (.pair (.int .i64) (.pair (.sl (.int .u8)) .unit)) 3 0 [] 0 K]), some (.row 0 (.sl (.int .u8)) (.ow .sh) xs), some (.row 0 (.pair (.int .i64) (.pair (.sl (.int .u8)) .unit)) (.pr .sh (.pr (.ow .sh) .sh)) ps)]⟩) (fun ((i, N, xs, K, ps) : (Int) × (Nat) × (List (List Int)) × (Nat) × (List ((Int) × (List (Int)) × Unit))) => N = xs.length ∧ xs = d_0 ∧ K = ps.length ∧ 0 ≤ i ∧ i ≤ d_1.length ∧ ps = d_1.take i.toNat) (fun ((i, N, xs, K, ps) : (Int) × (Nat) × (List (List Int)) × (Nat) × (List ((Int) × (List (Int)) × Unit))) => d_1.length - i.toNat) (0, _, _, _, _) rfl ?_ ?_
  · subst hR0 hg_F_s_l1Copy hg_Q_s_l1Copy
    (try simp only [Alg.std, F_s_l1Copy, Q_s_l1Copy, F_s_l14Copy] at *)
    all_goals grind
  rintro ⟨i, N, xs, K, ps⟩ hf I hI
  replace hf : N = xs.length ∧ xs = d_0 ∧ K = ps.length ∧ 0 ≤ i ∧ i ≤ d_1.length ∧ ps = d_1.take i.toNat := hf
  generalize hL : Lg.std = L
  generalize hA : Alg.std = A
  cbv
  subst hL hA
  try dsimp only [Ty.den]
  subst hI
  obtain ⟨h1, h2, h3, h4, h5, h6⟩ := hf
  have h5' : i ≤ (d_1.length : Int) := h5
  have ht := fun (h : i.toNat < d_1.length) => take_add d_1 putD i.toNat h
  have ha := fun (h : i.toNat < d_1.length) => tot_puts_at d_1 i.toNat h
  have hsu : (i + 1).toNat = i.toNat + 1 := by omega
  have hxl : ps.length = i.toNat := by rw [h6, List.length_take]; exact Nat.min_eq_left (by omega)
  have hta := fun (h : d_1.length ≤ i.toNat) => List.take_of_length_le h
  try dsimp only [putD] at ht ha
  repeat' (first | intro _ | apply And.intro)
  all_goals first | (with_reducible exact True.intro) | ((fail_if_success (refine lp_v (V := Unit) (fun _ => ⟨[], []⟩) (fun _ => True) (fun _ => 0) () ?_ ?_ ?_)); (try simp only [Lg.std, Alg.std, List.drop_zero, List.take_length] at *); (try refine ⟨(_, _, _, _, _), rfl, ?_, ?_⟩); (all_goals (subst hR0 hg_F_s_l1Copy hg_Q_s_l1Copy; (try simp only [Lg.std, Alg.std, List.drop_zero, List.take_length, F_s_l1Copy, Q_s_l1Copy, F_s_l14Copy] at *); first | done | ((try generalize d_1.getD i.toNat (0, [], ()) = xa at *); (try obtain ⟨xa0, xa1, ⟨⟩⟩ := xa); (try dsimp only at *); grind)))) | skip
def con_s_l14Copy : Con := ⟨true, g1 (pP (.pair (.sl (.sl (.int .u8))) (.pair (.sl (.pair (.int .i64) (.pair (.sl (.int .u8)) .unit))) .unit))) fun d => ⟨[Q_s_l14Copy d], [⟨(.pair (.sl (.sl (.int .u8))) (.pair (.sl (.pair (.int .i64) (.pair (.sl (.int .u8)) .unit))) .unit)), (.pr (.ow (.ow .sh)) (.pr (.ow (.pr .sh (.pr (.ow .sh) .sh))) .sh)), F_s_l14Copy d⟩], []⟩, [], false, 0⟩
theorem ok_s_l14Copy : ConOk pg 83 con_s_l14Copy := ConOk.g1 (Enters.of (by kernel_rfl)) ct_s_l14Copy
end Go.Vee
