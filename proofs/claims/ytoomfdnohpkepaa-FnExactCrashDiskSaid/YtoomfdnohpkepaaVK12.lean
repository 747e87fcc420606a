/-
  Contracts of functions of the program: what each returns for all arguments that its precondition lets in.
-/
import Derived.Test.YtoomfdnohpkepaaVK11
set_option linter.unusedSimpArgs false
set_option linter.unusedVariables false
set_option maxRecDepth 100000
set_option maxHeartbeats 4000000
set_option synthInstance.maxHeartbeats 4000000
set_option synthInstance.maxSize 20000
namespace Go.Vee
open Go
def Each96 (l : List (List Int)) : Prop := ∀ i, i < l.length → (l.getD i []).length = 96
theorem Each96.at {l : List (List Int)} (h : Each96 l) (i : Nat) (hi : i < l.length) : (l.getD i []).length = 96 := h i hi
theorem Each96.set {l : List (List Int)} (h : Each96 l) (k : Nat) (v : List Int) (hv : k < l.length → v.length = 96) : Each96 (l.set k v) := fun i hi => by
  rw [List.length_set] at hi
  rw [getD_set_list _ _ _ _ _ hi]
  split
  · rename_i e; subst e; exact hv hi
  · exact h i hi
theorem setl_zero (xs : List (List Int)) (p : Nat) (b : List Int) (hp : p < xs.length) : xs.set p (b.take 0 ++ (xs.getD p []).drop 0) = xs := by
  have : xs.getD p [] = xs[p] := by simp [List.getD_eq_getElem?_getD, hp]
  rw [this, List.take_zero, List.drop_zero, List.nil_append, List.set_getElem_self]
theorem setl_step (xs : List (List Int)) (p : Nat) (b : List Int) (j : Nat) (hp : p < xs.length) (hb : j < b.length) (ho : j < (xs.getD p []).length) :
    (xs.set p (b.take j ++ (xs.getD p []).drop j)).set p (((xs.set p (b.take j ++ (xs.getD p []).drop j)).getD p []).set j (b.getD j 0)) = xs.set p (b.take (j + 1) ++ (xs.getD p []).drop (j + 1)) := by
  rw [getD_set_list _ _ _ _ _ hp, if_pos rfl, List.set_set]
  congr 1
  rw [take_add b 0 j hb, List.set_append]
  have hl : (b.take j).length = j := by rw [List.length_take]; omega
  rw [hl, if_neg (Nat.lt_irrefl _), Nat.sub_self, drop_cons (xs.getD p []) 0 j ho]
  simp

def F_i_CrashDisk_1 (n : Int) : Bool := !decide (0 ≤ n ∧ n ≤ 96)
def Q_i_CrashDisk_1 (n : Int) : Prop := True
def O_i_CrashDisk_1 : Opt := ⟨fun i => false, fun i => [], fun i => .done, fun i => none, fun i => false, fun i => []⟩
def τ_i_CrashDisk_1 : Env := Env.of [(2, (.int .i64)), (4, .bool)] [] []

theorem ct_i_CrashDisk_1 (n : Int) : Ct pg 100 [.dat (.int .i64) n] ⟨[Q_i_CrashDisk_1 n], [⟨.bool, .sh, F_i_CrashDisk_1 n⟩], []⟩ := by
  refine ct_claim (O := O_i_CrashDisk_1) (τ := τ_i_CrashDisk_1) (EnvOk.of (by kernel_rfl) (by kernel_rfl)) (GOk.of (.cons ok_i_within .nil : AllOk pg [(101, con_i_within)])) mixed (Enters.of (by kernel_rfl)) (fn := Go.Proofs.Try.f100) (by kernel_rfl) rfl (by kernel_rfl) ?_
  intro hp hw
  have hq : Q_i_CrashDisk_1 n := hp _ (List.mem_singleton.2 rfl)
  clear hp
  change claim Lg.std Alg.std τ_i_CrashDisk_1 (Gam.of [(101, ⟨true, g3 (pD (.int .i64)) (pD (.int .i64)) (pD (.int .i64)) fun n lo hi => ⟨[Q_i_within n lo hi], [⟨.bool, .sh, F_i_within n lo hi⟩], []⟩, []⟩)]) O_i_CrashDisk_1 Go.Proofs.Try.f100 [.dat (.int .i64) n] ⟨[Q_i_CrashDisk_1 n], [⟨.bool, .sh, F_i_CrashDisk_1 n⟩], []⟩
  generalize hg_F_i_within : F_i_within = g_F_i_within
  generalize hg_Q_i_within : Q_i_within = g_Q_i_within
  generalize hR0 : F_i_CrashDisk_1 n = R0
  generalize Q_i_CrashDisk_1 n = Q0
  generalize hL : Lg.std = L
  generalize hA : Alg.std = A
  cbv
  subst hL hA
  try dsimp only [Ty.den]
  subst hR0 hg_F_i_within hg_Q_i_within
  simp only [Q_i_CrashDisk_1] at hq
  simp only [Lg.std, Alg.std, List.drop_zero, List.take_length, F_i_within, Q_i_within, F_i_CrashDisk_1]
  all_goals grind
def con_i_CrashDisk_1 : Con := ⟨true, g1 (pD (.int .i64)) fun n => ⟨[Q_i_CrashDisk_1 n], [⟨.bool, .sh, F_i_CrashDisk_1 n⟩], []⟩, []⟩
theorem ok_i_CrashDisk_1 : ConOk pg 100 con_i_CrashDisk_1 := ConOk.g1 (Enters.of (by kernel_rfl)) ct_i_CrashDisk_1

def F_sl_IndexFunc_int64__i_CrashDisk_1 (s : List (Int)) (u : Unit) : Int := findG (fun n => !decide (0 ≤ n ∧ n ≤ 96)) s 0
def Q_sl_IndexFunc_int64__i_CrashDisk_1 (s : List (Int)) (u : Unit) : Prop := True
def O_sl_IndexFunc_int64__i_CrashDisk_1 : Opt := ⟨fun i => false, fun i => (match decide (i = 2) with | true => [true, true, false, false, false, false, false, true, true, false, false, false, false, false, false, false, false, false, false] | false => []), fun i => .done, fun i => none, fun i => false, fun i => []⟩
def τ_sl_IndexFunc_int64__i_CrashDisk_1 : Env := Env.of [(2, (.int .i64)), (3, (.int .i64)), (4, .bool), (43, (.sl (.int .i64)))] [] []

theorem ct_sl_IndexFunc_int64__i_CrashDisk_1 (s : List (Int)) (u : Unit) : Ct pg 156 [.dat (.sl (.int .i64)) s, .clo 100 []] ⟨[Q_sl_IndexFunc_int64__i_CrashDisk_1 s u], [⟨(.int .i64), .sh, F_sl_IndexFunc_int64__i_CrashDisk_1 s u⟩], []⟩ := by
  refine ct_claim (O := O_sl_IndexFunc_int64__i_CrashDisk_1) (τ := τ_sl_IndexFunc_int64__i_CrashDisk_1) (EnvOk.of (by kernel_rfl) (by kernel_rfl)) (GOk.of (.cons ok_i_CrashDisk_1 .nil : AllOk pg [(100, con_i_CrashDisk_1)])) mixed (Enters.of (by kernel_rfl)) (fn := Go.Proofs.Try.f156) (by kernel_rfl) rfl (by kernel_rfl) ?_
  intro hp hw
  have hq : Q_sl_IndexFunc_int64__i_CrashDisk_1 s u := hp _ (List.mem_singleton.2 rfl)
  clear hp
  change claim Lg.std Alg.std τ_sl_IndexFunc_int64__i_CrashDisk_1 (Gam.of [(100, ⟨true, g1 (pD (.int .i64)) fun n => ⟨[Q_i_CrashDisk_1 n], [⟨.bool, .sh, F_i_CrashDisk_1 n⟩], []⟩, []⟩)]) O_sl_IndexFunc_int64__i_CrashDisk_1 Go.Proofs.Try.f156 [.dat (.sl (.int .i64)) s, .clo 100 []] ⟨[Q_sl_IndexFunc_int64__i_CrashDisk_1 s u], [⟨(.int .i64), .sh, F_sl_IndexFunc_int64__i_CrashDisk_1 s u⟩], []⟩
  generalize hg_F_i_CrashDisk_1 : F_i_CrashDisk_1 = g_F_i_CrashDisk_1
  generalize hg_Q_i_CrashDisk_1 : Q_i_CrashDisk_1 = g_Q_i_CrashDisk_1
  generalize hR0 : F_sl_IndexFunc_int64__i_CrashDisk_1 s u = R0
  generalize Q_sl_IndexFunc_int64__i_CrashDisk_1 s u = Q0
  generalize hL : Lg.std = L
  generalize hA : Alg.std = A
  cbv
  subst hL hA
  try dsimp only [Ty.den]
  refine lp_v (V := (Int) × (Int)) (fun ((i, M) : (Int) × (Int)) => ⟨[.dat (.sl (.int .i64)) s, .clo 100 [], .junk, .junk, .junk, .junk, .junk, .dat (.int .i64) M, .dat (.int .i64) i, .junk, .junk, .junk, .junk, .junk, .junk, .junk, .junk, .junk, .junk], []⟩) (fun ((i, M) : (Int) × (Int)) => M = s.length ∧ 0 ≤ i ∧ i ≤ s.length ∧ findG (fun n => !decide (0 ≤ n ∧ n ≤ 96)) s 0 = findG (fun n => !decide (0 ≤ n ∧ n ≤ 96)) (s.drop i.toNat) i) (fun ((i, M) : (Int) × (Int)) => s.length - i.toNat) (0, _) rfl ?_ ?_
  · simp [Alg.std]
  rintro ⟨i, M⟩ hf I hI
  replace hf : M = s.length ∧ 0 ≤ i ∧ i ≤ s.length ∧ findG (fun n => !decide (0 ≤ n ∧ n ≤ 96)) s 0 = findG (fun n => !decide (0 ≤ n ∧ n ≤ 96)) (s.drop i.toNat) i := hf
  generalize hL : Lg.std = L
  generalize hA : Alg.std = A
  cbv
  subst hL hA
  try dsimp only [Ty.den]
  subst hI
  simp only [Lg.std, Alg.std, List.drop_zero, List.take_length]
  obtain ⟨h1, h2, h3, h4⟩ := hf
  have hl := hw.1.1
  have hdc := fun (h : i.toNat < s.length) => drop_cons s (0 : Int) i.toNat h
  have he := fun (h : s.length ≤ i.toNat) => drop_nil s i.toNat h
  repeat' (first | intro _ | apply And.intro)
  all_goals (try refine ⟨(_, _), rfl, ?_, ?_⟩)
  all_goals subst hR0 hg_F_i_CrashDisk_1 hg_Q_i_CrashDisk_1
  all_goals (try simp only [F_i_CrashDisk_1, Q_i_CrashDisk_1, F_sl_IndexFunc_int64__i_CrashDisk_1] at *)
  all_goals grind [findG_cons, findG_nil]
def con_sl_IndexFunc_int64__i_CrashDisk_1 : Con := ⟨true, g2 (pD (.sl (.int .i64))) (pC0 100) fun s u => ⟨[Q_sl_IndexFunc_int64__i_CrashDisk_1 s u], [⟨(.int .i64), .sh, F_sl_IndexFunc_int64__i_CrashDisk_1 s u⟩], []⟩, []⟩
theorem ok_sl_IndexFunc_int64__i_CrashDisk_1 : ConOk pg 156 con_sl_IndexFunc_int64__i_CrashDisk_1 := ConOk.g2 (Enters.of (by kernel_rfl)) ct_sl_IndexFunc_int64__i_CrashDisk_1

def F_sl_ContainsFunc_int64__i_CrashDisk_1 (s : List (Int)) (u : Unit) : Bool := s.any (fun n => !decide (0 ≤ n ∧ n ≤ 96))
def Q_sl_ContainsFunc_int64__i_CrashDisk_1 (s : List (Int)) (u : Unit) : Prop := True
def O_sl_ContainsFunc_int64__i_CrashDisk_1 : Opt := ⟨fun i => false, fun i => [], fun i => .done, fun i => none, fun i => false, fun i => []⟩
def τ_sl_ContainsFunc_int64__i_CrashDisk_1 : Env := Env.of [(3, (.int .i64)), (4, .bool), (43, (.sl (.int .i64)))] [] []

theorem ct_sl_ContainsFunc_int64__i_CrashDisk_1 (s : List (Int)) (u : Unit) : Ct pg 99 [.dat (.sl (.int .i64)) s, .clo 100 []] ⟨[Q_sl_ContainsFunc_int64__i_CrashDisk_1 s u], [⟨.bool, .sh, F_sl_ContainsFunc_int64__i_CrashDisk_1 s u⟩], []⟩ := by
  refine ct_claim (O := O_sl_ContainsFunc_int64__i_CrashDisk_1) (τ := τ_sl_ContainsFunc_int64__i_CrashDisk_1) (EnvOk.of (by kernel_rfl) (by kernel_rfl)) (GOk.of (.cons (ConOk.or ok_sl_IndexFunc_int64__i_NodeFault_1 (ConOk.or ok_sl_IndexFunc_int64__i_NodeFault_2 (ConOk.or ok_sl_IndexFunc_int64__i_DraftFault_1 ok_sl_IndexFunc_int64__i_CrashDisk_1))) (.cons ok_i_CrashDisk_1 .nil) : AllOk pg [(156, (Con.or con_sl_IndexFunc_int64__i_NodeFault_1 (Con.or con_sl_IndexFunc_int64__i_NodeFault_2 (Con.or con_sl_IndexFunc_int64__i_DraftFault_1 con_sl_IndexFunc_int64__i_CrashDisk_1)))), (100, con_i_CrashDisk_1)])) mixed (Enters.of (by kernel_rfl)) (fn := Go.Proofs.Try.f99) (by kernel_rfl) rfl (by kernel_rfl) ?_
  intro hp hw
  have hq : Q_sl_ContainsFunc_int64__i_CrashDisk_1 s u := hp _ (List.mem_singleton.2 rfl)
  clear hp
  change claim Lg.std Alg.std τ_sl_ContainsFunc_int64__i_CrashDisk_1 (Gam.of [(156, Con.or (⟨true, g2 (pD (.sl (.int .i64))) (pC0 200) fun s u => ⟨[Q_sl_IndexFunc_int64__i_NodeFault_1 s u], [⟨(.int .i64), .sh, F_sl_IndexFunc_int64__i_NodeFault_1 s u⟩], []⟩, []⟩ : Con) (Con.or (⟨true, g2 (pD (.sl (.int .i64))) (pC0 201) fun s u => ⟨[Q_sl_IndexFunc_int64__i_NodeFault_2 s u], [⟨(.int .i64), .sh, F_sl_IndexFunc_int64__i_NodeFault_2 s u⟩], []⟩, []⟩ : Con) (Con.or (⟨true, g2 (pD (.sl (.int .i64))) (pC1 160 (pP (.pair (.pair (.sl (.sl (.int .u8))) (.pair (.sl (.pair (.int .i64) (.pair (.sl (.int .u8)) .unit))) .unit)) (.pair (.sl (.int .i64)) (.pair (.sl (.int .i64)) .unit))))) fun s d => ⟨[Q_sl_IndexFunc_int64__i_DraftFault_1 s d], [⟨(.int .i64), .sh, F_sl_IndexFunc_int64__i_DraftFault_1 s d⟩], []⟩, []⟩ : Con) (⟨true, g2 (pD (.sl (.int .i64))) (pC0 100) fun s u => ⟨[Q_sl_IndexFunc_int64__i_CrashDisk_1 s u], [⟨(.int .i64), .sh, F_sl_IndexFunc_int64__i_CrashDisk_1 s u⟩], []⟩, []⟩)))), (100, ⟨true, g1 (pD (.int .i64)) fun n => ⟨[Q_i_CrashDisk_1 n], [⟨.bool, .sh, F_i_CrashDisk_1 n⟩], []⟩, []⟩)]) O_sl_ContainsFunc_int64__i_CrashDisk_1 Go.Proofs.Try.f99 [.dat (.sl (.int .i64)) s, .clo 100 []] ⟨[Q_sl_ContainsFunc_int64__i_CrashDisk_1 s u], [⟨.bool, .sh, F_sl_ContainsFunc_int64__i_CrashDisk_1 s u⟩], []⟩
  generalize hg_F_sl_IndexFunc_int64__i_NodeFault_1 : F_sl_IndexFunc_int64__i_NodeFault_1 = g_F_sl_IndexFunc_int64__i_NodeFault_1
  generalize hg_Q_sl_IndexFunc_int64__i_NodeFault_1 : Q_sl_IndexFunc_int64__i_NodeFault_1 = g_Q_sl_IndexFunc_int64__i_NodeFault_1
  generalize hg_F_sl_IndexFunc_int64__i_NodeFault_2 : F_sl_IndexFunc_int64__i_NodeFault_2 = g_F_sl_IndexFunc_int64__i_NodeFault_2
  generalize hg_Q_sl_IndexFunc_int64__i_NodeFault_2 : Q_sl_IndexFunc_int64__i_NodeFault_2 = g_Q_sl_IndexFunc_int64__i_NodeFault_2
  generalize hg_F_sl_IndexFunc_int64__i_DraftFault_1 : F_sl_IndexFunc_int64__i_DraftFault_1 = g_F_sl_IndexFunc_int64__i_DraftFault_1
  generalize hg_Q_sl_IndexFunc_int64__i_DraftFault_1 : Q_sl_IndexFunc_int64__i_DraftFault_1 = g_Q_sl_IndexFunc_int64__i_DraftFault_1
  generalize hg_F_i_CrashDisk_1 : F_i_CrashDisk_1 = g_F_i_CrashDisk_1
  generalize hg_Q_i_CrashDisk_1 : Q_i_CrashDisk_1 = g_Q_i_CrashDisk_1
  generalize hg_F_sl_IndexFunc_int64__i_CrashDisk_1 : F_sl_IndexFunc_int64__i_CrashDisk_1 = g_F_sl_IndexFunc_int64__i_CrashDisk_1
  generalize hg_Q_sl_IndexFunc_int64__i_CrashDisk_1 : Q_sl_IndexFunc_int64__i_CrashDisk_1 = g_Q_sl_IndexFunc_int64__i_CrashDisk_1
  generalize hR0 : F_sl_ContainsFunc_int64__i_CrashDisk_1 s u = R0
  generalize Q_sl_ContainsFunc_int64__i_CrashDisk_1 s u = Q0
  generalize hL : Lg.std = L
  generalize hA : Alg.std = A
  cbv
  subst hL hA
  try dsimp only [Ty.den]
  have hf := findG_any (fun n => !decide (0 ≤ n ∧ n ≤ 96)) s 0 (by omega)
  subst hR0 hg_F_sl_IndexFunc_int64__i_NodeFault_1 hg_Q_sl_IndexFunc_int64__i_NodeFault_1 hg_F_sl_IndexFunc_int64__i_NodeFault_2 hg_Q_sl_IndexFunc_int64__i_NodeFault_2 hg_F_sl_IndexFunc_int64__i_DraftFault_1 hg_Q_sl_IndexFunc_int64__i_DraftFault_1 hg_F_i_CrashDisk_1 hg_Q_i_CrashDisk_1 hg_F_sl_IndexFunc_int64__i_CrashDisk_1 hg_Q_sl_IndexFunc_int64__i_CrashDisk_1
  simp only [Q_sl_ContainsFunc_int64__i_CrashDisk_1] at hq
  simp only [Lg.std, Alg.std, List.drop_zero, List.take_length, F_sl_IndexFunc_int64__i_NodeFault_1, F_sl_IndexFunc_int64__i_NodeFault_2, F_sl_IndexFunc_int64__i_DraftFault_1, F_i_CrashDisk_1, F_sl_IndexFunc_int64__i_CrashDisk_1, Q_sl_IndexFunc_int64__i_NodeFault_1, Q_sl_IndexFunc_int64__i_NodeFault_2, Q_sl_IndexFunc_int64__i_DraftFault_1, Q_i_CrashDisk_1, Q_sl_IndexFunc_int64__i_CrashDisk_1, F_sl_ContainsFunc_int64__i_CrashDisk_1]
  all_goals grind
def con_sl_ContainsFunc_int64__i_CrashDisk_1 : Con := ⟨true, g2 (pD (.sl (.int .i64))) (pC0 100) fun s u => ⟨[Q_sl_ContainsFunc_int64__i_CrashDisk_1 s u], [⟨.bool, .sh, F_sl_ContainsFunc_int64__i_CrashDisk_1 s u⟩], []⟩, []⟩
theorem ok_sl_ContainsFunc_int64__i_CrashDisk_1 : ConOk pg 99 con_sl_ContainsFunc_int64__i_CrashDisk_1 := ConOk.g2 (Enters.of (by kernel_rfl)) ct_sl_ContainsFunc_int64__i_CrashDisk_1

def F_i_CrashDisk_2 (i : Int) (fates : List (Int)) : Int := fates.getD i.toNat 0
def Q_i_CrashDisk_2 (i : Int) (fates : List (Int)) : Prop := 0 ≤ i ∧ i < fates.length
def O_i_CrashDisk_2 : Opt := ⟨fun i => false, fun i => [], fun i => .done, fun i => none, fun i => false, fun i => []⟩
def τ_i_CrashDisk_2 : Env := Env.of [(2, (.int .i64)), (3, (.int .i64)), (43, (.sl (.int .i64)))] [] []

theorem ct_i_CrashDisk_2 (i : Int) (fates : List (Int)) : Ct pg 103 [.dat (.int .i64) i, .dptr (.sl (.int .i64)) fates] ⟨[Q_i_CrashDisk_2 i fates], [⟨(.int .i64), .sh, F_i_CrashDisk_2 i fates⟩], []⟩ := by
  refine ct_claim (O := O_i_CrashDisk_2) (τ := τ_i_CrashDisk_2) (EnvOk.of (by kernel_rfl) (by kernel_rfl)) (GOk.of (.nil : AllOk pg [])) mixed (Enters.of (by kernel_rfl)) (fn := Go.Proofs.Try.f103) (by kernel_rfl) rfl (by kernel_rfl) ?_
  intro hp hw
  have hq : Q_i_CrashDisk_2 i fates := hp _ (List.mem_singleton.2 rfl)
  clear hp
  change claim Lg.std Alg.std τ_i_CrashDisk_2 (Gam.of []) O_i_CrashDisk_2 Go.Proofs.Try.f103 [.dat (.int .i64) i, .dptr (.sl (.int .i64)) fates] ⟨[Q_i_CrashDisk_2 i fates], [⟨(.int .i64), .sh, F_i_CrashDisk_2 i fates⟩], []⟩
  generalize hR0 : F_i_CrashDisk_2 i fates = R0
  generalize Q_i_CrashDisk_2 i fates = Q0
  generalize hL : Lg.std = L
  generalize hA : Alg.std = A
  cbv
  subst hL hA
  try dsimp only [Ty.den]
  subst hR0
  simp only [Q_i_CrashDisk_2] at hq
  simp only [Lg.std, Alg.std, List.drop_zero, List.take_length, F_i_CrashDisk_2]
  all_goals grind
def con_i_CrashDisk_2 : Con := ⟨true, g2 (pD (.int .i64)) (pP (.sl (.int .i64))) fun i fates => ⟨[Q_i_CrashDisk_2 i fates], [⟨(.int .i64), .sh, F_i_CrashDisk_2 i fates⟩], []⟩, []⟩
theorem ok_i_CrashDisk_2 : ConOk pg 103 con_i_CrashDisk_2 := ConOk.g2 (Enters.of (by kernel_rfl)) ct_i_CrashDisk_2

def B_i_Disk_flush__i_CrashDisk_2_d (d : (List (List (Int))) × (List ((Int) × (List (Int)) × Unit)) × Unit) (fates : List (Int)) : (List (List (Int))) × (List ((Int) × (List (Int)) × Unit)) × Unit := crashD d fates
def Q_i_Disk_flush__i_CrashDisk_2 (d : (List (List (Int))) × (List ((Int) × (List (Int)) × Unit)) × Unit) (fates : List (Int)) : Prop := GoodW d 64 ∧ fates.length = d.2.1.length ∧ ∀ i, i < d.2.1.length → 0 ≤ fates.getD i 0 ∧ fates.getD i 0 ≤ 96
def O_i_Disk_flush__i_CrashDisk_2 : Opt := ⟨fun i => false, fun i => (match decide (i = 1) with | true => [true, true, false, false, false, false, false, false, false, true, true, true, false, false, false, false, false, false, false, false, false, false, false, false, false, false, false, false, false, false, false, false, false, false, false] | false => []), fun i => (match decide (i = 3) with | true => (.take 0 (.take 1 (.take 2 (.take 4 (.take 8 (.take 10 (.take 11 (.alt 3 (.alt 5 (.take 6 (.alt 7 (.alt 9 (.alt 12 (.take 13 (.alt 14 .done .no)) .no) (.alt 12 (.alt 9 (.take 13 (.alt 14 .done .no)) .no) .no)) (.alt 9 (.alt 7 (.alt 12 (.take 13 (.alt 14 .done .no)) .no) (.alt 12 (.take 13 (.alt 7 (.alt 14 .done .no) .no)) .no)) (.alt 12 (.alt 7 (.alt 9 (.take 13 (.alt 14 .done .no)) .no) (.alt 9 (.take 13 (.alt 7 (.alt 14 .done .no) .no)) .no)) .no)))) (.alt 9 (.alt 5 (.take 6 (.alt 7 (.alt 12 (.take 13 (.alt 14 .done .no)) .no) (.alt 12 (.take 13 (.alt 7 (.alt 14 .done .no) .no)) .no))) (.alt 12 (.take 13 (.alt 5 (.take 6 (.alt 7 (.alt 14 .done .no) .no)) .no)) .no)) (.alt 12 (.alt 5 (.take 6 (.alt 7 (.alt 9 (.take 13 (.alt 14 .done .no)) .no) (.alt 9 (.take 13 (.alt 7 (.alt 14 .done .no) .no)) .no))) (.alt 9 (.take 13 (.alt 5 (.take 6 (.alt 7 (.alt 14 .done .no) .no)) .no)) .no)) .no))) (.alt 5 (.alt 3 (.take 6 (.alt 7 (.alt 9 (.alt 12 (.take 13 (.alt 14 .done .no)) .no) (.alt 12 (.alt 9 (.take 13 (.alt 14 .done .no)) .no) .no)) (.alt 9 (.alt 7 (.alt 12 (.take 13 (.alt 14 .done .no)) .no) (.alt 12 (.take 13 (.alt 7 (.alt 14 .done .no) .no)) .no)) (.alt 12 (.alt 7 (.alt 9 (.take 13 (.alt 14 .done .no)) .no) (.alt 9 (.take 13 (.alt 7 (.alt 14 .done .no) .no)) .no)) .no)))) (.alt 9 (.alt 3 (.take 6 (.alt 7 (.alt 12 (.take 13 (.alt 14 .done .no)) .no) (.alt 12 (.take 13 (.alt 7 (.alt 14 .done .no) .no)) .no))) (.alt 12 (.take 13 (.alt 3 (.take 6 (.alt 7 (.alt 14 .done .no) .no)) .no)) .no)) (.alt 12 (.alt 3 (.take 6 (.alt 7 (.alt 9 (.take 13 (.alt 14 .done .no)) .no) (.alt 9 (.take 13 (.alt 7 (.alt 14 .done .no) .no)) .no))) (.alt 9 (.take 13 (.alt 3 (.take 6 (.alt 7 (.alt 14 .done .no) .no)) .no)) .no)) .no))) (.alt 9 (.alt 3 (.alt 5 (.take 6 (.alt 7 (.alt 12 (.take 13 (.alt 14 .done .no)) .no) (.alt 12 (.take 13 (.alt 7 (.alt 14 .done .no) .no)) .no))) (.alt 12 (.take 13 (.alt 5 (.take 6 (.alt 7 (.alt 14 .done .no) .no)) .no)) .no)) (.alt 5 (.alt 3 (.take 6 (.alt 7 (.alt 12 (.take 13 (.alt 14 .done .no)) .no) (.alt 12 (.take 13 (.alt 7 (.alt 14 .done .no) .no)) .no))) (.alt 12 (.take 13 (.alt 3 (.take 6 (.alt 7 (.alt 14 .done .no) .no)) .no)) .no)) (.alt 12 (.take 13 (.alt 3 (.alt 5 (.take 6 (.alt 7 (.alt 14 .done .no) .no)) .no) (.alt 5 (.alt 3 (.take 6 (.alt 7 (.alt 14 .done .no) .no)) .no) .no))) .no))) (.alt 12 (.alt 3 (.alt 5 (.take 6 (.alt 7 (.alt 9 (.take 13 (.alt 14 .done .no)) .no) (.alt 9 (.take 13 (.alt 7 (.alt 14 .done .no) .no)) .no))) (.alt 9 (.take 13 (.alt 5 (.take 6 (.alt 7 (.alt 14 .done .no) .no)) .no)) .no)) (.alt 5 (.alt 3 (.take 6 (.alt 7 (.alt 9 (.take 13 (.alt 14 .done .no)) .no) (.alt 9 (.take 13 (.alt 7 (.alt 14 .done .no) .no)) .no))) (.alt 9 (.take 13 (.alt 3 (.take 6 (.alt 7 (.alt 14 .done .no) .no)) .no)) .no)) (.alt 9 (.take 13 (.alt 3 (.alt 5 (.take 6 (.alt 7 (.alt 14 .done .no) .no)) .no) (.alt 5 (.alt 3 (.take 6 (.alt 7 (.alt 14 .done .no) .no)) .no) .no))) .no))) .no))))))))))) | false => .done), fun i => (match decide (i = 3) with | true => some [true, true, false, false, false, false, false, false, false, true, true, true, false, false, false, false, false, false, false, false, false, false, false, false, false, false, false, false, false, false, false, false, false, false, false] | false => none), fun i => (match decide (i = 1) with | true => true | false => false), fun i => []⟩
def τ_i_Disk_flush__i_CrashDisk_2 : Env := Env.of [(2, (.int .i64)), (3, (.int .i64)), (22, (.sl (.sl (.int .u8)))), (26, (.sl (.int .u8))), (28, (.sl (.pair (.int .i64) (.pair (.sl (.int .u8)) .unit)))), (30, (.pair (.sl (.sl (.int .u8))) (.pair (.sl (.pair (.int .i64) (.pair (.sl (.int .u8)) .unit))) .unit))), (145, (.pair (.int .i64) (.pair (.sl (.int .u8)) .unit)))] [(114, (.pair (.sl (.sl (.int .u8))) (.pair (.sl (.pair (.int .i64) (.pair (.sl (.int .u8)) .unit))) .unit)))] []

theorem ct_i_Disk_flush__i_CrashDisk_2 (d : (List (List (Int))) × (List ((Int) × (List (Int)) × Unit)) × Unit) (fates : List (Int)) : Ct pg 102 [.mp (.pair (.sl (.sl (.int .u8))) (.pair (.sl (.pair (.int .i64) (.pair (.sl (.int .u8)) .unit))) .unit)) (.pr (.ow (.ow .sh)) (.pr (.ow (.pr .sh (.pr (.ow .sh) .sh))) .sh)) d, .clo 103 [.dptr (.sl (.int .i64)) fates]] ⟨[Q_i_Disk_flush__i_CrashDisk_2 d fates], [], [.mp (.pair (.sl (.sl (.int .u8))) (.pair (.sl (.pair (.int .i64) (.pair (.sl (.int .u8)) .unit))) .unit)) (.pr (.ow (.ow .sh)) (.pr (.ow (.pr .sh (.pr (.ow .sh) .sh))) .sh)) (B_i_Disk_flush__i_CrashDisk_2_d d fates)]⟩ := by
  refine ct_claim (O := O_i_Disk_flush__i_CrashDisk_2) (τ := τ_i_Disk_flush__i_CrashDisk_2) (EnvOk.of (by kernel_rfl) (by kernel_rfl)) (GOk.of (.cons ok_i_CrashDisk_2 .nil : AllOk pg [(103, con_i_CrashDisk_2)])) mixed (Enters.of (by kernel_rfl)) (fn := Go.Proofs.Try.f102) (by kernel_rfl) rfl (by kernel_rfl) ?_
  intro hp hw
  have hq : Q_i_Disk_flush__i_CrashDisk_2 d fates := hp _ (List.mem_singleton.2 rfl)
  clear hp
  change claim Lg.std Alg.std τ_i_Disk_flush__i_CrashDisk_2 (Gam.of [(103, ⟨true, g2 (pD (.int .i64)) (pP (.sl (.int .i64))) fun i fates => ⟨[Q_i_CrashDisk_2 i fates], [⟨(.int .i64), .sh, F_i_CrashDisk_2 i fates⟩], []⟩, []⟩)]) O_i_Disk_flush__i_CrashDisk_2 Go.Proofs.Try.f102 [.mp (.pair (.sl (.sl (.int .u8))) (.pair (.sl (.pair (.int .i64) (.pair (.sl (.int .u8)) .unit))) .unit)) (.pr (.ow (.ow .sh)) (.pr (.ow (.pr .sh (.pr (.ow .sh) .sh))) .sh)) d, .clo 103 [.dptr (.sl (.int .i64)) fates]] ⟨[Q_i_Disk_flush__i_CrashDisk_2 d fates], [], [.mp (.pair (.sl (.sl (.int .u8))) (.pair (.sl (.pair (.int .i64) (.pair (.sl (.int .u8)) .unit))) .unit)) (.pr (.ow (.ow .sh)) (.pr (.ow (.pr .sh (.pr (.ow .sh) .sh))) .sh)) (B_i_Disk_flush__i_CrashDisk_2_d d fates)]⟩
  generalize hg_F_i_CrashDisk_2 : F_i_CrashDisk_2 = g_F_i_CrashDisk_2
  generalize hg_Q_i_CrashDisk_2 : Q_i_CrashDisk_2 = g_Q_i_CrashDisk_2
  generalize hB_d : B_i_Disk_flush__i_CrashDisk_2_d d fates = B_d
  generalize Q_i_Disk_flush__i_CrashDisk_2 d fates = Q0
  generalize hL : Lg.std = L
  generalize hA : Alg.std = A
  cbv
  subst hL hA
  try dsimp only [Ty.den]
  obtain ⟨d_0, d_1, ⟨⟩⟩ := d
  simp only [Q_i_Disk_flush__i_CrashDisk_2] at hq
  obtain ⟨⟨⟨hg1, hg2⟩, hg3, hg4, hg5⟩, hfl, hfa⟩ := hq
  dsimp only at hg1 hg2 hg3 hg4 hg5 hfl hfa
  have he0 : Each96 d_0 := hg3
  have hl1 := hw.1.1.1
  repeat' (first | intro _ | apply And.intro)
  all_goals first | trivial | ((fail_if_success (refine lp_v (V := Unit) (fun _ => ⟨[], []⟩) (fun _ => True) (fun _ => 0) () ?_ ?_ ?_)); subst hB_d hg_F_i_CrashDisk_2 hg_Q_i_CrashDisk_2; (try simp only [Alg.std, F_i_CrashDisk_2, Q_i_CrashDisk_2, B_i_Disk_flush__i_CrashDisk_2_d] at *); all_goals grind [crashD]) | skip
  refine lp_v (V := (Int) × (Int) × (Nat) × (Nat) × (List (List Int))) (fun ((i, M, K, N, xs) : (Int) × (Int) × (Nat) × (Nat) × (List (List Int))) => ⟨[.bptr 0 0, .clo 103 [.dptr (.sl (.int .i64)) fates], .junk, .junk, .junk, .junk, .junk, .junk, .junk, .ref (.pair (.int .i64) (.pair (.sl (.int .u8)) .unit)) 2 0 [] 0 K, .dat (.int .i64) M, .dat (.int .i64) i, .junk, .junk, .junk, .junk, .junk, .junk, .junk, .junk, .junk, .junk, .junk, .junk, .junk, .junk, .junk, .junk, .junk, .junk, .junk, .junk, .junk, .junk, .junk], [some (.box [.ref (.sl (.int .u8)) 1 0 [] 0 N, .ref (.pair (.int .i64) (.pair (.sl (.int .u8)) .unit)) 2 0 [] 0 K]), some (.row 0 (.sl (.int .u8)) (.ow .sh) xs), some (.row 0 (.pair (.int .i64) (.pair (.sl (.int .u8)) .unit)) (.pr .sh (.pr (.ow .sh) .sh)) d_1), some (.gh [.bptr 0 0])]⟩) (fun ((i, M, K, N, xs) : (Int) × (Int) × (Nat) × (Nat) × (List (List Int))) => M = d_1.length ∧ K = d_1.length ∧ N = xs.length ∧ 0 ≤ i ∧ i ≤ d_1.length ∧ xs.length = d_0.length ∧ Each96 xs ∧ flushL xs (d_1.drop i.toNat) (fates.drop i.toNat) = flushL d_0 d_1 fates) (fun ((i, M, K, N, xs) : (Int) × (Int) × (Nat) × (Nat) × (List (List Int))) => d_1.length - i.toNat) (0, _, _, _, _) rfl ?_ ?_
  · subst hB_d hg_F_i_CrashDisk_2 hg_Q_i_CrashDisk_2
    (try simp only [Alg.std, F_i_CrashDisk_2, Q_i_CrashDisk_2, B_i_Disk_flush__i_CrashDisk_2_d] at *)
    all_goals grind
  rintro ⟨i, M, K, N, xs⟩ hf I hI
  replace hf : M = d_1.length ∧ K = d_1.length ∧ N = xs.length ∧ 0 ≤ i ∧ i ≤ d_1.length ∧ xs.length = d_0.length ∧ Each96 xs ∧ flushL xs (d_1.drop i.toNat) (fates.drop i.toNat) = flushL d_0 d_1 fates := hf
  generalize hL : Lg.std = L
  generalize hA : Alg.std = A
  cbv
  subst hL hA
  try dsimp only [Ty.den]
  subst hI
  obtain ⟨h1, h2, h3, h4, h5, h6, h7, h8⟩ := hf
  have h5' : i ≤ (d_1.length : Int) := h5
  have hpa := fun (h : i.toNat < d_1.length) => hg5 i.toNat h
  have hfs := fun (h : i.toNat < d_1.length) => hfa i.toNat h
  have hst := fun (h : i.toNat < d_1.length) => flushL_step xs d_1 fates i.toNat h
  have hen := fun (h : d_1.length ≤ i.toNat) => flushL_end xs d_1 fates i.toNat h
  have hsu : (i + 1).toNat = i.toNat + 1 := by omega
  have heat := fun (k : Nat) (h : k < xs.length) => h7.at k h
  have hset := fun (k : Nat) (v : List Int) (h : k < xs.length → v.length = 96) => h7.set k v h
  try dsimp only [putD] at hpa hst
  repeat' (first | intro _ | apply And.intro)
  all_goals first | (with_reducible exact True.intro) | ((fail_if_success (refine lp_v (V := Unit) (fun _ => ⟨[], []⟩) (fun _ => True) (fun _ => 0) () ?_ ?_ ?_)); (try simp only [Lg.std, Alg.std, List.drop_zero, List.take_length] at *); (try refine ⟨(_, _, _, _, _), rfl, ?_, ?_⟩); (all_goals (subst hB_d hg_F_i_CrashDisk_2 hg_Q_i_CrashDisk_2; (try simp only [Lg.std, Alg.std, List.drop_zero, List.take_length, F_i_CrashDisk_2, Q_i_CrashDisk_2, B_i_Disk_flush__i_CrashDisk_2_d] at *); first | done | ((try generalize d_1.getD i.toNat (0, [], ()) = xa at *); (try obtain ⟨xa0, xa1, ⟨⟩⟩ := xa); (try dsimp only at *); (try simp only [List.take_zero, List.drop_zero, List.nil_append, List.length_take, List.take_take] at *); grind [crashD])))) | skip
def con_i_Disk_flush__i_CrashDisk_2 : Con := ⟨true, g2 (pW (.pair (.sl (.sl (.int .u8))) (.pair (.sl (.pair (.int .i64) (.pair (.sl (.int .u8)) .unit))) .unit)) (.pr (.ow (.ow .sh)) (.pr (.ow (.pr .sh (.pr (.ow .sh) .sh))) .sh))) (pC1 103 (pP (.sl (.int .i64)))) fun d fates => ⟨[Q_i_Disk_flush__i_CrashDisk_2 d fates], [], [.mp (.pair (.sl (.sl (.int .u8))) (.pair (.sl (.pair (.int .i64) (.pair (.sl (.int .u8)) .unit))) .unit)) (.pr (.ow (.ow .sh)) (.pr (.ow (.pr .sh (.pr (.ow .sh) .sh))) .sh)) (B_i_Disk_flush__i_CrashDisk_2_d d fates)]⟩, [(.pr (.ow (.ow .sh)) (.pr (.ow (.pr .sh (.pr (.ow .sh) .sh))) .sh))]⟩
theorem ok_i_Disk_flush__i_CrashDisk_2 : ConOk pg 102 con_i_Disk_flush__i_CrashDisk_2 := ConOk.g2 (Enters.of (by kernel_rfl)) ct_i_Disk_flush__i_CrashDisk_2

def F_s_l14Fates (d : (List (List (Int))) × (List ((Int) × (List (Int)) × Unit)) × Unit) (fates : List (Int)) : Int := if fates.length ≠ d.2.1.length then 2 else if fates.any (fun n => !decide (0 ≤ n ∧ n ≤ 96)) = true then 3 else 0
def Q_s_l14Fates (d : (List (List (Int))) × (List ((Int) × (List (Int)) × Unit)) × Unit) (fates : List (Int)) : Prop := True
def O_s_l14Fates : Opt := ⟨fun i => false, fun i => (match decide (i = 4) with | true => [false, true, false, false, false, true, false, false, false, false, false, false, false, false, false, false, false, false, false, false, false, false, false, false, false, false] | false => []), fun i => .done, fun i => none, fun i => false, fun i => []⟩
def τ_s_l14Fates : Env := Env.of [(2, (.int .i64)), (3, (.int .i64)), (4, .bool), (28, (.sl (.pair (.int .i64) (.pair (.sl (.int .u8)) .unit)))), (30, (.pair (.sl (.sl (.int .u8))) (.pair (.sl (.pair (.int .i64) (.pair (.sl (.int .u8)) .unit))) .unit))), (43, (.sl (.int .i64)))] [(114, (.pair (.sl (.sl (.int .u8))) (.pair (.sl (.pair (.int .i64) (.pair (.sl (.int .u8)) .unit))) .unit)))] []

theorem ct_s_l14Fates (d : (List (List (Int))) × (List ((Int) × (List (Int)) × Unit)) × Unit) (fates : List (Int)) : Ct pg 97 [.dptr (.pair (.sl (.sl (.int .u8))) (.pair (.sl (.pair (.int .i64) (.pair (.sl (.int .u8)) .unit))) .unit)) d, .dat (.sl (.int .i64)) fates] ⟨[Q_s_l14Fates d fates], [⟨(.int .i64), .sh, F_s_l14Fates d fates⟩], []⟩ := by
  refine ct_claim (O := O_s_l14Fates) (τ := τ_s_l14Fates) (EnvOk.of (by kernel_rfl) (by kernel_rfl)) (GOk.of (.cons ok_s_l1In .nil : AllOk pg [(143, con_s_l1In)])) mixed (Enters.of (by kernel_rfl)) (fn := Go.Proofs.Try.f97) (by kernel_rfl) rfl (by kernel_rfl) ?_
  intro hp hw
  have hq : Q_s_l14Fates d fates := hp _ (List.mem_singleton.2 rfl)
  clear hp
  change claim Lg.std Alg.std τ_s_l14Fates (Gam.of [(143, ⟨true, g3 (pD (.int .i64)) (pD (.int .i64)) (pD (.int .i64)) fun n lo hi => ⟨[Q_s_l1In n lo hi], [⟨.bool, .sh, F_s_l1In n lo hi⟩], []⟩, []⟩)]) O_s_l14Fates Go.Proofs.Try.f97 [.dptr (.pair (.sl (.sl (.int .u8))) (.pair (.sl (.pair (.int .i64) (.pair (.sl (.int .u8)) .unit))) .unit)) d, .dat (.sl (.int .i64)) fates] ⟨[Q_s_l14Fates d fates], [⟨(.int .i64), .sh, F_s_l14Fates d fates⟩], []⟩
  generalize hg_F_s_l1In : F_s_l1In = g_F_s_l1In
  generalize hg_Q_s_l1In : Q_s_l1In = g_Q_s_l1In
  generalize hR0 : F_s_l14Fates d fates = R0
  generalize Q_s_l14Fates d fates = Q0
  generalize hL : Lg.std = L
  generalize hA : Alg.std = A
  cbv
  subst hL hA
  try dsimp only [Ty.den]
  obtain ⟨d_0, d_1, ⟨⟩⟩ := d
  repeat' (first | intro _ | apply And.intro)
  all_goals first | trivial | ((fail_if_success (refine lp_v (V := Unit) (fun _ => ⟨[], []⟩) (fun _ => True) (fun _ => 0) () ?_ ?_ ?_)); subst hR0 hg_F_s_l1In hg_Q_s_l1In; (try simp only [Alg.std, F_s_l1In, Q_s_l1In, F_s_l14Fates] at *); all_goals grind) | skip
  refine lp_v (V := (Int)) (fun (i : Int) => ⟨[.junk, .dat (.sl (.int .i64)) fates, .junk, .junk, .junk, .dat (.int .i64) i, .junk, .junk, .junk, .junk, .junk, .junk, .junk, .junk, .junk, .junk, .junk, .junk, .junk, .junk, .junk, .junk, .junk, .junk, .junk, .junk], []⟩) (fun (i : Int) => 0 ≤ i ∧ i ≤ fates.length ∧ fates.any (fun n => !decide (0 ≤ n ∧ n ≤ 96)) = (fates.drop i.toNat).any (fun n => !decide (0 ≤ n ∧ n ≤ 96))) (fun (i : Int) => fates.length - i.toNat) (0) rfl ?_ ?_
  · subst hR0 hg_F_s_l1In hg_Q_s_l1In
    (try simp only [Alg.std, F_s_l1In, Q_s_l1In, F_s_l14Fates] at *)
    all_goals grind
  rintro i hf I hI
  replace hf : 0 ≤ i ∧ i ≤ fates.length ∧ fates.any (fun n => !decide (0 ≤ n ∧ n ≤ 96)) = (fates.drop i.toNat).any (fun n => !decide (0 ≤ n ∧ n ≤ 96)) := hf
  generalize hL : Lg.std = L
  generalize hA : Alg.std = A
  cbv
  subst hL hA
  try dsimp only [Ty.den]
  subst hI
  obtain ⟨h1, h2, h3⟩ := hf
  have hl := hw.1.2.1.1
  have hdc := fun (h : i.toNat < fates.length) => drop_cons fates 0 i.toNat h
  have he := fun (h : fates.length ≤ i.toNat) => drop_nil fates i.toNat h
  have hsu : (i + 1).toNat = i.toNat + 1 := by omega
  repeat' (first | intro _ | apply And.intro)
  all_goals first | (with_reducible exact True.intro) | ((fail_if_success (refine lp_v (V := Unit) (fun _ => ⟨[], []⟩) (fun _ => True) (fun _ => 0) () ?_ ?_ ?_)); (try simp only [Lg.std, Alg.std, List.drop_zero, List.take_length] at *); (try refine ⟨_, rfl, ?_, ?_⟩); (all_goals (subst hR0 hg_F_s_l1In hg_Q_s_l1In; (try simp only [Lg.std, Alg.std, List.drop_zero, List.take_length, F_s_l1In, Q_s_l1In, F_s_l14Fates] at *); first | done | (grind)))) | skip
def con_s_l14Fates : Con := ⟨true, g2 (pP (.pair (.sl (.sl (.int .u8))) (.pair (.sl (.pair (.int .i64) (.pair (.sl (.int .u8)) .unit))) .unit))) (pD (.sl (.int .i64))) fun d fates => ⟨[Q_s_l14Fates d fates], [⟨(.int .i64), .sh, F_s_l14Fates d fates⟩], []⟩, []⟩
theorem ok_s_l14Fates : ConOk pg 97 con_s_l14Fates := ConOk.g2 (Enters.of (by kernel_rfl)) ct_s_l14Fates

def B_s_l14Crash_d (d : (List (List (Int))) × (List ((Int) × (List (Int)) × Unit)) × Unit) (fates : List (Int)) : (List (List (Int))) × (List ((Int) × (List (Int)) × Unit)) × Unit := crashD d fates
def Q_s_l14Crash (d : (List (List (Int))) × (List ((Int) × (List (Int)) × Unit)) × Unit) (fates : List (Int)) : Prop := GoodW d 64 ∧ fates.length = d.2.1.length ∧ ∀ i, i < d.2.1.length → 0 ≤ fates.getD i 0 ∧ fates.getD i 0 ≤ 96
def O_s_l14Crash : Opt := ⟨fun i => false, fun i => (match decide (i = 5) with | true => [true, true, false, false, true, true, true, false, false, false, false, false, false, false, false, false, false, false, false, false, false, false, false, false, false, false, false, false, false, false, false, false, false, false, false, false, false, false, false, false, false, false, false, false, false, false, false, false, false] | false => (match decide (i = 1) with | true => [true, true, false, false, true, false, false, false, false, false, false, false, false, false, false, false, false, false, false, false, false, false, false, false, false, false, false, false, false, false, false, false, false, false, false, false, false, false, false, false, false, false, false, false, false, false, false, false, false] | false => [])), fun i => (match decide (i = 7) with | true => (.take 0 (.take 1 (.take 2 (.take 4 (.take 8 (.take 9 (.take 11 (.alt 3 (.alt 5 (.take 6 (.alt 7 (.alt 10 (.take 12 (.alt 13 (.take 14 (.alt 15 .done .no)) .no)) .no) (.alt 10 (.take 12 (.alt 7 (.alt 13 (.take 14 (.alt 15 .done .no)) .no) (.alt 13 (.alt 7 (.take 14 (.alt 15 .done .no)) .no) .no))) .no))) (.alt 10 (.take 12 (.alt 5 (.take 6 (.alt 7 (.alt 13 (.take 14 (.alt 15 .done .no)) .no) (.alt 13 (.alt 7 (.take 14 (.alt 15 .done .no)) .no) .no))) (.alt 13 (.alt 5 (.take 6 (.alt 7 (.take 14 (.alt 15 .done .no)) .no)) .no) .no))) .no)) (.alt 5 (.alt 3 (.take 6 (.alt 7 (.alt 10 (.take 12 (.alt 13 (.take 14 (.alt 15 .done .no)) .no)) .no) (.alt 10 (.take 12 (.alt 7 (.alt 13 (.take 14 (.alt 15 .done .no)) .no) (.alt 13 (.alt 7 (.take 14 (.alt 15 .done .no)) .no) .no))) .no))) (.alt 10 (.take 12 (.alt 3 (.take 6 (.alt 7 (.alt 13 (.take 14 (.alt 15 .done .no)) .no) (.alt 13 (.alt 7 (.take 14 (.alt 15 .done .no)) .no) .no))) (.alt 13 (.alt 3 (.take 6 (.alt 7 (.take 14 (.alt 15 .done .no)) .no)) .no) .no))) .no)) (.alt 10 (.take 12 (.alt 3 (.alt 5 (.take 6 (.alt 7 (.alt 13 (.take 14 (.alt 15 .done .no)) .no) (.alt 13 (.alt 7 (.take 14 (.alt 15 .done .no)) .no) .no))) (.alt 13 (.alt 5 (.take 6 (.alt 7 (.take 14 (.alt 15 .done .no)) .no)) .no) .no)) (.alt 5 (.alt 3 (.take 6 (.alt 7 (.alt 13 (.take 14 (.alt 15 .done .no)) .no) (.alt 13 (.alt 7 (.take 14 (.alt 15 .done .no)) .no) .no))) (.alt 13 (.alt 3 (.take 6 (.alt 7 (.take 14 (.alt 15 .done .no)) .no)) .no) .no)) (.alt 13 (.alt 3 (.alt 5 (.take 6 (.alt 7 (.take 14 (.alt 15 .done .no)) .no)) .no) (.alt 5 (.alt 3 (.take 6 (.alt 7 (.take 14 (.alt 15 .done .no)) .no)) .no) .no)) .no)))) .no)))))))))) | false => .done), fun i => (match decide (i = 7) with | true => some [true, true, false, false, true, true, true, false, false, false, false, false, false, false, false, false, false, false, false, false, false, false, false, false, false, false, false, false, false, false, false, false, false, false, false, false, false, false, false, false, false, false, false, false, false, false, false, false, false] | false => none), fun i => (match decide (i = 5) with | true => true | false => (match decide (i = 1) with | true => true | false => false)), fun i => []⟩
def τ_s_l14Crash : Env := Env.of [(2, (.int .i64)), (3, (.int .i64)), (4, .bool), (5, (.int .u8)), (22, (.sl (.sl (.int .u8)))), (26, (.sl (.int .u8))), (28, (.sl (.pair (.int .i64) (.pair (.sl (.int .u8)) .unit)))), (30, (.pair (.sl (.sl (.int .u8))) (.pair (.sl (.pair (.int .i64) (.pair (.sl (.int .u8)) .unit))) .unit))), (43, (.sl (.int .i64))), (145, (.pair (.int .i64) (.pair (.sl (.int .u8)) .unit)))] [(114, (.pair (.sl (.sl (.int .u8))) (.pair (.sl (.pair (.int .i64) (.pair (.sl (.int .u8)) .unit))) .unit)))] []

theorem ct_s_l14Crash (d : (List (List (Int))) × (List ((Int) × (List (Int)) × Unit)) × Unit) (fates : List (Int)) : Ct pg 98 [.mp (.pair (.sl (.sl (.int .u8))) (.pair (.sl (.pair (.int .i64) (.pair (.sl (.int .u8)) .unit))) .unit)) (.pr (.ow (.ow .sh)) (.pr (.ow (.pr .sh (.pr (.ow .sh) .sh))) .sh)) d, .dat (.sl (.int .i64)) fates] ⟨[Q_s_l14Crash d fates], [], [.mp (.pair (.sl (.sl (.int .u8))) (.pair (.sl (.pair (.int .i64) (.pair (.sl (.int .u8)) .unit))) .unit)) (.pr (.ow (.ow .sh)) (.pr (.ow (.pr .sh (.pr (.ow .sh) .sh))) .sh)) (B_s_l14Crash_d d fates)]⟩ := by
  refine ct_claim (O := O_s_l14Crash) (τ := τ_s_l14Crash) (EnvOk.of (by kernel_rfl) (by kernel_rfl)) (GOk.of (.nil : AllOk pg [])) mixed (Enters.of (by kernel_rfl)) (fn := Go.Proofs.Try.f98) (by kernel_rfl) rfl (by kernel_rfl) ?_
  intro hp hw
  have hq : Q_s_l14Crash d fates := hp _ (List.mem_singleton.2 rfl)
  clear hp
  change claim Lg.std Alg.std τ_s_l14Crash (Gam.of []) O_s_l14Crash Go.Proofs.Try.f98 [.mp (.pair (.sl (.sl (.int .u8))) (.pair (.sl (.pair (.int .i64) (.pair (.sl (.int .u8)) .unit))) .unit)) (.pr (.ow (.ow .sh)) (.pr (.ow (.pr .sh (.pr (.ow .sh) .sh))) .sh)) d, .dat (.sl (.int .i64)) fates] ⟨[Q_s_l14Crash d fates], [], [.mp (.pair (.sl (.sl (.int .u8))) (.pair (.sl (.pair (.int .i64) (.pair (.sl (.int .u8)) .unit))) .unit)) (.pr (.ow (.ow .sh)) (.pr (.ow (.pr .sh (.pr (.ow .sh) .sh))) .sh)) (B_s_l14Crash_d d fates)]⟩
  generalize hB_d : B_s_l14Crash_d d fates = B_d
  generalize Q_s_l14Crash d fates = Q0
  generalize hL : Lg.std = L
  generalize hA : Alg.std = A
  cbv
  subst hL hA
  try dsimp only [Ty.den]
  obtain ⟨d_0, d_1, ⟨⟩⟩ := d
  simp only [Q_s_l14Crash] at hq
  obtain ⟨⟨⟨hg1, hg2⟩, hg3, hg4, hg5⟩, hfl, hfa⟩ := hq
  dsimp only at hg1 hg2 hg3 hg4 hg5 hfl hfa
  have he0 : Each96 d_0 := hg3
  have hl1 := hw.1.1.1
  repeat' (first | intro _ | apply And.intro)
  all_goals first | trivial | ((fail_if_success (refine lp_v (V := Unit) (fun _ => ⟨[], []⟩) (fun _ => True) (fun _ => 0) () ?_ ?_ ?_)); subst hB_d; (try simp only [Alg.std, B_s_l14Crash_d] at *); all_goals grind [crashD]) | skip
  refine lp_v (V := (Int) × (Nat) × (Nat) × (List (List Int))) (fun ((i, K, N, xs) : (Int) × (Nat) × (Nat) × (List (List Int))) => ⟨[.bptr 0 0, .dat (.sl (.int .i64)) fates, .junk, .junk, .dat (.int .i64) i, .junk, .junk, .junk, .junk, .junk, .junk, .junk, .junk, .junk, .junk, .junk, .junk, .junk, .junk, .junk, .junk, .junk, .junk, .junk, .junk, .junk, .junk, .junk, .junk, .junk, .junk, .junk, .junk, .junk, .junk, .junk, .junk, .junk, .junk, .junk, .junk, .junk, .junk, .junk, .junk, .junk, .junk, .junk, .junk], [some (.box [.ref (.sl (.int .u8)) 1 0 [] 0 N, .ref (.pair (.int .i64) (.pair (.sl (.int .u8)) .unit)) 2 0 [] 0 K]), some (.row 0 (.sl (.int .u8)) (.ow .sh) xs), some (.row 0 (.pair (.int .i64) (.pair (.sl (.int .u8)) .unit)) (.pr .sh (.pr (.ow .sh) .sh)) d_1), some (.gh [.bptr 0 0])]⟩) (fun ((i, K, N, xs) : (Int) × (Nat) × (Nat) × (List (List Int))) => K = d_1.length ∧ N = xs.length ∧ 0 ≤ i ∧ i ≤ d_1.length ∧ xs.length = d_0.length ∧ Each96 xs ∧ flushL xs (d_1.drop i.toNat) (fates.drop i.toNat) = flushL d_0 d_1 fates) (fun ((i, K, N, xs) : (Int) × (Nat) × (Nat) × (List (List Int))) => d_1.length - i.toNat) (0, _, _, _) rfl ?_ ?_
  · subst hB_d
    (try simp only [Alg.std, B_s_l14Crash_d] at *)
    all_goals grind
  rintro ⟨i, K, N, xs⟩ hf I hI
  replace hf : K = d_1.length ∧ N = xs.length ∧ 0 ≤ i ∧ i ≤ d_1.length ∧ xs.length = d_0.length ∧ Each96 xs ∧ flushL xs (d_1.drop i.toNat) (fates.drop i.toNat) = flushL d_0 d_1 fates := hf
  generalize hL : Lg.std = L
  generalize hA : Alg.std = A
  cbv
  subst hL hA
  try dsimp only [Ty.den]
  subst hI
  obtain ⟨h1, h2, h3, h4, h5, h6, h7⟩ := hf
  have h5' : i ≤ (d_1.length : Int) := h4
  have hxd : xs.length = d_0.length := h5
  have hKd : K = d_1.length := h1
  have hE : Each96 xs := h6
  have hpa := fun (h : i.toNat < d_1.length) => hg5 i.toNat h
  have hfs := fun (h : i.toNat < d_1.length) => hfa i.toNat h
  have hst := fun (h : i.toNat < d_1.length) => flushL_step xs d_1 fates i.toNat h
  have hen := fun (h : d_1.length ≤ i.toNat) => flushL_end xs d_1 fates i.toNat h
  have hsu : (i + 1).toNat = i.toNat + 1 := by omega
  have heat := fun (k : Nat) (h : k < xs.length) => h6.at k h
  try dsimp only [putD] at hpa hst
  repeat' (first | intro _ | apply And.intro)
  all_goals first | (with_reducible exact True.intro) | ((fail_if_success (refine lp_v (V := Unit) (fun _ => ⟨[], []⟩) (fun _ => True) (fun _ => 0) () ?_ ?_ ?_)); (try simp only [Lg.std, Alg.std, List.drop_zero, List.take_length] at *); (try refine ⟨(_, _, _, _), rfl, ?_, ?_⟩); (all_goals (subst hB_d; (try simp only [Lg.std, Alg.std, List.drop_zero, List.take_length, B_s_l14Crash_d] at *); first | done | ((try generalize d_1.getD i.toNat (0, [], ()) = xa at *); (try obtain ⟨xa0, xa1, ⟨⟩⟩ := xa); (try dsimp only at *); grind [crashD])))) | skip
  rename_i hii
  have hid : i.toNat < d_1.length := by
    simp only [Alg.std, decide_eq_true_eq] at hii
    omega
  have hp1 : 0 ≤ (d_1.getD i.toNat (0, [], PUnit.unit)).1 ∧ (d_1.getD i.toNat (0, [], PUnit.unit)).1 ≤ (d_0.length : Int) - 1 ∧ (d_1.getD i.toNat (0, [], PUnit.unit)).2.1.length = 96 := hpa hid
  have hf1 := hfs hid
  have hst1 := hst hid
  have hxp : (d_1.getD i.toNat (0, [], PUnit.unit)).1.toNat < xs.length := by omega
  have hz := setl_zero xs (d_1.getD i.toNat (0, [], PUnit.unit)).1.toNat (d_1.getD i.toNat (0, [], PUnit.unit)).2.1 hxp
  have hold := heat _ hxp
  refine lp_v (V := (Int) × (Nat) × (Nat) × (List (List Int)) × (Int) × (Nat) × (Nat)) (fun ((j, K, N, ys, x0, L, ii) : (Int) × (Nat) × (Nat) × (List (List Int)) × (Int) × (Nat) × (Nat)) => ⟨[.bptr 0 0, .dat (.sl (.int .i64)) fates, .junk, .junk, .dat (.int .i64) i, .bptr 3 0, .dat (.int .i64) j, .junk, .junk, .junk, .junk, .junk, .junk, .junk, .junk, .junk, .junk, .junk, .junk, .junk, .junk, .junk, .junk, .junk, .junk, .junk, .junk, .junk, .junk, .junk, .junk, .junk, .junk, .junk, .junk, .junk, .junk, .junk, .junk, .junk, .junk, .junk, .junk, .junk, .junk, .junk, .junk, .junk, .junk], [some (.box [.ref (.sl (.int .u8)) 1 0 [] 0 N, .ref (.pair (.int .i64) (.pair (.sl (.int .u8)) .unit)) 2 0 [] 0 K]), some (.row 0 (.sl (.int .u8)) (.ow .sh) ys), some (.row 0 (.pair (.int .i64) (.pair (.sl (.int .u8)) .unit)) (.pr .sh (.pr (.ow .sh) .sh)) d_1), some (.box [.dat (.int .i64) x0, .ref (.int .u8) 2 0 [.idx ii, .snd, .fst] 0 L]), some (.gh [.bptr 0 0])]⟩) (fun ((j, K, N, ys, x0, L, ii) : (Int) × (Nat) × (Nat) × (List (List Int)) × (Int) × (Nat) × (Nat)) => K = d_1.length ∧ N = ys.length ∧ ii = i.toNat ∧ x0 = (d_1.getD i.toNat (0, [], PUnit.unit)).1 ∧ L = (d_1.getD i.toNat (0, [], PUnit.unit)).2.1.length ∧ 0 ≤ j ∧ j ≤ fates.getD i.toNat 0 ∧ ys = xs.set (d_1.getD i.toNat (0, [], PUnit.unit)).1.toNat ((d_1.getD i.toNat (0, [], PUnit.unit)).2.1.take j.toNat ++ (xs.getD (d_1.getD i.toNat (0, [], PUnit.unit)).1.toNat []).drop j.toNat)) (fun ((j, K, N, ys, x0, L, ii) : (Int) × (Nat) × (Nat) × (List (List Int)) × (Int) × (Nat) × (Nat)) => (fates.getD i.toNat 0).toNat - j.toNat) (0, _, _, xs, _, _, _) rfl ?_ ?_
  · (try simp only [Alg.std, Int.toNat_zero] at *)
    all_goals grind
  rintro ⟨j, K, N, ys, x0, L, ii⟩ hf I hI
  replace hf : K = d_1.length ∧ N = ys.length ∧ ii = i.toNat ∧ x0 = (d_1.getD i.toNat (0, [], PUnit.unit)).1 ∧ L = (d_1.getD i.toNat (0, [], PUnit.unit)).2.1.length ∧ 0 ≤ j ∧ j ≤ fates.getD i.toNat 0 ∧ ys = xs.set (d_1.getD i.toNat (0, [], PUnit.unit)).1.toNat ((d_1.getD i.toNat (0, [], PUnit.unit)).2.1.take j.toNat ++ (xs.getD (d_1.getD i.toNat (0, [], PUnit.unit)).1.toNat []).drop j.toNat) := hf
  generalize hL : Lg.std = L
  generalize hA : Alg.std = A
  cbv
  subst hL hA
  try dsimp only [Ty.den]
  subst hI
  obtain ⟨h1, h2, h3, h4, h5, h6, h7, h8⟩ := hf
  have hss := fun (h : j.toNat < (d_1.getD i.toNat (0, [], PUnit.unit)).2.1.length) (h2 : j.toNat < (xs.getD (d_1.getD i.toNat (0, [], PUnit.unit)).1.toNat []).length) => setl_step xs (d_1.getD i.toNat (0, [], PUnit.unit)).1.toNat (d_1.getD i.toNat (0, [], PUnit.unit)).2.1 j.toNat hxp h h2
  rw [← h8] at hss
  have hyl : ys.length = xs.length := by rw [h8, List.length_set]
  have hyg : ys.getD (d_1.getD i.toNat (0, [], PUnit.unit)).1.toNat [] = (d_1.getD i.toNat (0, [], PUnit.unit)).2.1.take j.toNat ++ (xs.getD (d_1.getD i.toNat (0, [], PUnit.unit)).1.toNat []).drop j.toNat := by rw [h8, getD_set_list _ _ _ _ _ hxp, if_pos rfl]
  have hygl : (ys.getD (d_1.getD i.toNat (0, [], PUnit.unit)).1.toNat []).length = 96 := by rw [hyg, List.length_append, List.length_take, List.length_drop]; omega
  have hye : Each96 ys := by rw [h8]; exact hE.set _ _ (fun _ => by rw [List.length_append, List.length_take, List.length_drop]; omega)
  have hsj : (j + 1).toNat = j.toNat + 1 := by omega
  repeat' (first | intro _ | apply And.intro)
  all_goals first | (with_reducible exact True.intro) | ((fail_if_success (refine lp_v (V := Unit) (fun _ => ⟨[], []⟩) (fun _ => True) (fun _ => 0) () ?_ ?_ ?_)); (try simp only [Lg.std, Alg.std, List.drop_zero, List.take_length] at *); (first | refine ⟨(_, _, _, _, _, _, _), rfl, ?_, ?_⟩ | refine ⟨(_, _, _, _), rfl, ?_, ?_⟩ | skip); (all_goals (subst hB_d; (try simp only [Lg.std, Alg.std, List.drop_zero, List.take_length, B_s_l14Crash_d] at *); first | done | ((try subst h3 h4 h5); (try generalize d_1.getD i.toNat (0, [], ()) = xa at *); (try obtain ⟨xa0, xa1, ⟨⟩⟩ := xa); (try dsimp only at *); grind)))) | skip
def con_s_l14Crash : Con := ⟨true, g2 (pW (.pair (.sl (.sl (.int .u8))) (.pair (.sl (.pair (.int .i64) (.pair (.sl (.int .u8)) .unit))) .unit)) (.pr (.ow (.ow .sh)) (.pr (.ow (.pr .sh (.pr (.ow .sh) .sh))) .sh))) (pD (.sl (.int .i64))) fun d fates => ⟨[Q_s_l14Crash d fates], [], [.mp (.pair (.sl (.sl (.int .u8))) (.pair (.sl (.pair (.int .i64) (.pair (.sl (.int .u8)) .unit))) .unit)) (.pr (.ow (.ow .sh)) (.pr (.ow (.pr .sh (.pr (.ow .sh) .sh))) .sh)) (B_s_l14Crash_d d fates)]⟩, [(.pr (.ow (.ow .sh)) (.pr (.ow (.pr .sh (.pr (.ow .sh) .sh))) .sh))]⟩
theorem ok_s_l14Crash : ConOk pg 98 con_s_l14Crash := ConOk.g2 (Enters.of (by kernel_rfl)) ct_s_l14Crash

def F_s_CrashDisk (d : (List (List (Int))) × (List ((Int) × (List (Int)) × Unit)) × Unit) (fates : List (Int)) : (Int) × ((List (List (Int))) × (List ((Int) × (List (Int)) × Unit)) × Unit) × Unit := crashDisk d fates
def Q_s_CrashDisk (d : (List (List (Int))) × (List ((Int) × (List (Int)) × Unit)) × Unit) (fates : List (Int)) : Prop := tot tDisk d ≤ 1048576
def O_s_CrashDisk : Opt := ⟨fun i => false, fun i => [], fun i => .done, fun i => none, fun i => false, fun i => []⟩
def τ_s_CrashDisk : Env := Env.of [(2, (.int .i64)), (4, .bool), (30, (.pair (.sl (.sl (.int .u8))) (.pair (.sl (.pair (.int .i64) (.pair (.sl (.int .u8)) .unit))) .unit))), (32, (.pair (.int .i64) (.pair (.pair (.sl (.sl (.int .u8))) (.pair (.sl (.pair (.int .i64) (.pair (.sl (.int .u8)) .unit))) .unit)) .unit))), (43, (.sl (.int .i64)))] [(114, (.pair (.sl (.sl (.int .u8))) (.pair (.sl (.pair (.int .i64) (.pair (.sl (.int .u8)) .unit))) .unit)))] []

theorem ct_s_CrashDisk (d : (List (List (Int))) × (List ((Int) × (List (Int)) × Unit)) × Unit) (fates : List (Int)) : Ct pg 26 [.dat (.pair (.sl (.sl (.int .u8))) (.pair (.sl (.pair (.int .i64) (.pair (.sl (.int .u8)) .unit))) .unit)) d, .dat (.sl (.int .i64)) fates] ⟨[Q_s_CrashDisk d fates], [⟨(.pair (.int .i64) (.pair (.pair (.sl (.sl (.int .u8))) (.pair (.sl (.pair (.int .i64) (.pair (.sl (.int .u8)) .unit))) .unit)) .unit)), (.pr .sh (.pr (.pr (.ow (.ow .sh)) (.pr (.ow (.pr .sh (.pr (.ow .sh) .sh))) .sh)) .sh)), F_s_CrashDisk d fates⟩], []⟩ := by
  refine ct_claim (O := O_s_CrashDisk) (τ := τ_s_CrashDisk) (EnvOk.of (by kernel_rfl) (by kernel_rfl)) (GOk.of (.cons ok_s_DiskFault (.cons ok_s_l14Copy (.cons ok_s_l14Fates (.cons ok_s_l14Crash .nil))) : AllOk pg [(81, con_s_DiskFault), (83, con_s_l14Copy), (97, con_s_l14Fates), (98, con_s_l14Crash)])) mixed (Enters.of (by kernel_rfl)) (fn := Go.Proofs.Try.f26) (by kernel_rfl) rfl (by kernel_rfl) ?_
  intro hp hw
  have hq : Q_s_CrashDisk d fates := hp _ (List.mem_singleton.2 rfl)
  clear hp
  change claim Lg.std Alg.std τ_s_CrashDisk (Gam.of [(81, ⟨true, g1 (pD (.pair (.sl (.sl (.int .u8))) (.pair (.sl (.pair (.int .i64) (.pair (.sl (.int .u8)) .unit))) .unit))) fun d => ⟨[Q_s_DiskFault d], [⟨(.int .i64), .sh, F_s_DiskFault d⟩], []⟩, []⟩), (83, ⟨true, g1 (pP (.pair (.sl (.sl (.int .u8))) (.pair (.sl (.pair (.int .i64) (.pair (.sl (.int .u8)) .unit))) .unit))) fun d => ⟨[Q_s_l14Copy d], [⟨(.pair (.sl (.sl (.int .u8))) (.pair (.sl (.pair (.int .i64) (.pair (.sl (.int .u8)) .unit))) .unit)), (.pr (.ow (.ow .sh)) (.pr (.ow (.pr .sh (.pr (.ow .sh) .sh))) .sh)), F_s_l14Copy d⟩], []⟩, []⟩), (97, ⟨true, g2 (pP (.pair (.sl (.sl (.int .u8))) (.pair (.sl (.pair (.int .i64) (.pair (.sl (.int .u8)) .unit))) .unit))) (pD (.sl (.int .i64))) fun d fates => ⟨[Q_s_l14Fates d fates], [⟨(.int .i64), .sh, F_s_l14Fates d fates⟩], []⟩, []⟩), (98, ⟨true, g2 (pW (.pair (.sl (.sl (.int .u8))) (.pair (.sl (.pair (.int .i64) (.pair (.sl (.int .u8)) .unit))) .unit)) (.pr (.ow (.ow .sh)) (.pr (.ow (.pr .sh (.pr (.ow .sh) .sh))) .sh))) (pD (.sl (.int .i64))) fun d fates => ⟨[Q_s_l14Crash d fates], [], [.mp (.pair (.sl (.sl (.int .u8))) (.pair (.sl (.pair (.int .i64) (.pair (.sl (.int .u8)) .unit))) .unit)) (.pr (.ow (.ow .sh)) (.pr (.ow (.pr .sh (.pr (.ow .sh) .sh))) .sh)) (B_s_l14Crash_d d fates)]⟩, [(.pr (.ow (.ow .sh)) (.pr (.ow (.pr .sh (.pr (.ow .sh) .sh))) .sh))]⟩)]) O_s_CrashDisk Go.Proofs.Try.f26 [.dat (.pair (.sl (.sl (.int .u8))) (.pair (.sl (.pair (.int .i64) (.pair (.sl (.int .u8)) .unit))) .unit)) d, .dat (.sl (.int .i64)) fates] ⟨[Q_s_CrashDisk d fates], [⟨(.pair (.int .i64) (.pair (.pair (.sl (.sl (.int .u8))) (.pair (.sl (.pair (.int .i64) (.pair (.sl (.int .u8)) .unit))) .unit)) .unit)), (.pr .sh (.pr (.pr (.ow (.ow .sh)) (.pr (.ow (.pr .sh (.pr (.ow .sh) .sh))) .sh)) .sh)), F_s_CrashDisk d fates⟩], []⟩
  generalize hg_F_s_DiskFault : F_s_DiskFault = g_F_s_DiskFault
  generalize hg_Q_s_DiskFault : Q_s_DiskFault = g_Q_s_DiskFault
  generalize hg_F_s_l14Copy : F_s_l14Copy = g_F_s_l14Copy
  generalize hg_Q_s_l14Copy : Q_s_l14Copy = g_Q_s_l14Copy
  generalize hg_F_s_l14Fates : F_s_l14Fates = g_F_s_l14Fates
  generalize hg_Q_s_l14Fates : Q_s_l14Fates = g_Q_s_l14Fates
  generalize hg_B_s_l14Crash_d : B_s_l14Crash_d = g_B_s_l14Crash_d
  generalize hg_Q_s_l14Crash : Q_s_l14Crash = g_Q_s_l14Crash
  generalize hR0 : F_s_CrashDisk d fates = R0
  generalize Q_s_CrashDisk d fates = Q0
  generalize hL : Lg.std = L
  generalize hA : Alg.std = A
  cbv
  subst hL hA
  try dsimp only [Ty.den]
  obtain ⟨d_0, d_1, ⟨⟩⟩ := d
  have hgd := fun h => (diskFault_good (d_0, d_1, ()) h).w
  have hfo := fates_ok fates
  have hle1 := tot_len tPut d_1
  subst hR0 hg_F_s_DiskFault hg_Q_s_DiskFault hg_F_s_l14Copy hg_Q_s_l14Copy hg_F_s_l14Fates hg_Q_s_l14Fates hg_B_s_l14Crash_d hg_Q_s_l14Crash
  simp only [Q_s_CrashDisk] at hq
  simp only [Lg.std, Alg.std, List.drop_zero, List.take_length, F_s_DiskFault, F_s_l14Copy, F_s_l14Fates, B_s_l14Crash_d, Q_s_DiskFault, Q_s_l14Copy, Q_s_l14Fates, Q_s_l14Crash, F_s_CrashDisk, crashDisk, GoodW] at *
  try simp only [true_and, and_true, false_implies, implies_true, imp_self]
  have hqd : tot (.sl (.sl (.int .u8))) d_0 + tot (.sl tPut) d_1 ≤ 1048576 := by simp only [tot_p, tot_u] at hq; omega
  repeat' (first | intro _ | apply And.intro)
  all_goals grind
def con_s_CrashDisk : Con := ⟨true, g2 (pD (.pair (.sl (.sl (.int .u8))) (.pair (.sl (.pair (.int .i64) (.pair (.sl (.int .u8)) .unit))) .unit))) (pD (.sl (.int .i64))) fun d fates => ⟨[Q_s_CrashDisk d fates], [⟨(.pair (.int .i64) (.pair (.pair (.sl (.sl (.int .u8))) (.pair (.sl (.pair (.int .i64) (.pair (.sl (.int .u8)) .unit))) .unit)) .unit)), (.pr .sh (.pr (.pr (.ow (.ow .sh)) (.pr (.ow (.pr .sh (.pr (.ow .sh) .sh))) .sh)) .sh)), F_s_CrashDisk d fates⟩], []⟩, []⟩
theorem ok_s_CrashDisk : ConOk pg 26 con_s_CrashDisk := ConOk.g2 (Enters.of (by kernel_rfl)) ct_s_CrashDisk

def F_i_CrashDisk (d : (List (List (Int))) × (List ((Int) × (List (Int)) × Unit)) × Unit) (fates : List (Int)) : (Int) × ((List (List (Int))) × (List ((Int) × (List (Int)) × Unit)) × Unit) × Unit := crashDisk d fates
def Q_i_CrashDisk (d : (List (List (Int))) × (List ((Int) × (List (Int)) × Unit)) × Unit) (fates : List (Int)) : Prop := tot tDisk d ≤ 1048576
def O_i_CrashDisk : Opt := ⟨fun i => false, fun i => [], fun i => .done, fun i => none, fun i => false, fun i => []⟩
def τ_i_CrashDisk : Env := Env.of [(2, (.int .i64)), (3, (.int .i64)), (4, .bool), (28, (.sl (.pair (.int .i64) (.pair (.sl (.int .u8)) .unit)))), (30, (.pair (.sl (.sl (.int .u8))) (.pair (.sl (.pair (.int .i64) (.pair (.sl (.int .u8)) .unit))) .unit))), (32, (.pair (.int .i64) (.pair (.pair (.sl (.sl (.int .u8))) (.pair (.sl (.pair (.int .i64) (.pair (.sl (.int .u8)) .unit))) .unit)) .unit))), (43, (.sl (.int .i64)))] [] []

theorem ct_i_CrashDisk (d : (List (List (Int))) × (List ((Int) × (List (Int)) × Unit)) × Unit) (fates : List (Int)) : Ct pg 28 [.dat (.pair (.sl (.sl (.int .u8))) (.pair (.sl (.pair (.int .i64) (.pair (.sl (.int .u8)) .unit))) .unit)) d, .dat (.sl (.int .i64)) fates] ⟨[Q_i_CrashDisk d fates], [⟨(.pair (.int .i64) (.pair (.pair (.sl (.sl (.int .u8))) (.pair (.sl (.pair (.int .i64) (.pair (.sl (.int .u8)) .unit))) .unit)) .unit)), (.pr .sh (.pr (.pr (.ow (.ow .sh)) (.pr (.ow (.pr .sh (.pr (.ow .sh) .sh))) .sh)) .sh)), F_i_CrashDisk d fates⟩], []⟩ := by
  refine ct_claim (O := O_i_CrashDisk) (τ := τ_i_CrashDisk) (EnvOk.of (by kernel_rfl) (by kernel_rfl)) (GOk.of (.cons (ConOk.or ok_sl_ContainsFunc_int64__i_NodeFault_1 (ConOk.or ok_sl_ContainsFunc_int64__i_NodeFault_2 (ConOk.or ok_sl_ContainsFunc_int64__i_DraftFault_1 ok_sl_ContainsFunc_int64__i_CrashDisk_1))) (.cons ok_i_DiskFault (.cons ok_i_ownDisk (.cons ok_i_CrashDisk_1 (.cons ok_i_CrashDisk_2 (.cons ok_i_Disk_flush__i_CrashDisk_2 .nil))))) : AllOk pg [(99, (Con.or con_sl_ContainsFunc_int64__i_NodeFault_1 (Con.or con_sl_ContainsFunc_int64__i_NodeFault_2 (Con.or con_sl_ContainsFunc_int64__i_DraftFault_1 con_sl_ContainsFunc_int64__i_CrashDisk_1)))), (88, con_i_DiskFault), (90, con_i_ownDisk), (100, con_i_CrashDisk_1), (103, con_i_CrashDisk_2), (102, con_i_Disk_flush__i_CrashDisk_2)])) mixed (Enters.of (by kernel_rfl)) (fn := Go.Proofs.Try.f28) (by kernel_rfl) rfl (by kernel_rfl) ?_
  intro hp hw
  have hq : Q_i_CrashDisk d fates := hp _ (List.mem_singleton.2 rfl)
  clear hp
  change claim Lg.std Alg.std τ_i_CrashDisk (Gam.of [(99, Con.or (⟨true, g2 (pD (.sl (.int .i64))) (pC0 200) fun s u => ⟨[Q_sl_ContainsFunc_int64__i_NodeFault_1 s u], [⟨.bool, .sh, F_sl_ContainsFunc_int64__i_NodeFault_1 s u⟩], []⟩, []⟩ : Con) (Con.or (⟨true, g2 (pD (.sl (.int .i64))) (pC0 201) fun s u => ⟨[Q_sl_ContainsFunc_int64__i_NodeFault_2 s u], [⟨.bool, .sh, F_sl_ContainsFunc_int64__i_NodeFault_2 s u⟩], []⟩, []⟩ : Con) (Con.or (⟨true, g2 (pD (.sl (.int .i64))) (pC1 160 (pP (.pair (.pair (.sl (.sl (.int .u8))) (.pair (.sl (.pair (.int .i64) (.pair (.sl (.int .u8)) .unit))) .unit)) (.pair (.sl (.int .i64)) (.pair (.sl (.int .i64)) .unit))))) fun s d => ⟨[Q_sl_ContainsFunc_int64__i_DraftFault_1 s d], [⟨.bool, .sh, F_sl_ContainsFunc_int64__i_DraftFault_1 s d⟩], []⟩, []⟩ : Con) (⟨true, g2 (pD (.sl (.int .i64))) (pC0 100) fun s u => ⟨[Q_sl_ContainsFunc_int64__i_CrashDisk_1 s u], [⟨.bool, .sh, F_sl_ContainsFunc_int64__i_CrashDisk_1 s u⟩], []⟩, []⟩)))), (88, ⟨true, g1 (pD (.pair (.sl (.sl (.int .u8))) (.pair (.sl (.pair (.int .i64) (.pair (.sl (.int .u8)) .unit))) .unit))) fun d => ⟨[Q_i_DiskFault d], [⟨(.int .i64), .sh, F_i_DiskFault d⟩], []⟩, []⟩), (90, ⟨true, g1 (pD (.pair (.sl (.sl (.int .u8))) (.pair (.sl (.pair (.int .i64) (.pair (.sl (.int .u8)) .unit))) .unit))) fun d => ⟨[Q_i_ownDisk d], [⟨(.pair (.sl (.sl (.int .u8))) (.pair (.sl (.pair (.int .i64) (.pair (.sl (.int .u8)) .unit))) .unit)), (.pr (.ow (.ow .sh)) (.pr (.ow (.pr .sh (.pr (.ow .sh) .sh))) .sh)), F_i_ownDisk d⟩], []⟩, []⟩), (100, ⟨true, g1 (pD (.int .i64)) fun n => ⟨[Q_i_CrashDisk_1 n], [⟨.bool, .sh, F_i_CrashDisk_1 n⟩], []⟩, []⟩), (103, ⟨true, g2 (pD (.int .i64)) (pP (.sl (.int .i64))) fun i fates => ⟨[Q_i_CrashDisk_2 i fates], [⟨(.int .i64), .sh, F_i_CrashDisk_2 i fates⟩], []⟩, []⟩), (102, ⟨true, g2 (pW (.pair (.sl (.sl (.int .u8))) (.pair (.sl (.pair (.int .i64) (.pair (.sl (.int .u8)) .unit))) .unit)) (.pr (.ow (.ow .sh)) (.pr (.ow (.pr .sh (.pr (.ow .sh) .sh))) .sh))) (pC1 103 (pP (.sl (.int .i64)))) fun d fates => ⟨[Q_i_Disk_flush__i_CrashDisk_2 d fates], [], [.mp (.pair (.sl (.sl (.int .u8))) (.pair (.sl (.pair (.int .i64) (.pair (.sl (.int .u8)) .unit))) .unit)) (.pr (.ow (.ow .sh)) (.pr (.ow (.pr .sh (.pr (.ow .sh) .sh))) .sh)) (B_i_Disk_flush__i_CrashDisk_2_d d fates)]⟩, [(.pr (.ow (.ow .sh)) (.pr (.ow (.pr .sh (.pr (.ow .sh) .sh))) .sh))]⟩)]) O_i_CrashDisk Go.Proofs.Try.f28 [.dat (.pair (.sl (.sl (.int .u8))) (.pair (.sl (.pair (.int .i64) (.pair (.sl (.int .u8)) .unit))) .unit)) d, .dat (.sl (.int .i64)) fates] ⟨[Q_i_CrashDisk d fates], [⟨(.pair (.int .i64) (.pair (.pair (.sl (.sl (.int .u8))) (.pair (.sl (.pair (.int .i64) (.pair (.sl (.int .u8)) .unit))) .unit)) .unit)), (.pr .sh (.pr (.pr (.ow (.ow .sh)) (.pr (.ow (.pr .sh (.pr (.ow .sh) .sh))) .sh)) .sh)), F_i_CrashDisk d fates⟩], []⟩
  generalize hg_F_sl_ContainsFunc_int64__i_NodeFault_1 : F_sl_ContainsFunc_int64__i_NodeFault_1 = g_F_sl_ContainsFunc_int64__i_NodeFault_1
  generalize hg_Q_sl_ContainsFunc_int64__i_NodeFault_1 : Q_sl_ContainsFunc_int64__i_NodeFault_1 = g_Q_sl_ContainsFunc_int64__i_NodeFault_1
  generalize hg_F_sl_ContainsFunc_int64__i_NodeFault_2 : F_sl_ContainsFunc_int64__i_NodeFault_2 = g_F_sl_ContainsFunc_int64__i_NodeFault_2
  generalize hg_Q_sl_ContainsFunc_int64__i_NodeFault_2 : Q_sl_ContainsFunc_int64__i_NodeFault_2 = g_Q_sl_ContainsFunc_int64__i_NodeFault_2
  generalize hg_F_i_DiskFault : F_i_DiskFault = g_F_i_DiskFault
  generalize hg_Q_i_DiskFault : Q_i_DiskFault = g_Q_i_DiskFault
  generalize hg_F_sl_ContainsFunc_int64__i_DraftFault_1 : F_sl_ContainsFunc_int64__i_DraftFault_1 = g_F_sl_ContainsFunc_int64__i_DraftFault_1
  generalize hg_Q_sl_ContainsFunc_int64__i_DraftFault_1 : Q_sl_ContainsFunc_int64__i_DraftFault_1 = g_Q_sl_ContainsFunc_int64__i_DraftFault_1
  generalize hg_F_i_ownDisk : F_i_ownDisk = g_F_i_ownDisk
  generalize hg_Q_i_ownDisk : Q_i_ownDisk = g_Q_i_ownDisk
  generalize hg_F_i_CrashDisk_1 : F_i_CrashDisk_1 = g_F_i_CrashDisk_1
  generalize hg_Q_i_CrashDisk_1 : Q_i_CrashDisk_1 = g_Q_i_CrashDisk_1
  generalize hg_F_sl_ContainsFunc_int64__i_CrashDisk_1 : F_sl_ContainsFunc_int64__i_CrashDisk_1 = g_F_sl_ContainsFunc_int64__i_CrashDisk_1
  generalize hg_Q_sl_ContainsFunc_int64__i_CrashDisk_1 : Q_sl_ContainsFunc_int64__i_CrashDisk_1 = g_Q_sl_ContainsFunc_int64__i_CrashDisk_1
  generalize hg_F_i_CrashDisk_2 : F_i_CrashDisk_2 = g_F_i_CrashDisk_2
  generalize hg_Q_i_CrashDisk_2 : Q_i_CrashDisk_2 = g_Q_i_CrashDisk_2
  generalize hg_B_i_Disk_flush__i_CrashDisk_2_d : B_i_Disk_flush__i_CrashDisk_2_d = g_B_i_Disk_flush__i_CrashDisk_2_d
  generalize hg_Q_i_Disk_flush__i_CrashDisk_2 : Q_i_Disk_flush__i_CrashDisk_2 = g_Q_i_Disk_flush__i_CrashDisk_2
  generalize hR0 : F_i_CrashDisk d fates = R0
  generalize Q_i_CrashDisk d fates = Q0
  generalize hL : Lg.std = L
  generalize hA : Alg.std = A
  cbv
  subst hL hA
  try dsimp only [Ty.den]
  obtain ⟨d_0, d_1, ⟨⟩⟩ := d
  have hgd := fun h => (diskFault_good (d_0, d_1, ()) h).w
  have hfo := fates_ok fates
  have hle1 := tot_len tPut d_1
  subst hR0 hg_F_sl_ContainsFunc_int64__i_NodeFault_1 hg_Q_sl_ContainsFunc_int64__i_NodeFault_1 hg_F_sl_ContainsFunc_int64__i_NodeFault_2 hg_Q_sl_ContainsFunc_int64__i_NodeFault_2 hg_F_i_DiskFault hg_Q_i_DiskFault hg_F_sl_ContainsFunc_int64__i_DraftFault_1 hg_Q_sl_ContainsFunc_int64__i_DraftFault_1 hg_F_i_ownDisk hg_Q_i_ownDisk hg_F_i_CrashDisk_1 hg_Q_i_CrashDisk_1 hg_F_sl_ContainsFunc_int64__i_CrashDisk_1 hg_Q_sl_ContainsFunc_int64__i_CrashDisk_1 hg_F_i_CrashDisk_2 hg_Q_i_CrashDisk_2 hg_B_i_Disk_flush__i_CrashDisk_2_d hg_Q_i_Disk_flush__i_CrashDisk_2
  simp only [Q_i_CrashDisk] at hq
  simp only [Lg.std, Alg.std, List.drop_zero, List.take_length, F_sl_ContainsFunc_int64__i_NodeFault_1, F_sl_ContainsFunc_int64__i_NodeFault_2, F_i_DiskFault, F_sl_ContainsFunc_int64__i_DraftFault_1, F_i_ownDisk, F_i_CrashDisk_1, F_sl_ContainsFunc_int64__i_CrashDisk_1, F_i_CrashDisk_2, B_i_Disk_flush__i_CrashDisk_2_d, Q_sl_ContainsFunc_int64__i_NodeFault_1, Q_sl_ContainsFunc_int64__i_NodeFault_2, Q_i_DiskFault, Q_sl_ContainsFunc_int64__i_DraftFault_1, Q_i_ownDisk, Q_i_CrashDisk_1, Q_sl_ContainsFunc_int64__i_CrashDisk_1, Q_i_CrashDisk_2, Q_i_Disk_flush__i_CrashDisk_2, F_i_CrashDisk, crashDisk, GoodW] at *
  try simp only [true_and, and_true, false_implies, implies_true, imp_self]
  have hqd : tot (.sl (.sl (.int .u8))) d_0 + tot (.sl tPut) d_1 ≤ 1048576 := by simp only [tot_p, tot_u] at hq; omega
  repeat' (first | intro _ | apply And.intro)
  all_goals grind
def con_i_CrashDisk : Con := ⟨true, g2 (pD (.pair (.sl (.sl (.int .u8))) (.pair (.sl (.pair (.int .i64) (.pair (.sl (.int .u8)) .unit))) .unit))) (pD (.sl (.int .i64))) fun d fates => ⟨[Q_i_CrashDisk d fates], [⟨(.pair (.int .i64) (.pair (.pair (.sl (.sl (.int .u8))) (.pair (.sl (.pair (.int .i64) (.pair (.sl (.int .u8)) .unit))) .unit)) .unit)), (.pr .sh (.pr (.pr (.ow (.ow .sh)) (.pr (.ow (.pr .sh (.pr (.ow .sh) .sh))) .sh)) .sh)), F_i_CrashDisk d fates⟩], []⟩, []⟩
theorem ok_i_CrashDisk : ConOk pg 28 con_i_CrashDisk := ConOk.g2 (Enters.of (by kernel_rfl)) ct_i_CrashDisk

def F_w_FnExactCrashDisk (d : (List (List (Int))) × (List ((Int) × (List (Int)) × Unit)) × Unit) (f : List (Int)) : Bool := true
def Q_w_FnExactCrashDisk (d : (List (List (Int))) × (List ((Int) × (List (Int)) × Unit)) × Unit) (f : List (Int)) : Prop := True
def O_w_FnExactCrashDisk : Opt := ⟨fun i => false, fun i => [], fun i => (match decide (i = 13) with | true => (.alt 0 (.alt 1 (.alt 2 (.alt 3 (.take 4 .done) .no) .no) .no) (.alt 1 (.alt 0 (.alt 2 (.alt 3 (.take 4 .done) .no) .no) (.alt 2 (.alt 0 (.alt 3 (.take 4 .done) .no) .no) .no)) .no)) | false => .done), fun i => (match decide (i = 13) with | true => some [false, true, true, false, false, false, true, true, true, true, false, false, false, false, false, false, false, false, false, false, false, false, false, false, false, false, false, false, false, false, false, false, false, false, false, false, false, false, false, false, false, false, true, false, false, false, false, false, false, false, false, false, false, false, false, false, false, false, false, false, false, false, false, false, false, false, false, false, false, false, false, false, false, false, false, false, false, false, false, false, false, false, false, false, false, false, false, false, false, false] | false => none), fun i => false, fun i => []⟩
def τ_w_FnExactCrashDisk : Env := Env.of [(3, (.int .i64)), (4, .bool), (25, (.pair (.sl (.sl (.int .u8))) (.pair (.sl (.pair (.int .i64) (.pair (.sl (.int .u8)) .unit))) .unit))), (30, (.pair (.sl (.sl (.int .u8))) (.pair (.sl (.pair (.int .i64) (.pair (.sl (.int .u8)) .unit))) .unit))), (32, (.pair (.int .i64) (.pair (.pair (.sl (.sl (.int .u8))) (.pair (.sl (.pair (.int .i64) (.pair (.sl (.int .u8)) .unit))) .unit)) .unit))), (43, (.sl (.int .i64)))] [] []

theorem ct_w_FnExactCrashDisk (d : (List (List (Int))) × (List ((Int) × (List (Int)) × Unit)) × Unit) (f : List (Int)) : Ct pg 4 [.dat (.pair (.sl (.sl (.int .u8))) (.pair (.sl (.pair (.int .i64) (.pair (.sl (.int .u8)) .unit))) .unit)) d, .dat (.sl (.int .i64)) f] ⟨[Q_w_FnExactCrashDisk d f], [⟨.bool, .sh, F_w_FnExactCrashDisk d f⟩], []⟩ := by
  refine ct_claim (O := O_w_FnExactCrashDisk) (τ := τ_w_FnExactCrashDisk) (EnvOk.of (by kernel_rfl) (by kernel_rfl)) (GOk.of (.cons ok_w_toInt64S (.cons ok_w_eqInt64S (.cons ok_w_markInt64S (.cons ok_w_toDisk (.cons ok_w_eqDisk (.cons ok_w_szDisk (.cons ok_w_markDisk (.cons ok_w_eqDiskResult (.cons ok_w_markDiskResult (.cons ok_w_heldDiskResult (.cons ok_s_CrashDisk (.cons ok_i_CrashDisk .nil))))))))))) : AllOk pg [(27, con_w_toInt64S), (29, con_w_eqInt64S), (30, con_w_markInt64S), (16, con_w_toDisk), (20, con_w_eqDisk), (14, con_w_szDisk), (22, con_w_markDisk), (19, con_w_eqDiskResult), (24, con_w_markDiskResult), (25, con_w_heldDiskResult), (26, con_s_CrashDisk), (28, con_i_CrashDisk)])) mixed (Enters.of (by kernel_rfl)) (fn := Go.Proofs.Try.f4) (by kernel_rfl) rfl (by kernel_rfl) ?_
  intro hp hw
  have hq : Q_w_FnExactCrashDisk d f := hp _ (List.mem_singleton.2 rfl)
  clear hp
  change claim Lg.std Alg.std τ_w_FnExactCrashDisk (Gam.of [(27, ⟨true, g1 (pD (.sl (.int .i64))) fun a => ⟨[Q_w_toInt64S a], [⟨(.sl (.int .i64)), (.ow .sh), F_w_toInt64S a⟩], []⟩, []⟩), (29, ⟨true, g2 (pD (.sl (.int .i64))) (pD (.sl (.int .i64))) fun a b => ⟨[Q_w_eqInt64S a b], [⟨.bool, .sh, F_w_eqInt64S a b⟩], []⟩, []⟩), (30, ⟨true, g2 (pV (.sl (.int .i64)) (.ow .sh)) (pD (.int .i64)) fun a k => ⟨[Q_w_markInt64S a k], [⟨(.int .i64), .sh, F_w_markInt64S a k⟩], [.mv (.sl (.int .i64)) (.ow .sh) (B_w_markInt64S_a a k)]⟩, [(.ow .sh)]⟩), (16, ⟨true, g1 (pD (.pair (.sl (.sl (.int .u8))) (.pair (.sl (.pair (.int .i64) (.pair (.sl (.int .u8)) .unit))) .unit))) fun a => ⟨[Q_w_toDisk a], [⟨(.pair (.sl (.sl (.int .u8))) (.pair (.sl (.pair (.int .i64) (.pair (.sl (.int .u8)) .unit))) .unit)), (.pr (.ow (.ow .sh)) (.pr (.ow (.pr .sh (.pr (.ow .sh) .sh))) .sh)), F_w_toDisk a⟩], []⟩, []⟩), (20, ⟨true, g2 (pD (.pair (.sl (.sl (.int .u8))) (.pair (.sl (.pair (.int .i64) (.pair (.sl (.int .u8)) .unit))) .unit))) (pD (.pair (.sl (.sl (.int .u8))) (.pair (.sl (.pair (.int .i64) (.pair (.sl (.int .u8)) .unit))) .unit))) fun a b => ⟨[Q_w_eqDisk a b], [⟨.bool, .sh, F_w_eqDisk a b⟩], []⟩, []⟩), (14, ⟨true, g2 (pD (.pair (.sl (.sl (.int .u8))) (.pair (.sl (.pair (.int .i64) (.pair (.sl (.int .u8)) .unit))) .unit))) (pD (.int .i64)) fun a left => ⟨[Q_w_szDisk a left], [⟨(.int .i64), .sh, F_w_szDisk a left⟩], []⟩, []⟩), (22, ⟨true, g2 (pV (.pair (.sl (.sl (.int .u8))) (.pair (.sl (.pair (.int .i64) (.pair (.sl (.int .u8)) .unit))) .unit)) (.pr (.ow (.ow .sh)) (.pr (.ow (.pr .sh (.pr (.ow .sh) .sh))) .sh))) (pD (.int .i64)) fun a k => ⟨[Q_w_markDisk a k], [⟨(.int .i64), .sh, F_w_markDisk a k⟩], [.mv (.pair (.sl (.sl (.int .u8))) (.pair (.sl (.pair (.int .i64) (.pair (.sl (.int .u8)) .unit))) .unit)) (.pr (.ow (.ow .sh)) (.pr (.ow (.pr .sh (.pr (.ow .sh) .sh))) .sh)) (B_w_markDisk_a a k)]⟩, [(.pr (.ow (.ow .sh)) (.pr (.ow (.pr .sh (.pr (.ow .sh) .sh))) .sh))]⟩), (19, ⟨true, g2 (pD (.pair (.int .i64) (.pair (.pair (.sl (.sl (.int .u8))) (.pair (.sl (.pair (.int .i64) (.pair (.sl (.int .u8)) .unit))) .unit)) .unit))) (pD (.pair (.int .i64) (.pair (.pair (.sl (.sl (.int .u8))) (.pair (.sl (.pair (.int .i64) (.pair (.sl (.int .u8)) .unit))) .unit)) .unit))) fun a b => ⟨[Q_w_eqDiskResult a b], [⟨.bool, .sh, F_w_eqDiskResult a b⟩], []⟩, []⟩), (24, ⟨true, g2 (pV (.pair (.int .i64) (.pair (.pair (.sl (.sl (.int .u8))) (.pair (.sl (.pair (.int .i64) (.pair (.sl (.int .u8)) .unit))) .unit)) .unit)) (.pr .sh (.pr (.pr (.ow (.ow .sh)) (.pr (.ow (.pr .sh (.pr (.ow .sh) .sh))) .sh)) .sh))) (pD (.int .i64)) fun a k => ⟨[Q_w_markDiskResult a k], [⟨(.int .i64), .sh, F_w_markDiskResult a k⟩], [.mv (.pair (.int .i64) (.pair (.pair (.sl (.sl (.int .u8))) (.pair (.sl (.pair (.int .i64) (.pair (.sl (.int .u8)) .unit))) .unit)) .unit)) (.pr .sh (.pr (.pr (.ow (.ow .sh)) (.pr (.ow (.pr .sh (.pr (.ow .sh) .sh))) .sh)) .sh)) (B_w_markDiskResult_a a k)]⟩, [(.pr .sh (.pr (.pr (.ow (.ow .sh)) (.pr (.ow (.pr .sh (.pr (.ow .sh) .sh))) .sh)) .sh))]⟩), (25, ⟨true, g2 (pD (.pair (.int .i64) (.pair (.pair (.sl (.sl (.int .u8))) (.pair (.sl (.pair (.int .i64) (.pair (.sl (.int .u8)) .unit))) .unit)) .unit))) (pD (.int .i64)) fun a k => ⟨[Q_w_heldDiskResult a k], [⟨(.int .i64), .sh, F_w_heldDiskResult a k⟩], []⟩, []⟩), (26, ⟨true, g2 (pD (.pair (.sl (.sl (.int .u8))) (.pair (.sl (.pair (.int .i64) (.pair (.sl (.int .u8)) .unit))) .unit))) (pD (.sl (.int .i64))) fun d fates => ⟨[Q_s_CrashDisk d fates], [⟨(.pair (.int .i64) (.pair (.pair (.sl (.sl (.int .u8))) (.pair (.sl (.pair (.int .i64) (.pair (.sl (.int .u8)) .unit))) .unit)) .unit)), (.pr .sh (.pr (.pr (.ow (.ow .sh)) (.pr (.ow (.pr .sh (.pr (.ow .sh) .sh))) .sh)) .sh)), F_s_CrashDisk d fates⟩], []⟩, []⟩), (28, ⟨true, g2 (pD (.pair (.sl (.sl (.int .u8))) (.pair (.sl (.pair (.int .i64) (.pair (.sl (.int .u8)) .unit))) .unit))) (pD (.sl (.int .i64))) fun d fates => ⟨[Q_i_CrashDisk d fates], [⟨(.pair (.int .i64) (.pair (.pair (.sl (.sl (.int .u8))) (.pair (.sl (.pair (.int .i64) (.pair (.sl (.int .u8)) .unit))) .unit)) .unit)), (.pr .sh (.pr (.pr (.ow (.ow .sh)) (.pr (.ow (.pr .sh (.pr (.ow .sh) .sh))) .sh)) .sh)), F_i_CrashDisk d fates⟩], []⟩, []⟩)]) O_w_FnExactCrashDisk Go.Proofs.Try.f4 [.dat (.pair (.sl (.sl (.int .u8))) (.pair (.sl (.pair (.int .i64) (.pair (.sl (.int .u8)) .unit))) .unit)) d, .dat (.sl (.int .i64)) f] ⟨[Q_w_FnExactCrashDisk d f], [⟨.bool, .sh, F_w_FnExactCrashDisk d f⟩], []⟩
  generalize hg_F_w_toInt64S : F_w_toInt64S = g_F_w_toInt64S
  generalize hg_Q_w_toInt64S : Q_w_toInt64S = g_Q_w_toInt64S
  generalize hg_F_w_eqInt64S : F_w_eqInt64S = g_F_w_eqInt64S
  generalize hg_Q_w_eqInt64S : Q_w_eqInt64S = g_Q_w_eqInt64S
  generalize hg_F_w_markInt64S : F_w_markInt64S = g_F_w_markInt64S
  generalize hg_B_w_markInt64S_a : B_w_markInt64S_a = g_B_w_markInt64S_a
  generalize hg_Q_w_markInt64S : Q_w_markInt64S = g_Q_w_markInt64S
  generalize hg_F_w_toDisk : F_w_toDisk = g_F_w_toDisk
  generalize hg_Q_w_toDisk : Q_w_toDisk = g_Q_w_toDisk
  generalize hg_F_w_eqDisk : F_w_eqDisk = g_F_w_eqDisk
  generalize hg_Q_w_eqDisk : Q_w_eqDisk = g_Q_w_eqDisk
  generalize hg_F_w_szDisk : F_w_szDisk = g_F_w_szDisk
  generalize hg_Q_w_szDisk : Q_w_szDisk = g_Q_w_szDisk
  generalize hg_F_w_markDisk : F_w_markDisk = g_F_w_markDisk
  generalize hg_B_w_markDisk_a : B_w_markDisk_a = g_B_w_markDisk_a
  generalize hg_Q_w_markDisk : Q_w_markDisk = g_Q_w_markDisk
  generalize hg_F_w_eqDiskResult : F_w_eqDiskResult = g_F_w_eqDiskResult
  generalize hg_Q_w_eqDiskResult : Q_w_eqDiskResult = g_Q_w_eqDiskResult
  generalize hg_F_w_markDiskResult : F_w_markDiskResult = g_F_w_markDiskResult
  generalize hg_B_w_markDiskResult_a : B_w_markDiskResult_a = g_B_w_markDiskResult_a
  generalize hg_Q_w_markDiskResult : Q_w_markDiskResult = g_Q_w_markDiskResult
  generalize hg_F_w_heldDiskResult : F_w_heldDiskResult = g_F_w_heldDiskResult
  generalize hg_Q_w_heldDiskResult : Q_w_heldDiskResult = g_Q_w_heldDiskResult
  generalize hg_F_s_CrashDisk : F_s_CrashDisk = g_F_s_CrashDisk
  generalize hg_Q_s_CrashDisk : Q_s_CrashDisk = g_Q_s_CrashDisk
  generalize hg_F_i_CrashDisk : F_i_CrashDisk = g_F_i_CrashDisk
  generalize hg_Q_i_CrashDisk : Q_i_CrashDisk = g_Q_i_CrashDisk
  generalize hR0 : F_w_FnExactCrashDisk d f = R0
  generalize Q_w_FnExactCrashDisk d f = Q0
  generalize hL : Lg.std = L
  generalize hA : Alg.std = A
  cbv
  subst hL hA
  try dsimp only [Ty.den]
  obtain ⟨d_0, d_1, ⟨⟩⟩ := d
  have hct_d := cnt_tot (.pair (.sl (.sl (.int .u8))) (.pair (.sl (.pair (.int .i64) (.pair (.sl (.int .u8)) .unit))) .unit)) (d_0, d_1, PUnit.unit) (by decide)
  have hct_f := cnt_tot (.sl (.int .i64)) f (by decide)
  rcases Classical.em (f.length ≤ 1048576 ∧ tot tDisk (d_0, d_1, PUnit.unit) ≤ 1048576) with hB | hB
  · have htt := crashDisk_tot (d_0, d_1, PUnit.unit) f
    have hct := cnt_tot (.pair (.int .i64) (.pair (.pair (.sl (.sl (.int .u8))) (.pair (.sl (.pair (.int .i64) (.pair (.sl (.int .u8)) .unit))) .unit)) .unit)) (crashDisk (d_0, d_1, PUnit.unit) f) (by decide)
    have htr : tot (.pair (.int .i64) (.pair (.pair (.sl (.sl (.int .u8))) (.pair (.sl (.pair (.int .i64) (.pair (.sl (.int .u8)) .unit))) .unit)) .unit)) (crashDisk (d_0, d_1, PUnit.unit) f) = tot tDisk (crashDisk (d_0, d_1, PUnit.unit) f).2.1 := by simp only [tot_p, tot_u, tot_i, Nat.zero_add, Nat.add_zero]
    have hc0 : cnt false (.pair (.int .i64) (.pair (.pair (.sl (.sl (.int .u8))) (.pair (.sl (.pair (.int .i64) (.pair (.sl (.int .u8)) .unit))) .unit)) .unit)) (crashDisk (d_0, d_1, PUnit.unit) f) ≤ 4000000000 := by
      have := hct
      omega
    try simp only [tDisk, tPut, tot_int] at *
    subst hR0 hg_F_w_toInt64S hg_Q_w_toInt64S hg_F_w_eqInt64S hg_Q_w_eqInt64S hg_F_w_markInt64S hg_B_w_markInt64S_a hg_Q_w_markInt64S hg_F_w_toDisk hg_Q_w_toDisk hg_F_w_eqDisk hg_Q_w_eqDisk hg_F_w_szDisk hg_Q_w_szDisk hg_F_w_markDisk hg_B_w_markDisk_a hg_Q_w_markDisk hg_F_w_eqDiskResult hg_Q_w_eqDiskResult hg_F_w_markDiskResult hg_B_w_markDiskResult_a hg_Q_w_markDiskResult hg_F_w_heldDiskResult hg_Q_w_heldDiskResult hg_F_s_CrashDisk hg_Q_s_CrashDisk hg_F_i_CrashDisk hg_Q_i_CrashDisk
    simp only [Lg.std, Alg.std, List.drop_zero, List.take_length, F_w_toInt64S, F_w_eqInt64S, F_w_markInt64S, F_w_toDisk, F_w_eqDisk, F_w_szDisk, F_w_markDisk, F_w_eqDiskResult, F_w_markDiskResult, F_w_heldDiskResult, F_s_CrashDisk, F_i_CrashDisk, B_w_markInt64S_a, B_w_markDisk_a, B_w_markDiskResult_a, Q_w_toInt64S, Q_w_eqInt64S, Q_w_markInt64S, Q_w_toDisk, Q_w_eqDisk, Q_w_szDisk, Q_w_markDisk, Q_w_eqDiskResult, Q_w_markDiskResult, Q_w_heldDiskResult, Q_s_CrashDisk, Q_i_CrashDisk, F_w_FnExactCrashDisk]
    generalize hW : (crashDisk (d_0, d_1, PUnit.unit) f : (Int) × ((List (List (Int))) × (List ((Int) × (List (Int)) × Unit)) × Unit) × Unit) = w at *
    clear hW
    obtain ⟨w_0, ⟨w_1_0, w_1_1, ⟨⟩⟩, ⟨⟩⟩ := w
    try dsimp only at *
    have hm := hd_mk false (.pair (.int .i64) (.pair (.pair (.sl (.sl (.int .u8))) (.pair (.sl (.pair (.int .i64) (.pair (.sl (.int .u8)) .unit))) .unit)) .unit)) (w_0, (w_1_0, w_1_1, PUnit.unit), PUnit.unit) 1 (by omega)
    have mt_w_1_0 := fun k => mk_take false (.sl (.int .u8)) w_1_0 k
    dsimp only [Ty.den] at mt_w_1_0
    have mt_w_1_1 := fun k => mk_take false (.pair (.int .i64) (.pair (.sl (.int .u8)) .unit)) w_1_1 k
    dsimp only [Ty.den] at mt_w_1_1
    simp only [tot_p, tot_u, tot_i, tot_b, tot_s, cnt_p, cnt_u, cnt_i0, cnt_b0, cnt_s0, cnt_i1, cnt_b1, cnt_s1, cnt_l, mk_p, mk_u, mk_i0, mk_b0, mk_s0, mk_i1, mk_s1, mk_l, hd_p, hd_u, hd_i0, hd_b0, hd_s0, hd_i1, hd_b1, hd_s1, hd_l, mt_w_1_0, mt_w_1_1] at *
    try simp only [tDisk, tPut, tot_int] at *
    repeat' (first | intro _ | apply And.intro)
    all_goals grind [szf, cnt_mk, hd_mk]
  · subst hR0 hg_F_w_toInt64S hg_Q_w_toInt64S hg_F_w_eqInt64S hg_Q_w_eqInt64S hg_F_w_markInt64S hg_B_w_markInt64S_a hg_Q_w_markInt64S hg_F_w_toDisk hg_Q_w_toDisk hg_F_w_eqDisk hg_Q_w_eqDisk hg_F_w_szDisk hg_Q_w_szDisk hg_F_w_markDisk hg_B_w_markDisk_a hg_Q_w_markDisk hg_F_w_eqDiskResult hg_Q_w_eqDiskResult hg_F_w_markDiskResult hg_B_w_markDiskResult_a hg_Q_w_markDiskResult hg_F_w_heldDiskResult hg_Q_w_heldDiskResult hg_F_s_CrashDisk hg_Q_s_CrashDisk hg_F_i_CrashDisk hg_Q_i_CrashDisk
    simp only [Lg.std, Alg.std, List.drop_zero, List.take_length, F_w_toInt64S, F_w_eqInt64S, F_w_markInt64S, F_w_toDisk, F_w_eqDisk, F_w_szDisk, F_w_markDisk, F_w_eqDiskResult, F_w_markDiskResult, F_w_heldDiskResult, F_s_CrashDisk, F_i_CrashDisk, B_w_markInt64S_a, B_w_markDisk_a, B_w_markDiskResult_a, Q_w_toInt64S, Q_w_eqInt64S, Q_w_markInt64S, Q_w_toDisk, Q_w_eqDisk, Q_w_szDisk, Q_w_markDisk, Q_w_eqDiskResult, Q_w_markDiskResult, Q_w_heldDiskResult, Q_s_CrashDisk, Q_i_CrashDisk, F_w_FnExactCrashDisk]
    generalize hW : (crashDisk (d_0, d_1, PUnit.unit) f : (Int) × ((List (List (Int))) × (List ((Int) × (List (Int)) × Unit)) × Unit) × Unit) = w at *
    clear hW
    try simp only [tDisk, tPut, tot_int] at *
    simp only [tot_p, tot_u, tot_i, tot_b, tot_s, szf] at *
    repeat' (first | intro _ | apply And.intro)
    all_goals grind
def con_w_FnExactCrashDisk : Con := ⟨true, g2 (pD (.pair (.sl (.sl (.int .u8))) (.pair (.sl (.pair (.int .i64) (.pair (.sl (.int .u8)) .unit))) .unit))) (pD (.sl (.int .i64))) fun d f => ⟨[Q_w_FnExactCrashDisk d f], [⟨.bool, .sh, F_w_FnExactCrashDisk d f⟩], []⟩, []⟩
theorem ok_w_FnExactCrashDisk : ConOk pg 4 con_w_FnExactCrashDisk := ConOk.g2 (Enters.of (by kernel_rfl)) ct_w_FnExactCrashDisk
end Go.Vee
