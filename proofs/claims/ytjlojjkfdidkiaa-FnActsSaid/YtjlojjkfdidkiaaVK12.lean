/-
  Contracts of functions of the program: what each returns for all arguments that its precondition lets in.
-/
import Derived.Test.YtjlojjkfdidkiaaVK11
set_option linter.unusedSimpArgs false
set_option linter.unusedVariables false
set_option maxRecDepth 100000
set_option maxHeartbeats 4000000
set_option synthInstance.maxHeartbeats 4000000
set_option synthInstance.maxSize 20000000
namespace Go.Vee
open Go
theorem disk_eta (d : DiskT) : (d.1, d.2.1, PUnit.unit) = d := rfl


def B_i_Disk_flush__i_whole_d (d : (List (List (Int))) × (List ((Int) × (List (Int)) × Unit)) × Unit) (u : Unit) : (List (List (Int))) × (List ((Int) × (List (Int)) × Unit)) × Unit := crashD d (whole96 d)
def Q_i_Disk_flush__i_whole (d : (List (List (Int))) × (List ((Int) × (List (Int)) × Unit)) × Unit) (u : Unit) : Prop := GoodW d 256
def O_i_Disk_flush__i_whole : Opt := ⟨fun i => false, fun i => (match decide (i = 1) with | true => [true, true, false, false, false, false, false, false, false, true, true, true, false, false, false, false, false, false, false, false, false, false, false, false, false, false, false, false, false, false, false, false, false, false, false] | false => []), fun i => (match decide (i = 3) with | true => (.take 0 (.take 1 (.take 2 (.take 4 (.take 8 (.take 10 (.take 11 (.alt 3 (.alt 5 (.take 6 (.alt 7 (.alt 9 (.alt 12 (.take 13 (.alt 14 .done .no)) .no) (.alt 12 (.alt 9 (.take 13 (.alt 14 .done .no)) .no) .no)) (.alt 9 (.alt 7 (.alt 12 (.take 13 (.alt 14 .done .no)) .no) (.alt 12 (.take 7 (.take 13 (.alt 14 .done .no))) .no)) (.alt 12 (.take 7 (.alt 9 (.take 13 (.alt 14 .done .no)) .no)) .no)))) (.alt 9 (.alt 5 (.take 6 (.alt 7 (.alt 12 (.take 13 (.alt 14 .done .no)) .no) (.alt 12 (.take 7 (.take 13 (.alt 14 .done .no))) .no))) (.alt 12 (.take 13 (.alt 5 (.take 6 (.take 7 (.alt 14 .done .no))) .no)) .no)) (.alt 12 (.alt 5 (.take 6 (.take 7 (.alt 9 (.take 13 (.alt 14 .done .no)) .no))) (.alt 9 (.take 13 (.alt 5 (.take 6 (.take 7 (.alt 14 .done .no))) .no)) .no)) .no))) (.alt 5 (.alt 3 (.take 6 (.alt 7 (.alt 9 (.alt 12 (.take 13 (.alt 14 .done .no)) .no) (.alt 12 (.alt 9 (.take 13 (.alt 14 .done .no)) .no) .no)) (.alt 9 (.alt 7 (.alt 12 (.take 13 (.alt 14 .done .no)) .no) (.alt 12 (.take 7 (.take 13 (.alt 14 .done .no))) .no)) (.alt 12 (.take 7 (.alt 9 (.take 13 (.alt 14 .done .no)) .no)) .no)))) (.alt 9 (.alt 3 (.take 6 (.alt 7 (.alt 12 (.take 13 (.alt 14 .done .no)) .no) (.alt 12 (.take 7 (.take 13 (.alt 14 .done .no))) .no))) (.alt 12 (.take 13 (.alt 3 (.take 6 (.take 7 (.alt 14 .done .no))) .no)) .no)) (.alt 12 (.alt 3 (.take 6 (.take 7 (.alt 9 (.take 13 (.alt 14 .done .no)) .no))) (.alt 9 (.take 13 (.alt 3 (.take 6 (.take 7 (.alt 14 .done .no))) .no)) .no)) .no))) (.alt 9 (.alt 3 (.alt 5 (.take 6 (.alt 7 (.alt 12 (.take 13 (.alt 14 .done .no)) .no) (.alt 12 (.take 7 (.take 13 (.alt 14 .done .no))) .no))) (.alt 12 (.take 13 (.alt 5 (.take 6 (.take 7 (.alt 14 .done .no))) .no)) .no)) (.alt 5 (.alt 3 (.take 6 (.alt 7 (.alt 12 (.take 13 (.alt 14 .done .no)) .no) (.alt 12 (.take 7 (.take 13 (.alt 14 .done .no))) .no))) (.alt 12 (.take 13 (.alt 3 (.take 6 (.take 7 (.alt 14 .done .no))) .no)) .no)) (.alt 12 (.take 13 (.alt 3 (.alt 5 (.take 6 (.take 7 (.alt 14 .done .no))) .no) (.alt 5 (.alt 3 (.take 6 (.take 7 (.alt 14 .done .no))) .no) .no))) .no))) (.alt 12 (.alt 3 (.alt 5 (.take 6 (.take 7 (.alt 9 (.take 13 (.alt 14 .done .no)) .no))) (.alt 9 (.take 13 (.alt 5 (.take 6 (.take 7 (.alt 14 .done .no))) .no)) .no)) (.alt 5 (.alt 3 (.take 6 (.take 7 (.alt 9 (.take 13 (.alt 14 .done .no)) .no))) (.alt 9 (.take 13 (.alt 3 (.take 6 (.take 7 (.alt 14 .done .no))) .no)) .no)) (.alt 9 (.take 13 (.alt 3 (.alt 5 (.take 6 (.take 7 (.alt 14 .done .no))) .no) (.alt 5 (.alt 3 (.take 6 (.take 7 (.alt 14 .done .no))) .no) .no))) .no))) .no))))))))))) | false => .done), fun i => (match decide (i = 3) with | true => some [true, true, false, false, false, false, false, false, false, true, true, true, false, false, false, false, false, false, false, false, false, false, false, false, false, false, false, false, false, false, false, false, false, false, false] | false => none), fun i => (match decide (i = 1) with | true => true | false => false), fun i => [], fun i => false, fun i => none, fun i => none⟩
def τ_i_Disk_flush__i_whole : Env := Env.of [(2, (.int .i64)), (3, (.int .i64)), (22, (.sl (.sl (.int .u8)))), (28, (.sl (.pair (.int .i64) (.pair (.sl (.int .u8)) .unit)))), (30, (.pair (.sl (.sl (.int .u8))) (.pair (.sl (.pair (.int .i64) (.pair (.sl (.int .u8)) .unit))) .unit))), (34, (.sl (.int .u8))), (120, (.pair (.int .i64) (.pair (.sl (.int .u8)) .unit)))] [(80, (.pair (.sl (.sl (.int .u8))) (.pair (.sl (.pair (.int .i64) (.pair (.sl (.int .u8)) .unit))) .unit)))] []

theorem ct_i_Disk_flush__i_whole (d : (List (List (Int))) × (List ((Int) × (List (Int)) × Unit)) × Unit) (u : Unit) : Ct pg 92 [.mp (.pair (.sl (.sl (.int .u8))) (.pair (.sl (.pair (.int .i64) (.pair (.sl (.int .u8)) .unit))) .unit)) (.pr (.ow (.ow .sh)) (.pr (.ow (.pr .sh (.pr (.ow .sh) .sh))) .sh)) d, .clo 93 []] ⟨[Q_i_Disk_flush__i_whole d u], [], [.mp (.pair (.sl (.sl (.int .u8))) (.pair (.sl (.pair (.int .i64) (.pair (.sl (.int .u8)) .unit))) .unit)) (.pr (.ow (.ow .sh)) (.pr (.ow (.pr .sh (.pr (.ow .sh) .sh))) .sh)) (B_i_Disk_flush__i_whole_d d u)]⟩ := by
  refine ct_claim (O := O_i_Disk_flush__i_whole) (τ := τ_i_Disk_flush__i_whole) (EnvOk.of (by kernel_rfl) (by kernel_rfl)) (GOk.of (.cons ok_i_whole .nil : AllOk pg [(93, con_i_whole)])) mixed (Enters.of (by kernel_rfl)) (fn := Go.Proofs.Try.f92) (by kernel_rfl) rfl (by kernel_rfl) ?_
  intro hp hw
  have hq : Q_i_Disk_flush__i_whole d u := hp _ (List.mem_singleton.2 rfl)
  clear hp
  change claim Lg.std Alg.std τ_i_Disk_flush__i_whole (Gam.of [(93, con_i_whole)]) O_i_Disk_flush__i_whole Go.Proofs.Try.f92 [.mp (.pair (.sl (.sl (.int .u8))) (.pair (.sl (.pair (.int .i64) (.pair (.sl (.int .u8)) .unit))) .unit)) (.pr (.ow (.ow .sh)) (.pr (.ow (.pr .sh (.pr (.ow .sh) .sh))) .sh)) d, .clo 93 []] ⟨[Q_i_Disk_flush__i_whole d u], [], [.mp (.pair (.sl (.sl (.int .u8))) (.pair (.sl (.pair (.int .i64) (.pair (.sl (.int .u8)) .unit))) .unit)) (.pr (.ow (.ow .sh)) (.pr (.ow (.pr .sh (.pr (.ow .sh) .sh))) .sh)) (B_i_Disk_flush__i_whole_d d u)]⟩
  delta con_i_whole
  generalize hg_F_i_whole : F_i_whole = g_F_i_whole
  generalize hg_Q_i_whole : Q_i_whole = g_Q_i_whole
  generalize hB_d : B_i_Disk_flush__i_whole_d d u = B_d
  generalize Q_i_Disk_flush__i_whole d u = Q0
  generalize hL : Lg.std = L
  generalize hA : Alg.std = A
  cbv
  subst hL hA
  try dsimp only [Ty.den]
  obtain ⟨d_0, d_1, ⟨⟩⟩ := d
  simp only [Q_i_Disk_flush__i_whole] at hq
  obtain ⟨⟨hg1, hg2⟩, hg3, hg4, hg5⟩ := hq
  dsimp only at hg1 hg2 hg3 hg4 hg5
  have he0 : Each96 d_0 := hg3
  have hl1 := hw.1.1.1
  have hwh : ∀ i, i < d_1.length → (whole96 (d_0, d_1, ())).getD i 0 = 96 := fun i hi => whole96_at (d_0, d_1, ()) i hi
  have hfa : ∀ i, i < d_1.length → 0 ≤ (whole96 (d_0, d_1, ())).getD i 0 ∧ (whole96 (d_0, d_1, ())).getD i 0 ≤ 96 := fun i hi => by rw [hwh i hi]; omega
  repeat' (first | intro _ | apply And.intro)
  all_goals first | trivial | ((fail_if_success (refine lp_v (V := Unit) (fun _ => ⟨[], []⟩) (fun _ => True) (fun _ => 0) () ?_ ?_ ?_)); subst hB_d hg_F_i_whole hg_Q_i_whole; (try simp only [Alg.std, F_i_whole, Q_i_whole, B_i_Disk_flush__i_whole_d] at *); all_goals grind [crashD]) | skip
  refine lp_v (V := (Int) × (Int) × (Nat) × (Nat) × (List (List Int))) (fun ((i, M, K, N, xs) : (Int) × (Int) × (Nat) × (Nat) × (List (List Int))) => ⟨[.bptr 0 0, .clo 93 [], Jk, Jk, Jk, Jk, Jk, Jk, Jk, .ref (.pair (.int .i64) (.pair (.sl (.int .u8)) .unit)) 2 0 [] 0 K, .dat (.int .i64) M, .dat (.int .i64) i, Jk, Jk, Jk, Jk, Jk, Jk, Jk, Jk, Jk, Jk, Jk, Jk, Jk, Jk, Jk, Jk, Jk, Jk, Jk, Jk, Jk, Jk, Jk], [some (.box [.ref (.sl (.int .u8)) 1 0 [] 0 N, .ref (.pair (.int .i64) (.pair (.sl (.int .u8)) .unit)) 2 0 [] 0 K]), some (.row 0 (.sl (.int .u8)) (.ow .sh) xs), some (.row 0 (.pair (.int .i64) (.pair (.sl (.int .u8)) .unit)) (.pr .sh (.pr (.ow .sh) .sh)) d_1), some (.gh [.bptr 0 0])]⟩) (fun ((i, M, K, N, xs) : (Int) × (Int) × (Nat) × (Nat) × (List (List Int))) => M = d_1.length ∧ K = d_1.length ∧ N = xs.length ∧ 0 ≤ i ∧ i ≤ d_1.length ∧ xs.length = d_0.length ∧ Each96 xs ∧ flushL xs (d_1.drop i.toNat) ((whole96 (d_0, d_1, ())).drop i.toNat) = flushL d_0 d_1 (whole96 (d_0, d_1, ()))) (fun ((i, M, K, N, xs) : (Int) × (Int) × (Nat) × (Nat) × (List (List Int))) => d_1.length - i.toNat) (0, _, _, _, _) rfl ?_ ?_
  · subst hB_d hg_F_i_whole hg_Q_i_whole
    (try simp only [Alg.std, F_i_whole, Q_i_whole, B_i_Disk_flush__i_whole_d] at *)
    all_goals grind
  rintro ⟨i, M, K, N, xs⟩ hf I hI
  replace hf : M = d_1.length ∧ K = d_1.length ∧ N = xs.length ∧ 0 ≤ i ∧ i ≤ d_1.length ∧ xs.length = d_0.length ∧ Each96 xs ∧ flushL xs (d_1.drop i.toNat) ((whole96 (d_0, d_1, ())).drop i.toNat) = flushL d_0 d_1 (whole96 (d_0, d_1, ())) := hf
  generalize hL : Lg.std = L
  generalize hA : Alg.std = A
  cbv
  subst hL hA
  try dsimp only [Ty.den]
  subst hI
  obtain ⟨h1, h2, h3, h4, h5, h6, h7, h8⟩ := hf
  have h5' : i ≤ (d_1.length : Int) := h5
  have hpa := fun (h : i.toNat < d_1.length) => hg5 i.toNat h
  have hfs := fun (h : i.toNat < d_1.length) => hfa i.toNat h
  have hst := fun (h : i.toNat < d_1.length) => flushL_step xs d_1 (whole96 (d_0, d_1, ())) i.toNat h
  have hen := fun (h : d_1.length ≤ i.toNat) => flushL_end xs d_1 (whole96 (d_0, d_1, ())) i.toNat h
  have hwi := hwh i.toNat
  have hsu : (i + 1).toNat = i.toNat + 1 := by omega
  have heat := fun (k : Nat) (h : k < xs.length) => h7.at k h
  have hset := fun (k : Nat) (v : List Int) (h : k < xs.length → v.length = 96) => h7.set k v h
  try dsimp only [putD] at hpa hst
  repeat' (first | intro _ | apply And.intro)
  all_goals first | (with_reducible exact True.intro) | ((fail_if_success (refine lp_v (V := Unit) (fun _ => ⟨[], []⟩) (fun _ => True) (fun _ => 0) () ?_ ?_ ?_)); (try simp only [Lg.std, Alg.std, List.drop_zero, List.take_length] at *); (try refine ⟨(_, _, _, _, _), rfl, ?_, ?_⟩); (all_goals (subst hB_d hg_F_i_whole hg_Q_i_whole; (try simp only [Lg.std, Alg.std, List.drop_zero, List.take_length, F_i_whole, Q_i_whole, B_i_Disk_flush__i_whole_d] at *); first | done | ((try generalize d_1.getD i.toNat (0, [], ()) = xa at *); (try obtain ⟨xa0, xa1, ⟨⟩⟩ := xa); (try dsimp only at *); (try simp only [List.take_zero, List.drop_zero, List.nil_append, List.length_take, List.take_take] at *); grind [crashD])))) | skip
def con_i_Disk_flush__i_whole : Con := ⟨true, g2 (pW (.pair (.sl (.sl (.int .u8))) (.pair (.sl (.pair (.int .i64) (.pair (.sl (.int .u8)) .unit))) .unit)) (.pr (.ow (.ow .sh)) (.pr (.ow (.pr .sh (.pr (.ow .sh) .sh))) .sh))) (pC0 93) fun d u => .one ⟨[Q_i_Disk_flush__i_whole d u], [], [.mp (.pair (.sl (.sl (.int .u8))) (.pair (.sl (.pair (.int .i64) (.pair (.sl (.int .u8)) .unit))) .unit)) (.pr (.ow (.ow .sh)) (.pr (.ow (.pr .sh (.pr (.ow .sh) .sh))) .sh)) (B_i_Disk_flush__i_whole_d d u)]⟩, [(.pr (.ow (.ow .sh)) (.pr (.ow (.pr .sh (.pr (.ow .sh) .sh))) .sh))], false, 0⟩
theorem ok_i_Disk_flush__i_whole : ConOk pg 92 con_i_Disk_flush__i_whole := ConOk.g2 (Enters.of (by kernel_rfl)) ct_i_Disk_flush__i_whole

def B_s_l14Flush_d (d : (List (List (Int))) × (List ((Int) × (List (Int)) × Unit)) × Unit) : (List (List (Int))) × (List ((Int) × (List (Int)) × Unit)) × Unit := crashD d (whole96 d)
def Q_s_l14Flush (d : (List (List (Int))) × (List ((Int) × (List (Int)) × Unit)) × Unit) : Prop := GoodW d 256
def O_s_l14Flush : Opt := ⟨fun i => false, fun i => (match decide (i = 2) with | true => [true, false, true, true, false, false, false, false, false, false, false, false, false, false, false, false, false, false, false, false] | false => []), fun i => .done, fun i => none, fun i => (match decide (i = 2) with | true => true | false => false), fun i => [], fun i => false, fun i => none, fun i => none⟩
def τ_s_l14Flush : Env := Env.of [(3, (.int .i64)), (4, .bool), (28, (.sl (.pair (.int .i64) (.pair (.sl (.int .u8)) .unit)))), (30, (.pair (.sl (.sl (.int .u8))) (.pair (.sl (.pair (.int .i64) (.pair (.sl (.int .u8)) .unit))) .unit))), (75, (.sl (.int .i64)))] [(80, (.pair (.sl (.sl (.int .u8))) (.pair (.sl (.pair (.int .i64) (.pair (.sl (.int .u8)) .unit))) .unit)))] []

theorem ct_s_l14Flush (d : (List (List (Int))) × (List ((Int) × (List (Int)) × Unit)) × Unit) : Ct pg 122 [.mp (.pair (.sl (.sl (.int .u8))) (.pair (.sl (.pair (.int .i64) (.pair (.sl (.int .u8)) .unit))) .unit)) (.pr (.ow (.ow .sh)) (.pr (.ow (.pr .sh (.pr (.ow .sh) .sh))) .sh)) d] ⟨[Q_s_l14Flush d], [], [.mp (.pair (.sl (.sl (.int .u8))) (.pair (.sl (.pair (.int .i64) (.pair (.sl (.int .u8)) .unit))) .unit)) (.pr (.ow (.ow .sh)) (.pr (.ow (.pr .sh (.pr (.ow .sh) .sh))) .sh)) (B_s_l14Flush_d d)]⟩ := by
  refine ct_claim (O := O_s_l14Flush) (τ := τ_s_l14Flush) (EnvOk.of (by kernel_rfl) (by kernel_rfl)) (GOk.of (.cons ok_s_l14Crash .nil : AllOk pg [(133, con_s_l14Crash)])) mixed (Enters.of (by kernel_rfl)) (fn := Go.Proofs.Try.f122) (by kernel_rfl) rfl (by kernel_rfl) ?_
  intro hp hw
  have hq : Q_s_l14Flush d := hp _ (List.mem_singleton.2 rfl)
  clear hp
  change claim Lg.std Alg.std τ_s_l14Flush (Gam.of [(133, con_s_l14Crash)]) O_s_l14Flush Go.Proofs.Try.f122 [.mp (.pair (.sl (.sl (.int .u8))) (.pair (.sl (.pair (.int .i64) (.pair (.sl (.int .u8)) .unit))) .unit)) (.pr (.ow (.ow .sh)) (.pr (.ow (.pr .sh (.pr (.ow .sh) .sh))) .sh)) d] ⟨[Q_s_l14Flush d], [], [.mp (.pair (.sl (.sl (.int .u8))) (.pair (.sl (.pair (.int .i64) (.pair (.sl (.int .u8)) .unit))) .unit)) (.pr (.ow (.ow .sh)) (.pr (.ow (.pr .sh (.pr (.ow .sh) .sh))) .sh)) (B_s_l14Flush_d d)]⟩
  delta con_s_l14Crash
  generalize hg_B_s_l14Crash_d : B_s_l14Crash_d = g_B_s_l14Crash_d
  generalize hg_Q_s_l14Crash : Q_s_l14Crash = g_Q_s_l14Crash
  generalize hB_d : B_s_l14Flush_d d = B_d
  generalize Q_s_l14Flush d = Q0
  generalize hL : Lg.std = L
  generalize hA : Alg.std = A
  cbv
  subst hL hA
  try dsimp only [Ty.den]
  obtain ⟨d_0, d_1, ⟨⟩⟩ := d
  simp only [Q_s_l14Flush] at hq
  obtain ⟨⟨hg1, hg2⟩, hg3, hg4, hg5⟩ := hq
  dsimp only at hg1 hg2 hg3 hg4 hg5
  have he0 : Each96 d_0 := hg3
  have hl1 := hw.1.1.1
  have hwh : ∀ i, i < d_1.length → (whole96 (d_0, d_1, ())).getD i 0 = 96 := fun i hi => whole96_at (d_0, d_1, ()) i hi
  have hfa : ∀ i, i < d_1.length → 0 ≤ (whole96 (d_0, d_1, ())).getD i 0 ∧ (whole96 (d_0, d_1, ())).getD i 0 ≤ 96 := fun i hi => by rw [hwh i hi]; omega
  repeat' (first | intro _ | apply And.intro)
  all_goals first | trivial | ((fail_if_success (refine lp_v (V := Unit) (fun _ => ⟨[], []⟩) (fun _ => True) (fun _ => 0) () ?_ ?_ ?_)); subst hB_d hg_B_s_l14Crash_d hg_Q_s_l14Crash; (try simp only [Alg.std, B_s_l14Crash_d, Q_s_l14Crash, B_s_l14Flush_d] at *); all_goals grind) | skip
  refine lp_v (V := (Int) × (Nat) × (Nat) × (Nat) × (List Int)) (fun ((i, N, K, M, xs) : (Int) × (Nat) × (Nat) × (Nat) × (List Int)) => ⟨[.bptr 0 0, Jk, .ref (.int .i64) 3 0 [] 0 N, .dat (.int .i64) i, Jk, Jk, Jk, Jk, Jk, Jk, Jk, Jk, Jk, Jk, Jk, Jk, Jk, Jk, Jk, Jk], [some (.box [.ref (.sl (.int .u8)) 1 0 [] 0 K, .ref (.pair (.int .i64) (.pair (.sl (.int .u8)) .unit)) 2 0 [] 0 M]), some (.row 0 (.sl (.int .u8)) (.ow .sh) d_0), some (.row 0 (.pair (.int .i64) (.pair (.sl (.int .u8)) .unit)) (.pr .sh (.pr (.ow .sh) .sh)) d_1), some (.row 0 (.int .i64) .sh xs), some (.gh [.bptr 0 0])]⟩) (fun ((i, N, K, M, xs) : (Int) × (Nat) × (Nat) × (Nat) × (List Int)) => N = xs.length ∧ K = d_0.length ∧ M = d_1.length ∧ 0 ≤ i ∧ i ≤ d_1.length ∧ xs = List.replicate i.toNat 96) (fun ((i, N, K, M, xs) : (Int) × (Nat) × (Nat) × (Nat) × (List Int)) => d_1.length - i.toNat) (0, _, _, _, _) rfl ?_ ?_
  · subst hB_d hg_B_s_l14Crash_d hg_Q_s_l14Crash
    (try simp only [Alg.std, B_s_l14Crash_d, Q_s_l14Crash, B_s_l14Flush_d] at *)
    all_goals grind
  rintro ⟨i, N, K, M, xs⟩ hf I hI
  replace hf : N = xs.length ∧ K = d_0.length ∧ M = d_1.length ∧ 0 ≤ i ∧ i ≤ d_1.length ∧ xs = List.replicate i.toNat 96 := hf
  generalize hL : Lg.std = L
  generalize hA : Alg.std = A
  cbv
  subst hL hA
  try dsimp only [Ty.den]
  subst hI
  obtain ⟨h1, h2, h3, h4, h5, h6⟩ := hf
  have h5' : i ≤ (d_1.length : Int) := h5
  have hsu : (i + 1).toNat = i.toNat + 1 := by omega
  have hrs : List.replicate (i.toNat + 1) (96 : Int) = List.replicate i.toNat 96 ++ [96] := List.replicate_succ'
  have hxl : xs.length = i.toNat := by rw [h6, List.length_replicate]
  have hend : d_1.length ≤ i.toNat → xs = whole96 (d_0, d_1, ()) := fun h => by
    rw [h6]
    show _ = List.replicate d_1.length 96
    congr 1
    omega
  have hwl : (whole96 (d_0, d_1, ())).length = d_1.length := by simp [whole96]
  have hG : GoodW (d_0, d_1, PUnit.unit) 256 := ⟨⟨hg1, hg2⟩, hg3, hg4, hg5⟩
  repeat' (first | intro _ | apply And.intro)
  all_goals first | (with_reducible exact True.intro) | ((fail_if_success (refine lp_v (V := Unit) (fun _ => ⟨[], []⟩) (fun _ => True) (fun _ => 0) () ?_ ?_ ?_)); (try simp only [Lg.std, Alg.std, List.drop_zero, List.take_length] at *); (try refine ⟨(_, _, _, _, _), rfl, ?_, ?_⟩); (all_goals (subst hB_d hg_B_s_l14Crash_d hg_Q_s_l14Crash; (try simp only [Lg.std, Alg.std, List.drop_zero, List.take_length, B_s_l14Crash_d, Q_s_l14Crash, B_s_l14Flush_d] at *); first | done | (grind)))) | skip
def con_s_l14Flush : Con := ⟨true, g1 (pW (.pair (.sl (.sl (.int .u8))) (.pair (.sl (.pair (.int .i64) (.pair (.sl (.int .u8)) .unit))) .unit)) (.pr (.ow (.ow .sh)) (.pr (.ow (.pr .sh (.pr (.ow .sh) .sh))) .sh))) fun d => .one ⟨[Q_s_l14Flush d], [], [.mp (.pair (.sl (.sl (.int .u8))) (.pair (.sl (.pair (.int .i64) (.pair (.sl (.int .u8)) .unit))) .unit)) (.pr (.ow (.ow .sh)) (.pr (.ow (.pr .sh (.pr (.ow .sh) .sh))) .sh)) (B_s_l14Flush_d d)]⟩, [(.pr (.ow (.ow .sh)) (.pr (.ow (.pr .sh (.pr (.ow .sh) .sh))) .sh))], false, 0⟩
theorem ok_s_l14Flush : ConOk pg 122 con_s_l14Flush := ConOk.g1 (Enters.of (by kernel_rfl)) ct_s_l14Flush

def F_s_l14Do (d : (List (List (Int))) × (List ((Int) × (List (Int)) × Unit)) × Unit) (acts : List ((Int) × ((Int) × (List (Int)) × Unit) × Unit)) : Int := (doActsD d acts).1
def B_s_l14Do_d (d : (List (List (Int))) × (List ((Int) × (List (Int)) × Unit)) × Unit) (acts : List ((Int) × ((Int) × (List (Int)) × Unit) × Unit)) : (List (List (Int))) × (List ((Int) × (List (Int)) × Unit)) × Unit := (doActsD d acts).2
def Q_s_l14Do (d : (List (List (Int))) × (List ((Int) × (List (Int)) × Unit)) × Unit) (acts : List ((Int) × ((Int) × (List (Int)) × Unit) × Unit)) : Prop := GoodW d 64 ∧ acts.length ≤ 80
def O_s_l14Do : Opt := ⟨fun i => false, fun i => (match decide (i = 2) with | true => [true, true, false, false, false, true, false, false, false, false, false, false, false, false, false, false, false, false, false, false, false, false, false, false, false, false, false, false, false, false, false, false, false, false, false, false, false, false, false, false, false, false, false, false, false, false, false, false, false, false, false, false, false, false, false] | false => []), fun i => .done, fun i => none, fun i => (match decide (i = 2) with | true => true | false => false), fun i => [], fun i => false, fun i => none, fun i => none⟩
def τ_s_l14Do : Env := Env.of [(2, (.int .i64)), (3, (.int .i64)), (4, .bool), (34, (.sl (.int .u8))), (66, (.sl (.pair (.int .i64) (.pair (.pair (.int .i64) (.pair (.sl (.int .u8)) .unit)) .unit)))), (120, (.pair (.int .i64) (.pair (.sl (.int .u8)) .unit))), (122, (.pair (.int .i64) (.pair (.pair (.int .i64) (.pair (.sl (.int .u8)) .unit)) .unit)))] [(80, (.pair (.sl (.sl (.int .u8))) (.pair (.sl (.pair (.int .i64) (.pair (.sl (.int .u8)) .unit))) .unit)))] []

theorem ct_s_l14Do (d : (List (List (Int))) × (List ((Int) × (List (Int)) × Unit)) × Unit) (acts : List ((Int) × ((Int) × (List (Int)) × Unit) × Unit)) : Ct pg 97 [.mp (.pair (.sl (.sl (.int .u8))) (.pair (.sl (.pair (.int .i64) (.pair (.sl (.int .u8)) .unit))) .unit)) (.pr (.ow (.ow .sh)) (.pr (.ow (.pr .sh (.pr (.ow .sh) .sh))) .sh)) d, .dat (.sl (.pair (.int .i64) (.pair (.pair (.int .i64) (.pair (.sl (.int .u8)) .unit)) .unit))) acts] ⟨[Q_s_l14Do d acts], [⟨(.int .i64), .sh, F_s_l14Do d acts⟩], [.mp (.pair (.sl (.sl (.int .u8))) (.pair (.sl (.pair (.int .i64) (.pair (.sl (.int .u8)) .unit))) .unit)) (.pr (.ow (.ow .sh)) (.pr (.ow (.pr .sh (.pr (.ow .sh) .sh))) .sh)) (B_s_l14Do_d d acts)]⟩ := by
  refine ct_claim (O := O_s_l14Do) (τ := τ_s_l14Do) (EnvOk.of (by kernel_rfl) (by kernel_rfl)) (GOk.of (.cons ok_s_l14Sector (.cons ok_s_l14Write (.cons ok_s_l14Flush .nil)) : AllOk pg [(120, con_s_l14Sector), (121, con_s_l14Write), (122, con_s_l14Flush)])) mixed (Enters.of (by kernel_rfl)) (fn := Go.Proofs.Try.f97) (by kernel_rfl) rfl (by kernel_rfl) ?_
  intro hp hw
  have hq : Q_s_l14Do d acts := hp _ (List.mem_singleton.2 rfl)
  clear hp
  change claim Lg.std Alg.std τ_s_l14Do (Gam.of [(120, con_s_l14Sector), (121, con_s_l14Write), (122, con_s_l14Flush)]) O_s_l14Do Go.Proofs.Try.f97 [.mp (.pair (.sl (.sl (.int .u8))) (.pair (.sl (.pair (.int .i64) (.pair (.sl (.int .u8)) .unit))) .unit)) (.pr (.ow (.ow .sh)) (.pr (.ow (.pr .sh (.pr (.ow .sh) .sh))) .sh)) d, .dat (.sl (.pair (.int .i64) (.pair (.pair (.int .i64) (.pair (.sl (.int .u8)) .unit)) .unit))) acts] ⟨[Q_s_l14Do d acts], [⟨(.int .i64), .sh, F_s_l14Do d acts⟩], [.mp (.pair (.sl (.sl (.int .u8))) (.pair (.sl (.pair (.int .i64) (.pair (.sl (.int .u8)) .unit))) .unit)) (.pr (.ow (.ow .sh)) (.pr (.ow (.pr .sh (.pr (.ow .sh) .sh))) .sh)) (B_s_l14Do_d d acts)]⟩
  delta con_s_l14Sector con_s_l14Write con_s_l14Flush
  generalize hg_F_s_l14Sector : F_s_l14Sector = g_F_s_l14Sector
  generalize hg_Q_s_l14Sector : Q_s_l14Sector = g_Q_s_l14Sector
  generalize hg_B_s_l14Write_d : B_s_l14Write_d = g_B_s_l14Write_d
  generalize hg_Q_s_l14Write : Q_s_l14Write = g_Q_s_l14Write
  generalize hg_B_s_l14Flush_d : B_s_l14Flush_d = g_B_s_l14Flush_d
  generalize hg_Q_s_l14Flush : Q_s_l14Flush = g_Q_s_l14Flush
  generalize hR0 : F_s_l14Do d acts = R0
  generalize hB_d : B_s_l14Do_d d acts = B_d
  generalize Q_s_l14Do d acts = Q0
  generalize hL : Lg.std = L
  generalize hA : Alg.std = A
  cbv
  subst hL hA
  try dsimp only [Ty.den]
  obtain ⟨d_0, d_1, ⟨⟩⟩ := d
  simp only [Q_s_l14Do] at hq
  obtain ⟨hq1, hq2⟩ := hq
  repeat' (first | intro _ | apply And.intro)
  all_goals first | trivial | ((fail_if_success (refine lp_v (V := Unit) (fun _ => ⟨[], []⟩) (fun _ => True) (fun _ => 0) () ?_ ?_ ?_)); subst hR0 hB_d hg_F_s_l14Sector hg_Q_s_l14Sector hg_B_s_l14Write_d hg_Q_s_l14Write hg_B_s_l14Flush_d hg_Q_s_l14Flush; (try simp only [Alg.std, F_s_l14Sector, B_s_l14Write_d, B_s_l14Flush_d, Q_s_l14Sector, Q_s_l14Write, Q_s_l14Flush, F_s_l14Do, B_s_l14Do_d] at *); all_goals grind) | skip
  refine lp_v (V := (Int) × (Nat) × (Nat) × (List (List Int)) × (List ((Int) × (List (Int)) × Unit))) (fun ((i, N, K, xs, ps) : (Int) × (Nat) × (Nat) × (List (List Int)) × (List ((Int) × (List (Int)) × Unit))) => ⟨[.bptr 0 0, .dat (.sl (.pair (.int .i64) (.pair (.pair (.int .i64) (.pair (.sl (.int .u8)) .unit)) .unit))) acts, Jk, Jk, Jk, .dat (.int .i64) i, Jk, Jk, Jk, Jk, Jk, Jk, Jk, Jk, Jk, Jk, Jk, Jk, Jk, Jk, Jk, Jk, Jk, Jk, Jk, Jk, Jk, Jk, Jk, Jk, Jk, Jk, Jk, Jk, Jk, Jk, Jk, Jk, Jk, Jk, Jk, Jk, Jk, Jk, Jk, Jk, Jk, Jk, Jk, Jk, Jk, Jk, Jk, Jk, Jk], [some (.box [.ref (.sl (.int .u8)) 1 0 [] 0 N, .ref (.pair (.int .i64) (.pair (.sl (.int .u8)) .unit)) 2 0 [] 0 K]), some (.row 0 (.sl (.int .u8)) (.ow .sh) xs), some (.row 0 (.pair (.int .i64) (.pair (.sl (.int .u8)) .unit)) (.pr .sh (.pr (.ow .sh) .sh)) ps), some (.gh [.bptr 0 0])]⟩) (fun ((i, N, K, xs, ps) : (Int) × (Nat) × (Nat) × (List (List Int)) × (List ((Int) × (List (Int)) × Unit))) => N = xs.length ∧ K = ps.length ∧ 0 ≤ i ∧ i ≤ acts.length ∧ GoodW (xs, ps, PUnit.unit) (64 + i.toNat) ∧ doActsD (xs, ps, PUnit.unit) (acts.drop i.toNat) = doActsD (d_0, d_1, PUnit.unit) acts) (fun ((i, N, K, xs, ps) : (Int) × (Nat) × (Nat) × (List (List Int)) × (List ((Int) × (List (Int)) × Unit))) => acts.length - i.toNat) (0, _, _, _, _) rfl ?_ ?_
  · subst hR0 hB_d hg_F_s_l14Sector hg_Q_s_l14Sector hg_B_s_l14Write_d hg_Q_s_l14Write hg_B_s_l14Flush_d hg_Q_s_l14Flush
    (try simp only [Alg.std, F_s_l14Sector, B_s_l14Write_d, B_s_l14Flush_d, Q_s_l14Sector, Q_s_l14Write, Q_s_l14Flush, F_s_l14Do, B_s_l14Do_d] at *)
    all_goals grind
  rintro ⟨i, N, K, xs, ps⟩ hf I hI
  replace hf : N = xs.length ∧ K = ps.length ∧ 0 ≤ i ∧ i ≤ acts.length ∧ GoodW (xs, ps, PUnit.unit) (64 + i.toNat) ∧ doActsD (xs, ps, PUnit.unit) (acts.drop i.toNat) = doActsD (d_0, d_1, PUnit.unit) acts := hf
  generalize hL : Lg.std = L
  generalize hA : Alg.std = A
  cbv
  subst hL hA
  try dsimp only [Ty.den]
  subst hI
  obtain ⟨h1, h2, h3, h4, h5, h6⟩ := hf
  have hgd := h5
  have h4' : i ≤ (acts.length : Int) := h4
  have hsu : (i + 1).toNat = i.toNat + 1 := by omega
  have hgs := hgd.mono (k' := 256) (by omega)
  have hgo := doAct_good hgd (acts.getD i.toNat actD)
  have hst := fun (h : i.toNat < acts.length) => doActs_step (xs, ps, ()) acts i.toNat h
  have hen := fun (h : acts.length ≤ i.toNat) => doActs_end (xs, ps, ()) acts i.toNat h
  have hpl : ps.length ≤ 64 + i.toNat := hgd.2.2.1
  have h64 : 64 + (i + 1).toNat = 64 + i.toNat + 1 := by omega
  rw [← h64] at hgo
  try dsimp only [actD, putD] at hgo hst
  repeat' (first | intro _ | apply And.intro)
  all_goals first | (with_reducible exact True.intro) | ((fail_if_success (refine lp_v (V := Unit) (fun _ => ⟨[], []⟩) (fun _ => True) (fun _ => 0) () ?_ ?_ ?_)); (try simp only [Lg.std, Alg.std, List.drop_zero, List.take_length] at *); (try refine ⟨(_, _, _, _, _), rfl, ?_, ?_⟩); (all_goals (subst hR0 hB_d hg_F_s_l14Sector hg_Q_s_l14Sector hg_B_s_l14Write_d hg_Q_s_l14Write hg_B_s_l14Flush_d hg_Q_s_l14Flush; (try simp only [Lg.std, Alg.std, List.drop_zero, List.take_length, F_s_l14Sector, B_s_l14Write_d, B_s_l14Flush_d, Q_s_l14Sector, Q_s_l14Write, Q_s_l14Flush, F_s_l14Do, B_s_l14Do_d] at *); first | done | ((try generalize acts.getD i.toNat (0, (0, [], ()), ()) = xa at *); (try obtain ⟨xa0, ⟨xa1, xa2, ⟨⟩⟩, ⟨⟩⟩ := xa); (try dsimp only at *); (try have he1 := disk_eta (writeD (xs, ps, ()) xa1 xa2)); (try have he2 := disk_eta (crashD (xs, ps, ()) (whole96 (xs, ps, ())))); (try simp only [doAct] at *); (try have hwo := writeFault_ok (xs, ps, ()) xa1 xa2); grind [writeFault])))) | skip
def con_s_l14Do : Con := ⟨true, g2 (pW (.pair (.sl (.sl (.int .u8))) (.pair (.sl (.pair (.int .i64) (.pair (.sl (.int .u8)) .unit))) .unit)) (.pr (.ow (.ow .sh)) (.pr (.ow (.pr .sh (.pr (.ow .sh) .sh))) .sh))) (pD (.sl (.pair (.int .i64) (.pair (.pair (.int .i64) (.pair (.sl (.int .u8)) .unit)) .unit)))) fun d acts => .one ⟨[Q_s_l14Do d acts], [⟨(.int .i64), .sh, F_s_l14Do d acts⟩], [.mp (.pair (.sl (.sl (.int .u8))) (.pair (.sl (.pair (.int .i64) (.pair (.sl (.int .u8)) .unit))) .unit)) (.pr (.ow (.ow .sh)) (.pr (.ow (.pr .sh (.pr (.ow .sh) .sh))) .sh)) (B_s_l14Do_d d acts)]⟩, [(.pr (.ow (.ow .sh)) (.pr (.ow (.pr .sh (.pr (.ow .sh) .sh))) .sh))], false, 0⟩
theorem ok_s_l14Do : ConOk pg 97 con_s_l14Do := ConOk.g2 (Enters.of (by kernel_rfl)) ct_s_l14Do

def F_i_DoActs (d : (List (List (Int))) × (List ((Int) × (List (Int)) × Unit)) × Unit) (acts : List ((Int) × ((Int) × (List (Int)) × Unit) × Unit)) : (Int) × ((List (List (Int))) × (List ((Int) × (List (Int)) × Unit)) × Unit) × Unit := doActs d acts
def Q_i_DoActs (d : (List (List (Int))) × (List ((Int) × (List (Int)) × Unit)) × Unit) (acts : List ((Int) × ((Int) × (List (Int)) × Unit) × Unit)) : Prop := tot tDisk d ≤ 1048576
def O_i_DoActs : Opt := ⟨fun i => false, fun i => (match decide (i = 8) with | true => [false, false, false, false, true, false, true, false, false, false, false, false, false, false, false, false, false, false, false, false, false, false, true, true, true, false, false, false, false, false, false, false, false, false, false, false, false, false, false, false, false, false, false, false, false, false, false, false, false, false, false, false, false, false, false, false, false, false, false, false, false, false, false, false, false, false, false, false, false, false, false, false, false] | false => []), fun i => .done, fun i => none, fun i => (match decide (i = 8) with | true => true | false => false), fun i => [], fun i => false, fun i => none, fun i => none⟩
def τ_i_DoActs : Env := Env.of [(2, (.int .i64)), (3, (.int .i64)), (4, .bool), (30, (.pair (.sl (.sl (.int .u8))) (.pair (.sl (.pair (.int .i64) (.pair (.sl (.int .u8)) .unit))) .unit))), (34, (.sl (.int .u8))), (66, (.sl (.pair (.int .i64) (.pair (.pair (.int .i64) (.pair (.sl (.int .u8)) .unit)) .unit)))), (70, (.pair (.int .i64) (.pair (.pair (.sl (.sl (.int .u8))) (.pair (.sl (.pair (.int .i64) (.pair (.sl (.int .u8)) .unit))) .unit)) .unit))), (120, (.pair (.int .i64) (.pair (.sl (.int .u8)) .unit))), (122, (.pair (.int .i64) (.pair (.pair (.int .i64) (.pair (.sl (.int .u8)) .unit)) .unit)))] [] []

theorem ct_i_DoActs (d : (List (List (Int))) × (List ((Int) × (List (Int)) × Unit)) × Unit) (acts : List ((Int) × ((Int) × (List (Int)) × Unit) × Unit)) : Ct pg 39 [.dat (.pair (.sl (.sl (.int .u8))) (.pair (.sl (.pair (.int .i64) (.pair (.sl (.int .u8)) .unit))) .unit)) d, .dat (.sl (.pair (.int .i64) (.pair (.pair (.int .i64) (.pair (.sl (.int .u8)) .unit)) .unit))) acts] ⟨[Q_i_DoActs d acts], [⟨(.pair (.int .i64) (.pair (.pair (.sl (.sl (.int .u8))) (.pair (.sl (.pair (.int .i64) (.pair (.sl (.int .u8)) .unit))) .unit)) .unit)), (.pr .sh (.pr (.pr (.ow (.ow .sh)) (.pr (.ow (.pr .sh (.pr (.ow .sh) .sh))) .sh)) .sh)), F_i_DoActs d acts⟩], []⟩ := by
  refine ct_claim (O := O_i_DoActs) (τ := τ_i_DoActs) (EnvOk.of (by kernel_rfl) (by kernel_rfl)) (GOk.of (.cons ok_i_DiskFault (.cons ok_i_ownDisk (.cons ok_i_Disk_writeFault (.cons ok_i_Disk_write (.cons ok_i_whole (.cons ok_i_Disk_flush__i_whole .nil))))) : AllOk pg [(43, con_i_DiskFault), (91, con_i_ownDisk), (94, con_i_Disk_writeFault), (95, con_i_Disk_write), (93, con_i_whole), (92, con_i_Disk_flush__i_whole)])) mixed (Enters.of (by kernel_rfl)) (fn := Go.Proofs.Try.f39) (by kernel_rfl) rfl (by kernel_rfl) ?_
  intro hp hw
  have hq : Q_i_DoActs d acts := hp _ (List.mem_singleton.2 rfl)
  clear hp
  change claim Lg.std Alg.std τ_i_DoActs (Gam.of [(43, con_i_DiskFault), (91, con_i_ownDisk), (94, con_i_Disk_writeFault), (95, con_i_Disk_write), (93, con_i_whole), (92, con_i_Disk_flush__i_whole)]) O_i_DoActs Go.Proofs.Try.f39 [.dat (.pair (.sl (.sl (.int .u8))) (.pair (.sl (.pair (.int .i64) (.pair (.sl (.int .u8)) .unit))) .unit)) d, .dat (.sl (.pair (.int .i64) (.pair (.pair (.int .i64) (.pair (.sl (.int .u8)) .unit)) .unit))) acts] ⟨[Q_i_DoActs d acts], [⟨(.pair (.int .i64) (.pair (.pair (.sl (.sl (.int .u8))) (.pair (.sl (.pair (.int .i64) (.pair (.sl (.int .u8)) .unit))) .unit)) .unit)), (.pr .sh (.pr (.pr (.ow (.ow .sh)) (.pr (.ow (.pr .sh (.pr (.ow .sh) .sh))) .sh)) .sh)), F_i_DoActs d acts⟩], []⟩
  delta con_i_DiskFault con_i_ownDisk con_i_Disk_writeFault con_i_Disk_write con_i_whole con_i_Disk_flush__i_whole
  generalize hg_F_i_DiskFault : F_i_DiskFault = g_F_i_DiskFault
  generalize hg_Q_i_DiskFault : Q_i_DiskFault = g_Q_i_DiskFault
  generalize hg_F_i_ownDisk : F_i_ownDisk = g_F_i_ownDisk
  generalize hg_Q_i_ownDisk : Q_i_ownDisk = g_Q_i_ownDisk
  generalize hg_F_i_Disk_writeFault : F_i_Disk_writeFault = g_F_i_Disk_writeFault
  generalize hg_Q_i_Disk_writeFault : Q_i_Disk_writeFault = g_Q_i_Disk_writeFault
  generalize hg_B_i_Disk_write_d : B_i_Disk_write_d = g_B_i_Disk_write_d
  generalize hg_Q_i_Disk_write : Q_i_Disk_write = g_Q_i_Disk_write
  generalize hg_F_i_whole : F_i_whole = g_F_i_whole
  generalize hg_Q_i_whole : Q_i_whole = g_Q_i_whole
  generalize hg_B_i_Disk_flush__i_whole_d : B_i_Disk_flush__i_whole_d = g_B_i_Disk_flush__i_whole_d
  generalize hg_Q_i_Disk_flush__i_whole : Q_i_Disk_flush__i_whole = g_Q_i_Disk_flush__i_whole
  generalize hR0 : F_i_DoActs d acts = R0
  generalize Q_i_DoActs d acts = Q0
  generalize hL : Lg.std = L
  generalize hA : Alg.std = A
  cbv
  subst hL hA
  try dsimp only [Ty.den]
  obtain ⟨d_0, d_1, ⟨⟩⟩ := d
  have hgd := fun h => (diskFault_good (d_0, d_1, PUnit.unit) h).w
  simp only [Q_i_DoActs] at hq
  repeat' (first | intro _ | apply And.intro)
  all_goals first | trivial | ((fail_if_success (refine lp_v (V := Unit) (fun _ => ⟨[], []⟩) (fun _ => True) (fun _ => 0) () ?_ ?_ ?_)); subst hR0 hg_F_i_DiskFault hg_Q_i_DiskFault hg_F_i_ownDisk hg_Q_i_ownDisk hg_F_i_Disk_writeFault hg_Q_i_Disk_writeFault hg_B_i_Disk_write_d hg_Q_i_Disk_write hg_F_i_whole hg_Q_i_whole hg_B_i_Disk_flush__i_whole_d hg_Q_i_Disk_flush__i_whole; (try simp only [Alg.std, F_i_DiskFault, F_i_ownDisk, F_i_Disk_writeFault, F_i_whole, B_i_Disk_write_d, B_i_Disk_flush__i_whole_d, Q_i_DiskFault, Q_i_ownDisk, Q_i_Disk_writeFault, Q_i_Disk_write, Q_i_whole, Q_i_Disk_flush__i_whole, F_i_DoActs] at *); all_goals grind [doActs]) | skip
  refine lp_v (V := (Int) × (Int) × (Nat) × (Nat) × (List (List Int)) × (List ((Int) × (List (Int)) × Unit))) (fun ((i, M, N, K, xs, ps) : (Int) × (Int) × (Nat) × (Nat) × (List (List Int)) × (List ((Int) × (List (Int)) × Unit))) => ⟨[Jk, Jk, Jk, Jk, .bptr 0 0, Jk, .bptr 1 0, Jk, Jk, Jk, Jk, Jk, Jk, Jk, Jk, Jk, Jk, Jk, Jk, Jk, Jk, Jk, .dat (.sl (.pair (.int .i64) (.pair (.pair (.int .i64) (.pair (.sl (.int .u8)) .unit)) .unit))) acts, .dat (.int .i64) M, .dat (.int .i64) i, Jk, Jk, Jk, Jk, Jk, Jk, Jk, Jk, Jk, Jk, Jk, Jk, Jk, Jk, Jk, Jk, Jk, Jk, Jk, Jk, Jk, Jk, Jk, Jk, Jk, Jk, Jk, Jk, Jk, Jk, Jk, Jk, Jk, Jk, Jk, Jk, Jk, Jk, Jk, Jk, Jk, Jk, Jk, Jk, Jk, Jk, Jk, Jk], [some (.box [.dat (.int .i64) 0, .nilS, .nilS]), some (.box [.ref (.sl (.int .u8)) 2 0 [] 0 N, .ref (.pair (.int .i64) (.pair (.sl (.int .u8)) .unit)) 3 0 [] 0 K]), some (.row 0 (.sl (.int .u8)) (.ow .sh) xs), some (.row 0 (.pair (.int .i64) (.pair (.sl (.int .u8)) .unit)) (.pr .sh (.pr (.ow .sh) .sh)) ps)]⟩) (fun ((i, M, N, K, xs, ps) : (Int) × (Int) × (Nat) × (Nat) × (List (List Int)) × (List ((Int) × (List (Int)) × Unit))) => M = acts.length ∧ N = xs.length ∧ K = ps.length ∧ 0 ≤ i ∧ i ≤ acts.length ∧ GoodW (xs, ps, PUnit.unit) (64 + i.toNat) ∧ acts.length ≤ 80 ∧ diskFault (d_0, d_1, PUnit.unit) = 0 ∧ doActsD (xs, ps, PUnit.unit) (acts.drop i.toNat) = doActsD (d_0, d_1, PUnit.unit) acts) (fun ((i, M, N, K, xs, ps) : (Int) × (Int) × (Nat) × (Nat) × (List (List Int)) × (List ((Int) × (List (Int)) × Unit))) => acts.length - i.toNat) (0, _, _, _, _, _) rfl ?_ ?_
  · subst hR0 hg_F_i_DiskFault hg_Q_i_DiskFault hg_F_i_ownDisk hg_Q_i_ownDisk hg_F_i_Disk_writeFault hg_Q_i_Disk_writeFault hg_B_i_Disk_write_d hg_Q_i_Disk_write hg_F_i_whole hg_Q_i_whole hg_B_i_Disk_flush__i_whole_d hg_Q_i_Disk_flush__i_whole
    (try simp only [Alg.std, F_i_DiskFault, F_i_ownDisk, F_i_Disk_writeFault, F_i_whole, B_i_Disk_write_d, B_i_Disk_flush__i_whole_d, Q_i_DiskFault, Q_i_ownDisk, Q_i_Disk_writeFault, Q_i_Disk_write, Q_i_whole, Q_i_Disk_flush__i_whole, F_i_DoActs] at *)
    all_goals grind
  rintro ⟨i, M, N, K, xs, ps⟩ hf I hI
  replace hf : M = acts.length ∧ N = xs.length ∧ K = ps.length ∧ 0 ≤ i ∧ i ≤ acts.length ∧ GoodW (xs, ps, PUnit.unit) (64 + i.toNat) ∧ acts.length ≤ 80 ∧ diskFault (d_0, d_1, PUnit.unit) = 0 ∧ doActsD (xs, ps, PUnit.unit) (acts.drop i.toNat) = doActsD (d_0, d_1, PUnit.unit) acts := hf
  generalize hL : Lg.std = L
  generalize hA : Alg.std = A
  cbv
  subst hL hA
  try dsimp only [Ty.den]
  subst hI
  obtain ⟨h1, h2, h3, h4, h5, h6, h7, h8, h9⟩ := hf
  have hgd := h6
  have h5' : i ≤ (acts.length : Int) := h5
  have hsu : (i + 1).toNat = i.toNat + 1 := by omega
  have hgs := hgd.mono (k' := 256) (by omega)
  have hgo := doAct_good hgd (acts.getD i.toNat actD)
  have hst := fun (h : i.toNat < acts.length) => doActs_step (xs, ps, ()) acts i.toNat h
  have hen := fun (h : acts.length ≤ i.toNat) => doActs_end (xs, ps, ()) acts i.toNat h
  have hpl : ps.length ≤ 64 + i.toNat := hgd.2.2.1
  have h64 : 64 + (i + 1).toNat = 64 + i.toNat + 1 := by omega
  rw [← h64] at hgo
  try dsimp only [actD, putD] at hgo hst
  repeat' (first | intro _ | apply And.intro)
  all_goals first | (with_reducible exact True.intro) | ((fail_if_success (refine lp_v (V := Unit) (fun _ => ⟨[], []⟩) (fun _ => True) (fun _ => 0) () ?_ ?_ ?_)); (try simp only [Lg.std, Alg.std, List.drop_zero, List.take_length] at *); (try refine ⟨(_, _, _, _, _, _), rfl, ?_, ?_⟩); (all_goals (subst hR0 hg_F_i_DiskFault hg_Q_i_DiskFault hg_F_i_ownDisk hg_Q_i_ownDisk hg_F_i_Disk_writeFault hg_Q_i_Disk_writeFault hg_B_i_Disk_write_d hg_Q_i_Disk_write hg_F_i_whole hg_Q_i_whole hg_B_i_Disk_flush__i_whole_d hg_Q_i_Disk_flush__i_whole; (try simp only [Lg.std, Alg.std, List.drop_zero, List.take_length, F_i_DiskFault, F_i_ownDisk, F_i_Disk_writeFault, F_i_whole, B_i_Disk_write_d, B_i_Disk_flush__i_whole_d, Q_i_DiskFault, Q_i_ownDisk, Q_i_Disk_writeFault, Q_i_Disk_write, Q_i_whole, Q_i_Disk_flush__i_whole, F_i_DoActs] at *); first | done | ((try generalize acts.getD i.toNat (0, (0, [], ()), ()) = xa at *); (try obtain ⟨xa0, ⟨xa1, xa2, ⟨⟩⟩, ⟨⟩⟩ := xa); (try dsimp only at *); (try have he1 := disk_eta (writeD (xs, ps, ()) xa1 xa2)); (try have he2 := disk_eta (crashD (xs, ps, ()) (whole96 (xs, ps, ())))); (try simp only [doAct] at *); (try have hwo := writeFault_ok (xs, ps, ()) xa1 xa2); grind [writeFault, doActs])))) | skip
def con_i_DoActs : Con := ⟨true, g2 (pD (.pair (.sl (.sl (.int .u8))) (.pair (.sl (.pair (.int .i64) (.pair (.sl (.int .u8)) .unit))) .unit))) (pD (.sl (.pair (.int .i64) (.pair (.pair (.int .i64) (.pair (.sl (.int .u8)) .unit)) .unit)))) fun d acts => .one ⟨[Q_i_DoActs d acts], [⟨(.pair (.int .i64) (.pair (.pair (.sl (.sl (.int .u8))) (.pair (.sl (.pair (.int .i64) (.pair (.sl (.int .u8)) .unit))) .unit)) .unit)), (.pr .sh (.pr (.pr (.ow (.ow .sh)) (.pr (.ow (.pr .sh (.pr (.ow .sh) .sh))) .sh)) .sh)), F_i_DoActs d acts⟩], []⟩, [], false, 0⟩
theorem ok_i_DoActs : ConOk pg 39 con_i_DoActs := ConOk.g2 (Enters.of (by kernel_rfl)) ct_i_DoActs

def F_s_DoActs (d : (List (List (Int))) × (List ((Int) × (List (Int)) × Unit)) × Unit) (acts : List ((Int) × ((Int) × (List (Int)) × Unit) × Unit)) : (Int) × ((List (List (Int))) × (List ((Int) × (List (Int)) × Unit)) × Unit) × Unit := doActs d acts
def Q_s_DoActs (d : (List (List (Int))) × (List ((Int) × (List (Int)) × Unit)) × Unit) (acts : List ((Int) × ((Int) × (List (Int)) × Unit) × Unit)) : Prop := tot tDisk d ≤ 1048576
def O_s_DoActs : Opt := ⟨fun i => false, fun i => [], fun i => .done, fun i => none, fun i => false, fun i => [], fun i => false, fun i => none, fun i => none⟩
def τ_s_DoActs : Env := Env.of [(2, (.int .i64)), (3, (.int .i64)), (4, .bool), (30, (.pair (.sl (.sl (.int .u8))) (.pair (.sl (.pair (.int .i64) (.pair (.sl (.int .u8)) .unit))) .unit))), (66, (.sl (.pair (.int .i64) (.pair (.pair (.int .i64) (.pair (.sl (.int .u8)) .unit)) .unit)))), (70, (.pair (.int .i64) (.pair (.pair (.sl (.sl (.int .u8))) (.pair (.sl (.pair (.int .i64) (.pair (.sl (.int .u8)) .unit))) .unit)) .unit)))] [(80, (.pair (.sl (.sl (.int .u8))) (.pair (.sl (.pair (.int .i64) (.pair (.sl (.int .u8)) .unit))) .unit)))] []

theorem ct_s_DoActs (d : (List (List (Int))) × (List ((Int) × (List (Int)) × Unit)) × Unit) (acts : List ((Int) × ((Int) × (List (Int)) × Unit) × Unit)) : Ct pg 40 [.dat (.pair (.sl (.sl (.int .u8))) (.pair (.sl (.pair (.int .i64) (.pair (.sl (.int .u8)) .unit))) .unit)) d, .dat (.sl (.pair (.int .i64) (.pair (.pair (.int .i64) (.pair (.sl (.int .u8)) .unit)) .unit))) acts] ⟨[Q_s_DoActs d acts], [⟨(.pair (.int .i64) (.pair (.pair (.sl (.sl (.int .u8))) (.pair (.sl (.pair (.int .i64) (.pair (.sl (.int .u8)) .unit))) .unit)) .unit)), (.pr .sh (.pr (.pr (.ow (.ow .sh)) (.pr (.ow (.pr .sh (.pr (.ow .sh) .sh))) .sh)) .sh)), F_s_DoActs d acts⟩], []⟩ := by
  refine ct_claim (O := O_s_DoActs) (τ := τ_s_DoActs) (EnvOk.of (by kernel_rfl) (by kernel_rfl)) (GOk.of (.cons ok_s_DiskFault (.cons ok_s_l14Copy (.cons ok_s_l14Do .nil)) : AllOk pg [(46, con_s_DiskFault), (96, con_s_l14Copy), (97, con_s_l14Do)])) mixed (Enters.of (by kernel_rfl)) (fn := Go.Proofs.Try.f40) (by kernel_rfl) rfl (by kernel_rfl) ?_
  intro hp hw
  have hq : Q_s_DoActs d acts := hp _ (List.mem_singleton.2 rfl)
  clear hp
  change claim Lg.std Alg.std τ_s_DoActs (Gam.of [(46, con_s_DiskFault), (96, con_s_l14Copy), (97, con_s_l14Do)]) O_s_DoActs Go.Proofs.Try.f40 [.dat (.pair (.sl (.sl (.int .u8))) (.pair (.sl (.pair (.int .i64) (.pair (.sl (.int .u8)) .unit))) .unit)) d, .dat (.sl (.pair (.int .i64) (.pair (.pair (.int .i64) (.pair (.sl (.int .u8)) .unit)) .unit))) acts] ⟨[Q_s_DoActs d acts], [⟨(.pair (.int .i64) (.pair (.pair (.sl (.sl (.int .u8))) (.pair (.sl (.pair (.int .i64) (.pair (.sl (.int .u8)) .unit))) .unit)) .unit)), (.pr .sh (.pr (.pr (.ow (.ow .sh)) (.pr (.ow (.pr .sh (.pr (.ow .sh) .sh))) .sh)) .sh)), F_s_DoActs d acts⟩], []⟩
  delta con_s_DiskFault con_s_l14Copy con_s_l14Do
  generalize hg_F_s_DiskFault : F_s_DiskFault = g_F_s_DiskFault
  generalize hg_Q_s_DiskFault : Q_s_DiskFault = g_Q_s_DiskFault
  generalize hg_F_s_l14Copy : F_s_l14Copy = g_F_s_l14Copy
  generalize hg_Q_s_l14Copy : Q_s_l14Copy = g_Q_s_l14Copy
  generalize hg_F_s_l14Do : F_s_l14Do = g_F_s_l14Do
  generalize hg_B_s_l14Do_d : B_s_l14Do_d = g_B_s_l14Do_d
  generalize hg_Q_s_l14Do : Q_s_l14Do = g_Q_s_l14Do
  generalize hR0 : F_s_DoActs d acts = R0
  generalize Q_s_DoActs d acts = Q0
  generalize hL : Lg.std = L
  generalize hA : Alg.std = A
  cbv
  subst hL hA
  try dsimp only [Ty.den]
  obtain ⟨d_0, d_1, ⟨⟩⟩ := d
  have hgd := fun h => (diskFault_good (d_0, d_1, PUnit.unit) h).w
  subst hR0 hg_F_s_DiskFault hg_Q_s_DiskFault hg_F_s_l14Copy hg_Q_s_l14Copy hg_F_s_l14Do hg_B_s_l14Do_d hg_Q_s_l14Do
  simp only [Q_s_DoActs] at hq
  simp only [Lg.std, Alg.std, List.drop_zero, List.take_length, F_s_DiskFault, F_s_l14Copy, F_s_l14Do, B_s_l14Do_d, Q_s_DiskFault, Q_s_l14Copy, Q_s_l14Do, F_s_DoActs, doActs] at *
  try simp only [true_and, and_true, false_implies, implies_true, imp_self]
  generalize hG : GoodW (d_0, d_1, PUnit.unit) 64 = G at *
  repeat' (first | intro _ | apply And.intro)
  all_goals grind
def con_s_DoActs : Con := ⟨true, g2 (pD (.pair (.sl (.sl (.int .u8))) (.pair (.sl (.pair (.int .i64) (.pair (.sl (.int .u8)) .unit))) .unit))) (pD (.sl (.pair (.int .i64) (.pair (.pair (.int .i64) (.pair (.sl (.int .u8)) .unit)) .unit)))) fun d acts => .one ⟨[Q_s_DoActs d acts], [⟨(.pair (.int .i64) (.pair (.pair (.sl (.sl (.int .u8))) (.pair (.sl (.pair (.int .i64) (.pair (.sl (.int .u8)) .unit))) .unit)) .unit)), (.pr .sh (.pr (.pr (.ow (.ow .sh)) (.pr (.ow (.pr .sh (.pr (.ow .sh) .sh))) .sh)) .sh)), F_s_DoActs d acts⟩], []⟩, [], false, 0⟩
theorem ok_s_DoActs : ConOk pg 40 con_s_DoActs := ConOk.g2 (Enters.of (by kernel_rfl)) ct_s_DoActs
end Go.Vee
