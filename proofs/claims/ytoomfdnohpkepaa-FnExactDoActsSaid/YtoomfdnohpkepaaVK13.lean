/-
  Contracts of functions of the program: what each returns for all arguments that its precondition lets in.
-/
import Derived.Test.YtoomfdnohpkepaaVK12
set_option linter.unusedSimpArgs false
set_option linter.unusedVariables false
set_option maxRecDepth 100000
set_option maxHeartbeats 4000000
set_option synthInstance.maxHeartbeats 4000000
set_option synthInstance.maxSize 20000
namespace Go.Vee
open Go
theorem disk_eta (d : DiskT) : (d.1, d.2.1, PUnit.unit) = d := rfl

def B_i_Disk_flush__i_whole_d (d : (List (List (Int))) × (List ((Int) × (List (Int)) × Unit)) × Unit) (u : Unit) : (List (List (Int))) × (List ((Int) × (List (Int)) × Unit)) × Unit := crashD d (whole96 d)
def Q_i_Disk_flush__i_whole (d : (List (List (Int))) × (List ((Int) × (List (Int)) × Unit)) × Unit) (u : Unit) : Prop := GoodW d 256
def O_i_Disk_flush__i_whole : Opt := ⟨fun i => false, fun i => (match decide (i = 1) with | true => [true, true, false, false, false, false, false, false, false, true, true, true, false, false, false, false, false, false, false, false, false, false, false, false, false, false, false, false, false, false, false, false, false, false, false] | false => []), fun i => (match decide (i = 3) with | true => (.take 0 (.take 1 (.take 2 (.take 4 (.take 8 (.take 10 (.take 11 (.alt 3 (.alt 5 (.take 6 (.alt 7 (.alt 9 (.alt 12 (.take 13 (.alt 14 .done .no)) .no) (.alt 12 (.alt 9 (.take 13 (.alt 14 .done .no)) .no) .no)) (.alt 9 (.alt 7 (.alt 12 (.take 13 (.alt 14 .done .no)) .no) (.alt 12 (.take 13 (.alt 7 (.alt 14 .done .no) .no)) .no)) (.alt 12 (.alt 7 (.alt 9 (.take 13 (.alt 14 .done .no)) .no) (.alt 9 (.take 13 (.alt 7 (.alt 14 .done .no) .no)) .no)) .no)))) (.alt 9 (.alt 5 (.take 6 (.alt 7 (.alt 12 (.take 13 (.alt 14 .done .no)) .no) (.alt 12 (.take 13 (.alt 7 (.alt 14 .done .no) .no)) .no))) (.alt 12 (.take 13 (.alt 5 (.take 6 (.alt 7 (.alt 14 .done .no) .no)) .no)) .no)) (.alt 12 (.alt 5 (.take 6 (.alt 7 (.alt 9 (.take 13 (.alt 14 .done .no)) .no) (.alt 9 (.take 13 (.alt 7 (.alt 14 .done .no) .no)) .no))) (.alt 9 (.take 13 (.alt 5 (.take 6 (.alt 7 (.alt 14 .done .no) .no)) .no)) .no)) .no))) (.alt 5 (.alt 3 (.take 6 (.alt 7 (.alt 9 (.alt 12 (.take 13 (.alt 14 .done .no)) .no) (.alt 12 (.alt 9 (.take 13 (.alt 14 .done .no)) .no) .no)) (.alt 9 (.alt 7 (.alt 12 (.take 13 (.alt 14 .done .no)) .no) (.alt 12 (.take 13 (.alt 7 (.alt 14 .done .no) .no)) .no)) (.alt 12 (.alt 7 (.alt 9 (.take 13 (.alt 14 .done .no)) .no) (.alt 9 (.take 13 (.alt 7 (.alt 14 .done .no) .no)) .no)) .no)))) (.alt 9 (.alt 3 (.take 6 (.alt 7 (.alt 12 (.take 13 (.alt 14 .done .no)) .no) (.alt 12 (.take 13 (.alt 7 (.alt 14 .done .no) .no)) .no))) (.alt 12 (.take 13 (.alt 3 (.take 6 (.alt 7 (.alt 14 .done .no) .no)) .no)) .no)) (.alt 12 (.alt 3 (.take 6 (.alt 7 (.alt 9 (.take 13 (.alt 14 .done .no)) .no) (.alt 9 (.take 13 (.alt 7 (.alt 14 .done .no) .no)) .no))) (.alt 9 (.take 13 (.alt 3 (.take 6 (.alt 7 (.alt 14 .done .no) .no)) .no)) .no)) .no))) (.alt 9 (.alt 3 (.alt 5 (.take 6 (.alt 7 (.alt 12 (.take 13 (.alt 14 .done .no)) .no) (.alt 12 (.take 13 (.alt 7 (.alt 14 .done .no) .no)) .no))) (.alt 12 (.take 13 (.alt 5 (.take 6 (.alt 7 (.alt 14 .done .no) .no)) .no)) .no)) (.alt 5 (.alt 3 (.take 6 (.alt 7 (.alt 12 (.take 13 (.alt 14 .done .no)) .no) (.alt 12 (.take 13 (.alt 7 (.alt 14 .done .no) .no)) .no))) (.alt 12 (.take 13 (.alt 3 (.take 6 (.alt 7 (.alt 14 .done .no) .no)) .no)) .no)) (.alt 12 (.take 13 (.alt 3 (.alt 5 (.take 6 (.alt 7 (.alt 14 .done .no) .no)) .no) (.alt 5 (.alt 3 (.take 6 (.alt 7 (.alt 14 .done .no) .no)) .no) .no))) .no))) (.alt 12 (.alt 3 (.alt 5 (.take 6 (.alt 7 (.alt 9 (.take 13 (.alt 14 .done .no)) .no) (.alt 9 (.take 13 (.alt 7 (.alt 14 .done .no) .no)) .no))) (.alt 9 (.take 13 (.alt 5 (.take 6 (.alt 7 (.alt 14 .done .no) .no)) .no)) .no)) (.alt 5 (.alt 3 (.take 6 (.alt 7 (.alt 9 (.take 13 (.alt 14 .done .no)) .no) (.alt 9 (.take 13 (.alt 7 (.alt 14 .done .no) .no)) .no))) (.alt 9 (.take 13 (.alt 3 (.take 6 (.alt 7 (.alt 14 .done .no) .no)) .no)) .no)) (.alt 9 (.take 13 (.alt 3 (.alt 5 (.take 6 (.alt 7 (.alt 14 .done .no) .no)) .no) (.alt 5 (.alt 3 (.take 6 (.alt 7 (.alt 14 .done .no) .no)) .no) .no))) .no))) .no))))))))))) | false => .done), fun i => (match decide (i = 3) with | true => some [true, true, false, false, false, false, false, false, false, true, true, true, false, false, false, false, false, false, false, false, false, false, false, false, false, false, false, false, false, false, false, false, false, false, false] | false => none), fun i => (match decide (i = 1) with | true => true | false => false), fun i => []⟩
def τ_i_Disk_flush__i_whole : Env := Env.of [(2, (.int .i64)), (3, (.int .i64)), (22, (.sl (.sl (.int .u8)))), (26, (.sl (.int .u8))), (28, (.sl (.pair (.int .i64) (.pair (.sl (.int .u8)) .unit)))), (30, (.pair (.sl (.sl (.int .u8))) (.pair (.sl (.pair (.int .i64) (.pair (.sl (.int .u8)) .unit))) .unit))), (145, (.pair (.int .i64) (.pair (.sl (.int .u8)) .unit)))] [(114, (.pair (.sl (.sl (.int .u8))) (.pair (.sl (.pair (.int .i64) (.pair (.sl (.int .u8)) .unit))) .unit)))] []

theorem ct_i_Disk_flush__i_whole (d : (List (List (Int))) × (List ((Int) × (List (Int)) × Unit)) × Unit) (u : Unit) : Ct pg 102 [.mp (.pair (.sl (.sl (.int .u8))) (.pair (.sl (.pair (.int .i64) (.pair (.sl (.int .u8)) .unit))) .unit)) (.pr (.ow (.ow .sh)) (.pr (.ow (.pr .sh (.pr (.ow .sh) .sh))) .sh)) d, .clo 116 []] ⟨[Q_i_Disk_flush__i_whole d u], [], [.mp (.pair (.sl (.sl (.int .u8))) (.pair (.sl (.pair (.int .i64) (.pair (.sl (.int .u8)) .unit))) .unit)) (.pr (.ow (.ow .sh)) (.pr (.ow (.pr .sh (.pr (.ow .sh) .sh))) .sh)) (B_i_Disk_flush__i_whole_d d u)]⟩ := by
  refine ct_claim (O := O_i_Disk_flush__i_whole) (τ := τ_i_Disk_flush__i_whole) (EnvOk.of (by kernel_rfl) (by kernel_rfl)) (GOk.of (.cons ok_i_whole .nil : AllOk pg [(116, con_i_whole)])) mixed (Enters.of (by kernel_rfl)) (fn := Go.Proofs.Try.f102) (by kernel_rfl) rfl (by kernel_rfl) ?_
  intro hp hw
  have hq : Q_i_Disk_flush__i_whole d u := hp _ (List.mem_singleton.2 rfl)
  clear hp
  change claim Lg.std Alg.std τ_i_Disk_flush__i_whole (Gam.of [(116, ⟨true, g1 (pD (.int .i64)) fun i => ⟨[Q_i_whole i], [⟨(.int .i64), .sh, F_i_whole i⟩], []⟩, []⟩)]) O_i_Disk_flush__i_whole Go.Proofs.Try.f102 [.mp (.pair (.sl (.sl (.int .u8))) (.pair (.sl (.pair (.int .i64) (.pair (.sl (.int .u8)) .unit))) .unit)) (.pr (.ow (.ow .sh)) (.pr (.ow (.pr .sh (.pr (.ow .sh) .sh))) .sh)) d, .clo 116 []] ⟨[Q_i_Disk_flush__i_whole d u], [], [.mp (.pair (.sl (.sl (.int .u8))) (.pair (.sl (.pair (.int .i64) (.pair (.sl (.int .u8)) .unit))) .unit)) (.pr (.ow (.ow .sh)) (.pr (.ow (.pr .sh (.pr (.ow .sh) .sh))) .sh)) (B_i_Disk_flush__i_whole_d d u)]⟩
  generalize hg_F_i_whole : F_i_whole = g_F_i_whole
  generalize hg_Q_i_whole : Q_i_whole = g_Q_i_whole
  generalize hB_d : B_i_Disk_flush__i_whole_d d u = B_d
  generalize Q_i_Disk_flush__i_whole d u = Q0
  generalize hL : Lg.std = L
  generalize hA : Alg.std = A
  cbv
  subst hL hA
  try dsimp only [Ty.den]
  obtain ⟨d_0, d_1, ⟨⟩⟩ := d
  simp only [Q_i_Disk_flush__i_whole] at hq
  obtain ⟨⟨hg1, hg2⟩, hg3, hg4, hg5⟩ := hq
  dsimp only at hg1 hg2 hg3 hg4 hg5
  have he0 : Each96 d_0 := hg3
  have hl1 := hw.1.1.1
  have hwh : ∀ i, i < d_1.length → (whole96 (d_0, d_1, ())).getD i 0 = 96 := fun i hi => whole96_at (d_0, d_1, ()) i hi
  have hfa : ∀ i, i < d_1.length → 0 ≤ (whole96 (d_0, d_1, ())).getD i 0 ∧ (whole96 (d_0, d_1, ())).getD i 0 ≤ 96 := fun i hi => by rw [hwh i hi]; omega
  repeat' (first | intro _ | apply And.intro)
  all_goals first | trivial | ((fail_if_success (refine lp_v (V := Unit) (fun _ => ⟨[], []⟩) (fun _ => True) (fun _ => 0) () ?_ ?_ ?_)); subst hB_d hg_F_i_whole hg_Q_i_whole; (try simp only [Alg.std, F_i_whole, Q_i_whole, B_i_Disk_flush__i_whole_d] at *); all_goals grind [crashD]) | skip
  refine lp_v (V := (Int) × (Int) × (Nat) × (Nat) × (List (List Int))) (fun ((i, M, K, N, xs) : (Int) × (Int) × (Nat) × (Nat) × (List (List Int))) => ⟨[.bptr 0 0, .clo 116 [], .junk, .junk, .junk, .junk, .junk, .junk, .junk, .ref (.pair (.int .i64) (.pair (.sl (.int .u8)) .unit)) 2 0 [] 0 K, .dat (.int .i64) M, .dat (.int .i64) i, .junk, .junk, .junk, .junk, .junk, .junk, .junk, .junk, .junk, .junk, .junk, .junk, .junk, .junk, .junk, .junk, .junk, .junk, .junk, .junk, .junk, .junk, .junk], [some (.box [.ref (.sl (.int .u8)) 1 0 [] 0 N, .ref (.pair (.int .i64) (.pair (.sl (.int .u8)) .unit)) 2 0 [] 0 K]), some (.row 0 (.sl (.int .u8)) (.ow .sh) xs), some (.row 0 (.pair (.int .i64) (.pair (.sl (.int .u8)) .unit)) (.pr .sh (.pr (.ow .sh) .sh)) d_1), some (.gh [.bptr 0 0])]⟩) (fun ((i, M, K, N, xs) : (Int) × (Int) × (Nat) × (Nat) × (List (List Int))) => M = d_1.length ∧ K = d_1.length ∧ N = xs.length ∧ 0 ≤ i ∧ i ≤ d_1.length ∧ xs.length = d_0.length ∧ Each96 xs ∧ flushL xs (d_1.drop i.toNat) ((whole96 (d_0, d_1, ())).drop i.toNat) = flushL d_0 d_1 (whole96 (d_0, d_1, ()))) (fun ((i, M, K, N, xs) : (Int) × (Int) × (Nat) × (Nat) × (List (List Int))) => d_1.length - i.toNat) (0, _, _, _, _) rfl ?_ ?_
  · subst hB_d hg_F_i_whole hg_Q_i_whole
    (try simp only [Alg.std, F_i_whole, Q_i_whole, B_i_Disk_flush__i_whole_d] at *)
    all_goals grind
  rintro ⟨i, M, K, N, xs⟩ hf I hI
  replace hf : M = d_1.length ∧ K = d_1.length ∧ N = xs.length ∧ 0 ≤ i ∧ i ≤ d_1.length ∧ xs.length = d_0.length ∧ Each96 xs ∧ flushL xs (d_1.drop i.toNat) ((whole96 (d_0, d_1, ())).drop i.toNat) = flushL d_0 d_1 (whole96 (d_0, d_1, ())) := hf
  generalize hL : Lg.std = L
  generalize hA : Alg.std = A
  cbv
  subst hL hA
  try dsimp only [Ty.den]
  subst hI
  obtain ⟨h1, h2, h3, h4, h5, h6, h7, h8⟩ := hf
  have h5' : i ≤ (d_1.length : Int) := h5
  have hpa := fun (h : i.toNat < d_1.length) => hg5 i.toNat h
  have hfs := fun (h : i.toNat < d_1.length) => hfa i.toNat h
  have hst := fun (h : i.toNat < d_1.length) => flushL_step xs d_1 (whole96 (d_0, d_1, ())) i.toNat h
  have hen := fun (h : d_1.length ≤ i.toNat) => flushL_end xs d_1 (whole96 (d_0, d_1, ())) i.toNat h
  have hwi := hwh i.toNat
  have hsu : (i + 1).toNat = i.toNat + 1 := by omega
  have heat := fun (k : Nat) (h : k < xs.length) => h7.at k h
  have hset := fun (k : Nat) (v : List Int) (h : k < xs.length → v.length = 96) => h7.set k v h
  try dsimp only [putD] at hpa hst
  repeat' (first | intro _ | apply And.intro)
  all_goals first | (with_reducible exact True.intro) | ((fail_if_success (refine lp_v (V := Unit) (fun _ => ⟨[], []⟩) (fun _ => True) (fun _ => 0) () ?_ ?_ ?_)); (try simp only [Lg.std, Alg.std, List.drop_zero, List.take_length] at *); (try refine ⟨(_, _, _, _, _), rfl, ?_, ?_⟩); (all_goals (subst hB_d hg_F_i_whole hg_Q_i_whole; (try simp only [Lg.std, Alg.std, List.drop_zero, List.take_length, F_i_whole, Q_i_whole, B_i_Disk_flush__i_whole_d] at *); first | done | ((try generalize d_1.getD i.toNat (0, [], ()) = xa at *); (try obtain ⟨xa0, xa1, ⟨⟩⟩ := xa); (try dsimp only at *); (try simp only [List.take_zero, List.drop_zero, List.nil_append, List.length_take, List.take_take] at *); grind [crashD])))) | skip
def con_i_Disk_flush__i_whole : Con := ⟨true, g2 (pW (.pair (.sl (.sl (.int .u8))) (.pair (.sl (.pair (.int .i64) (.pair (.sl (.int .u8)) .unit))) .unit)) (.pr (.ow (.ow .sh)) (.pr (.ow (.pr .sh (.pr (.ow .sh) .sh))) .sh))) (pC0 116) fun d u => ⟨[Q_i_Disk_flush__i_whole d u], [], [.mp (.pair (.sl (.sl (.int .u8))) (.pair (.sl (.pair (.int .i64) (.pair (.sl (.int .u8)) .unit))) .unit)) (.pr (.ow (.ow .sh)) (.pr (.ow (.pr .sh (.pr (.ow .sh) .sh))) .sh)) (B_i_Disk_flush__i_whole_d d u)]⟩, [(.pr (.ow (.ow .sh)) (.pr (.ow (.pr .sh (.pr (.ow .sh) .sh))) .sh))]⟩
theorem ok_i_Disk_flush__i_whole : ConOk pg 102 con_i_Disk_flush__i_whole := ConOk.g2 (Enters.of (by kernel_rfl)) ct_i_Disk_flush__i_whole

def B_s_l14Flush_d (d : (List (List (Int))) × (List ((Int) × (List (Int)) × Unit)) × Unit) : (List (List (Int))) × (List ((Int) × (List (Int)) × Unit)) × Unit := crashD d (whole96 d)
def Q_s_l14Flush (d : (List (List (Int))) × (List ((Int) × (List (Int)) × Unit)) × Unit) : Prop := GoodW d 256
def O_s_l14Flush : Opt := ⟨fun i => false, fun i => (match decide (i = 2) with | true => [true, false, true, true, false, false, false, false, false, false, false, false, false, false, false, false, false, false, false, false] | false => []), fun i => .done, fun i => none, fun i => (match decide (i = 2) with | true => true | false => false), fun i => []⟩
def τ_s_l14Flush : Env := Env.of [(3, (.int .i64)), (4, .bool), (28, (.sl (.pair (.int .i64) (.pair (.sl (.int .u8)) .unit)))), (30, (.pair (.sl (.sl (.int .u8))) (.pair (.sl (.pair (.int .i64) (.pair (.sl (.int .u8)) .unit))) .unit))), (43, (.sl (.int .i64)))] [(114, (.pair (.sl (.sl (.int .u8))) (.pair (.sl (.pair (.int .i64) (.pair (.sl (.int .u8)) .unit))) .unit)))] []

theorem ct_s_l14Flush (d : (List (List (Int))) × (List ((Int) × (List (Int)) × Unit)) × Unit) : Ct pg 164 [.mp (.pair (.sl (.sl (.int .u8))) (.pair (.sl (.pair (.int .i64) (.pair (.sl (.int .u8)) .unit))) .unit)) (.pr (.ow (.ow .sh)) (.pr (.ow (.pr .sh (.pr (.ow .sh) .sh))) .sh)) d] ⟨[Q_s_l14Flush d], [], [.mp (.pair (.sl (.sl (.int .u8))) (.pair (.sl (.pair (.int .i64) (.pair (.sl (.int .u8)) .unit))) .unit)) (.pr (.ow (.ow .sh)) (.pr (.ow (.pr .sh (.pr (.ow .sh) .sh))) .sh)) (B_s_l14Flush_d d)]⟩ := by
  refine ct_claim (O := O_s_l14Flush) (τ := τ_s_l14Flush) (EnvOk.of (by kernel_rfl) (by kernel_rfl)) (GOk.of (.cons ok_s_l14Crash .nil : AllOk pg [(98, con_s_l14Crash)])) mixed (Enters.of (by kernel_rfl)) (fn := Go.Proofs.Try.f164) (by kernel_rfl) rfl (by kernel_rfl) ?_
  intro hp hw
  have hq : Q_s_l14Flush d := hp _ (List.mem_singleton.2 rfl)
  clear hp
  change claim Lg.std Alg.std τ_s_l14Flush (Gam.of [(98, ⟨true, g2 (pW (.pair (.sl (.sl (.int .u8))) (.pair (.sl (.pair (.int .i64) (.pair (.sl (.int .u8)) .unit))) .unit)) (.pr (.ow (.ow .sh)) (.pr (.ow (.pr .sh (.pr (.ow .sh) .sh))) .sh))) (pD (.sl (.int .i64))) fun d fates => ⟨[Q_s_l14Crash d fates], [], [.mp (.pair (.sl (.sl (.int .u8))) (.pair (.sl (.pair (.int .i64) (.pair (.sl (.int .u8)) .unit))) .unit)) (.pr (.ow (.ow .sh)) (.pr (.ow (.pr .sh (.pr (.ow .sh) .sh))) .sh)) (B_s_l14Crash_d d fates)]⟩, [(.pr (.ow (.ow .sh)) (.pr (.ow (.pr .sh (.pr (.ow .sh) .sh))) .sh))]⟩)]) O_s_l14Flush Go.Proofs.Try.f164 [.mp (.pair (.sl (.sl (.int .u8))) (.pair (.sl (.pair (.int .i64) (.pair (.sl (.int .u8)) .unit))) .unit)) (.pr (.ow (.ow .sh)) (.pr (.ow (.pr .sh (.pr (.ow .sh) .sh))) .sh)) d] ⟨[Q_s_l14Flush d], [], [.mp (.pair (.sl (.sl (.int .u8))) (.pair (.sl (.pair (.int .i64) (.pair (.sl (.int .u8)) .unit))) .unit)) (.pr (.ow (.ow .sh)) (.pr (.ow (.pr .sh (.pr (.ow .sh) .sh))) .sh)) (B_s_l14Flush_d d)]⟩
  generalize hg_B_s_l14Crash_d : B_s_l14Crash_d = g_B_s_l14Crash_d
  generalize hg_Q_s_l14Crash : Q_s_l14Crash = g_Q_s_l14Crash
  generalize hB_d : B_s_l14Flush_d d = B_d
  generalize Q_s_l14Flush d = Q0
  generalize hL : Lg.std = L
  generalize hA : Alg.std = A
  cbv
  subst hL hA
  try dsimp only [Ty.den]
  obtain ⟨d_0, d_1, ⟨⟩⟩ := d
  simp only [Q_s_l14Flush] at hq
  obtain ⟨⟨hg1, hg2⟩, hg3, hg4, hg5⟩ := hq
  dsimp only at hg1 hg2 hg3 hg4 hg5
  have he0 : Each96 d_0 := hg3
  have hl1 := hw.1.1.1
  have hwh : ∀ i, i < d_1.length → (whole96 (d_0, d_1, ())).getD i 0 = 96 := fun i hi => whole96_at (d_0, d_1, ()) i hi
  have hfa : ∀ i, i < d_1.length → 0 ≤ (whole96 (d_0, d_1, ())).getD i 0 ∧ (whole96 (d_0, d_1, ())).getD i 0 ≤ 96 := fun i hi => by rw [hwh i hi]; omega
  repeat' (first | intro _ | apply And.intro)
  all_goals first | trivial | ((fail_if_success (refine lp_v (V := Unit) (fun _ => ⟨[], []⟩) (fun _ => True) (fun _ => 0) () ?_ ?_ ?_)); subst hB_d hg_B_s_l14Crash_d hg_Q_s_l14Crash; (try simp only [Alg.std, B_s_l14Crash_d, Q_s_l14Crash, B_s_l14Flush_d] at *); all_goals grind) | skip
  refine lp_v (V := (Int) × (Nat) × (Nat) × (Nat) × (List Int)) (fun ((i, N, K, M, xs) : (Int) × (Nat) × (Nat) × (Nat) × (List Int)) => ⟨[.bptr 0 0, .junk, .ref (.int .i64) 3 0 [] 0 N, .dat (.int .i64) i, .junk, .junk, .junk, .junk, .junk, .junk, .junk, .junk, .junk, .junk, .junk, .junk, .junk, .junk, .junk, .junk], [some (.box [.ref (.sl (.int .u8)) 1 0 [] 0 K, .ref (.pair (.int .i64) (.pair (.sl (.int .u8)) .unit)) 2 0 [] 0 M]), some (.row 0 (.sl (.int .u8)) (.ow .sh) d_0), some (.row 0 (.pair (.int .i64) (.pair (.sl (.int .u8)) .unit)) (.pr .sh (.pr (.ow .sh) .sh)) d_1), some (.row 0 (.int .i64) .sh xs), some (.gh [.bptr 0 0])]⟩) (fun ((i, N, K, M, xs) : (Int) × (Nat) × (Nat) × (Nat) × (List Int)) => N = xs.length ∧ K = d_0.length ∧ M = d_1.length ∧ 0 ≤ i ∧ i ≤ d_1.length ∧ xs = List.replicate i.toNat 96) (fun ((i, N, K, M, xs) : (Int) × (Nat) × (Nat) × (Nat) × (List Int)) => d_1.length - i.toNat) (0, _, _, _, _) rfl ?_ ?_
  · subst hB_d hg_B_s_l14Crash_d hg_Q_s_l14Crash
    (try simp only [Alg.std, B_s_l14Crash_d, Q_s_l14Crash, B_s_l14Flush_d] at *)
    all_goals grind
  rintro ⟨i, N, K, M, xs⟩ hf I hI
  replace hf : N = xs.length ∧ K = d_0.length ∧ M = d_1.length ∧ 0 ≤ i ∧ i ≤ d_1.length ∧ xs = List.replicate i.toNat 96 := hf
  generalize hL : Lg.std = L
  generalize hA : Alg.std = A
  cbv
  subst hL hA
  try dsimp only [Ty.den]
  subst hI
  obtain ⟨h1, h2, h3, h4, h5, h6⟩ := hf
  have h5' : i ≤ (d_1.length : Int) := h5
  have hsu : (i + 1).toNat = i.toNat + 1 := by omega
  have hrs : List.replicate (i.toNat + 1) (96 : Int) = List.replicate i.toNat 96 ++ [96] := List.replicate_succ'
  have hxl : xs.length = i.toNat := by rw [h6, List.length_replicate]
  have hend : d_1.length ≤ i.toNat → xs = whole96 (d_0, d_1, ()) := fun h => by
    rw [h6]
    show _ = List.replicate d_1.length 96
    congr 1
    omega
  have hwl : (whole96 (d_0, d_1, ())).length = d_1.length := by simp [whole96]
  have hG : GoodW (d_0, d_1, PUnit.unit) 256 := ⟨⟨hg1, hg2⟩, hg3, hg4, hg5⟩
  repeat' (first | intro _ | apply And.intro)
  all_goals first | (with_reducible exact True.intro) | ((fail_if_success (refine lp_v (V := Unit) (fun _ => ⟨[], []⟩) (fun _ => True) (fun _ => 0) () ?_ ?_ ?_)); (try simp only [Lg.std, Alg.std, List.drop_zero, List.take_length] at *); (try refine ⟨(_, _, _, _, _), rfl, ?_, ?_⟩); (all_goals (subst hB_d hg_B_s_l14Crash_d hg_Q_s_l14Crash; (try simp only [Lg.std, Alg.std, List.drop_zero, List.take_length, B_s_l14Crash_d, Q_s_l14Crash, B_s_l14Flush_d] at *); first | done | (grind)))) | skip
def con_s_l14Flush : Con := ⟨true, g1 (pW (.pair (.sl (.sl (.int .u8))) (.pair (.sl (.pair (.int .i64) (.pair (.sl (.int .u8)) .unit))) .unit)) (.pr (.ow (.ow .sh)) (.pr (.ow (.pr .sh (.pr (.ow .sh) .sh))) .sh))) fun d => ⟨[Q_s_l14Flush d], [], [.mp (.pair (.sl (.sl (.int .u8))) (.pair (.sl (.pair (.int .i64) (.pair (.sl (.int .u8)) .unit))) .unit)) (.pr (.ow (.ow .sh)) (.pr (.ow (.pr .sh (.pr (.ow .sh) .sh))) .sh)) (B_s_l14Flush_d d)]⟩, [(.pr (.ow (.ow .sh)) (.pr (.ow (.pr .sh (.pr (.ow .sh) .sh))) .sh))]⟩
theorem ok_s_l14Flush : ConOk pg 164 con_s_l14Flush := ConOk.g1 (Enters.of (by kernel_rfl)) ct_s_l14Flush

def F_s_l14Do (d : (List (List (Int))) × (List ((Int) × (List (Int)) × Unit)) × Unit) (acts : List ((Int) × ((Int) × (List (Int)) × Unit) × Unit)) : Int := (doActsD d acts).1
def B_s_l14Do_d (d : (List (List (Int))) × (List ((Int) × (List (Int)) × Unit)) × Unit) (acts : List ((Int) × ((Int) × (List (Int)) × Unit) × Unit)) : (List (List (Int))) × (List ((Int) × (List (Int)) × Unit)) × Unit := (doActsD d acts).2
def Q_s_l14Do (d : (List (List (Int))) × (List ((Int) × (List (Int)) × Unit)) × Unit) (acts : List ((Int) × ((Int) × (List (Int)) × Unit) × Unit)) : Prop := GoodW d 64 ∧ acts.length ≤ 80
def O_s_l14Do : Opt := ⟨fun i => false, fun i => (match decide (i = 2) with | true => [true, true, false, false, false, true, false, false, false, false, false, false, false, false, false, false, false, false, false, false, false, false, false, false, false, false, false, false, false, false, false, false, false, false, false, false, false, false, false, false, false, false, false, false, false, false, false, false, false, false, false, false, false, false, false] | false => []), fun i => .done, fun i => none, fun i => (match decide (i = 2) with | true => true | false => false), fun i => []⟩
def τ_s_l14Do : Env := Env.of [(2, (.int .i64)), (3, (.int .i64)), (4, .bool), (26, (.sl (.int .u8))), (71, (.sl (.pair (.int .i64) (.pair (.pair (.int .i64) (.pair (.sl (.int .u8)) .unit)) .unit)))), (145, (.pair (.int .i64) (.pair (.sl (.int .u8)) .unit))), (147, (.pair (.int .i64) (.pair (.pair (.int .i64) (.pair (.sl (.int .u8)) .unit)) .unit)))] [(114, (.pair (.sl (.sl (.int .u8))) (.pair (.sl (.pair (.int .i64) (.pair (.sl (.int .u8)) .unit))) .unit)))] []

theorem ct_s_l14Do (d : (List (List (Int))) × (List ((Int) × (List (Int)) × Unit)) × Unit) (acts : List ((Int) × ((Int) × (List (Int)) × Unit) × Unit)) : Ct pg 114 [.mp (.pair (.sl (.sl (.int .u8))) (.pair (.sl (.pair (.int .i64) (.pair (.sl (.int .u8)) .unit))) .unit)) (.pr (.ow (.ow .sh)) (.pr (.ow (.pr .sh (.pr (.ow .sh) .sh))) .sh)) d, .dat (.sl (.pair (.int .i64) (.pair (.pair (.int .i64) (.pair (.sl (.int .u8)) .unit)) .unit))) acts] ⟨[Q_s_l14Do d acts], [⟨(.int .i64), .sh, F_s_l14Do d acts⟩], [.mp (.pair (.sl (.sl (.int .u8))) (.pair (.sl (.pair (.int .i64) (.pair (.sl (.int .u8)) .unit))) .unit)) (.pr (.ow (.ow .sh)) (.pr (.ow (.pr .sh (.pr (.ow .sh) .sh))) .sh)) (B_s_l14Do_d d acts)]⟩ := by
  refine ct_claim (O := O_s_l14Do) (τ := τ_s_l14Do) (EnvOk.of (by kernel_rfl) (by kernel_rfl)) (GOk.of (.cons ok_s_l14Sector (.cons ok_s_l14Write (.cons ok_s_l14Flush .nil)) : AllOk pg [(82, con_s_l14Sector), (84, con_s_l14Write), (164, con_s_l14Flush)])) mixed (Enters.of (by kernel_rfl)) (fn := Go.Proofs.Try.f114) (by kernel_rfl) rfl (by kernel_rfl) ?_
  intro hp hw
  have hq : Q_s_l14Do d acts := hp _ (List.mem_singleton.2 rfl)
  clear hp
  change claim Lg.std Alg.std τ_s_l14Do (Gam.of [(82, ⟨true, g2 (pP (.pair (.sl (.sl (.int .u8))) (.pair (.sl (.pair (.int .i64) (.pair (.sl (.int .u8)) .unit))) .unit))) (pD (.int .i64)) fun d n => ⟨[Q_s_l14Sector d n], [⟨.bool, .sh, F_s_l14Sector d n⟩], []⟩, []⟩), (84, ⟨true, g3 (pW (.pair (.sl (.sl (.int .u8))) (.pair (.sl (.pair (.int .i64) (.pair (.sl (.int .u8)) .unit))) .unit)) (.pr (.ow (.ow .sh)) (.pr (.ow (.pr .sh (.pr (.ow .sh) .sh))) .sh))) (pD (.int .i64)) (pD (.sl (.int .u8))) fun d n data => ⟨[Q_s_l14Write d n data], [], [.mp (.pair (.sl (.sl (.int .u8))) (.pair (.sl (.pair (.int .i64) (.pair (.sl (.int .u8)) .unit))) .unit)) (.pr (.ow (.ow .sh)) (.pr (.ow (.pr .sh (.pr (.ow .sh) .sh))) .sh)) (B_s_l14Write_d d n data)]⟩, [(.pr (.ow (.ow .sh)) (.pr (.ow (.pr .sh (.pr (.ow .sh) .sh))) .sh))]⟩), (164, ⟨true, g1 (pW (.pair (.sl (.sl (.int .u8))) (.pair (.sl (.pair (.int .i64) (.pair (.sl (.int .u8)) .unit))) .unit)) (.pr (.ow (.ow .sh)) (.pr (.ow (.pr .sh (.pr (.ow .sh) .sh))) .sh))) fun d => ⟨[Q_s_l14Flush d], [], [.mp (.pair (.sl (.sl (.int .u8))) (.pair (.sl (.pair (.int .i64) (.pair (.sl (.int .u8)) .unit))) .unit)) (.pr (.ow (.ow .sh)) (.pr (.ow (.pr .sh (.pr (.ow .sh) .sh))) .sh)) (B_s_l14Flush_d d)]⟩, [(.pr (.ow (.ow .sh)) (.pr (.ow (.pr .sh (.pr (.ow .sh) .sh))) .sh))]⟩)]) O_s_l14Do Go.Proofs.Try.f114 [.mp (.pair (.sl (.sl (.int .u8))) (.pair (.sl (.pair (.int .i64) (.pair (.sl (.int .u8)) .unit))) .unit)) (.pr (.ow (.ow .sh)) (.pr (.ow (.pr .sh (.pr (.ow .sh) .sh))) .sh)) d, .dat (.sl (.pair (.int .i64) (.pair (.pair (.int .i64) (.pair (.sl (.int .u8)) .unit)) .unit))) acts] ⟨[Q_s_l14Do d acts], [⟨(.int .i64), .sh, F_s_l14Do d acts⟩], [.mp (.pair (.sl (.sl (.int .u8))) (.pair (.sl (.pair (.int .i64) (.pair (.sl (.int .u8)) .unit))) .unit)) (.pr (.ow (.ow .sh)) (.pr (.ow (.pr .sh (.pr (.ow .sh) .sh))) .sh)) (B_s_l14Do_d d acts)]⟩
  generalize hg_F_s_l14Sector : F_s_l14Sector = g_F_s_l14Sector
  generalize hg_Q_s_l14Sector : Q_s_l14Sector = g_Q_s_l14Sector
  generalize hg_B_s_l14Write_d : B_s_l14Write_d = g_B_s_l14Write_d
  generalize hg_Q_s_l14Write : Q_s_l14Write = g_Q_s_l14Write
  generalize hg_B_s_l14Flush_d : B_s_l14Flush_d = g_B_s_l14Flush_d
  generalize hg_Q_s_l14Flush : Q_s_l14Flush = g_Q_s_l14Flush
  generalize hR0 : F_s_l14Do d acts = R0
  generalize hB_d : B_s_l14Do_d d acts = B_d
  generalize Q_s_l14Do d acts = Q0
  generalize hL : Lg.std = L
  generalize hA : Alg.std = A
  cbv
  subst hL hA
  try dsimp only [Ty.den]
  obtain ⟨d_0, d_1, ⟨⟩⟩ := d
  simp only [Q_s_l14Do] at hq
  obtain ⟨hq1, hq2⟩ := hq
  repeat' (first | intro _ | apply And.intro)
  all_goals first | trivial | ((fail_if_success (refine lp_v (V := Unit) (fun _ => ⟨[], []⟩) (fun _ => True) (fun _ => 0) () ?_ ?_ ?_)); subst hR0 hB_d hg_F_s_l14Sector hg_Q_s_l14Sector hg_B_s_l14Write_d hg_Q_s_l14Write hg_B_s_l14Flush_d hg_Q_s_l14Flush; (try simp only [Alg.std, F_s_l14Sector, B_s_l14Write_d, B_s_l14Flush_d, Q_s_l14Sector, Q_s_l14Write, Q_s_l14Flush, F_s_l14Do, B_s_l14Do_d] at *); all_goals grind) | skip
  refine lp_v (V := (Int) × (Nat) × (Nat) × (List (List Int)) × (List ((Int) × (List (Int)) × Unit))) (fun ((i, N, K, xs, ps) : (Int) × (Nat) × (Nat) × (List (List Int)) × (List ((Int) × (List (Int)) × Unit))) => ⟨[.bptr 0 0, .dat (.sl (.pair (.int .i64) (.pair (.pair (.int .i64) (.pair (.sl (.int .u8)) .unit)) .unit))) acts, .junk, .junk, .junk, .dat (.int .i64) i, .junk, .junk, .junk, .junk, .junk, .junk, .junk, .junk, .junk, .junk, .junk, .junk, .junk, .junk, .junk, .junk, .junk, .junk, .junk, .junk, .junk, .junk, .junk, .junk, .junk, .junk, .junk, .junk, .junk, .junk, .junk, .junk, .junk, .junk, .junk, .junk, .junk, .junk, .junk, .junk, .junk, .junk, .junk, .junk, .junk, .junk, .junk, .junk, .junk], [some (.box [.ref (.sl (.int .u8)) 1 0 [] 0 N, .ref (.pair (.int .i64) (.pair (.sl (.int .u8)) .unit)) 2 0 [] 0 K]), some (.row 0 (.sl (.int .u8)) (.ow .sh) xs), some (.row 0 (.pair (.int .i64) (.pair (.sl (.int .u8)) .unit)) (.pr .sh (.pr (.ow .sh) .sh)) ps), some (.gh [.bptr 0 0])]⟩) (fun ((i, N, K, xs, ps) : (Int) × (Nat) × (Nat) × (List (List Int)) × (List ((Int) × (List (Int)) × Unit))) => N = xs.length ∧ K = ps.length ∧ 0 ≤ i ∧ i ≤ acts.length ∧ GoodW (xs, ps, PUnit.unit) (64 + i.toNat) ∧ doActsD (xs, ps, PUnit.unit) (acts.drop i.toNat) = doActsD (d_0, d_1, PUnit.unit) acts) (fun ((i, N, K, xs, ps) : (Int) × (Nat) × (Nat) × (List (List Int)) × (List ((Int) × (List (Int)) × Unit))) => acts.length - i.toNat) (0, _, _, _, _) rfl ?_ ?_
  · subst hR0 hB_d hg_F_s_l14Sector hg_Q_s_l14Sector hg_B_s_l14Write_d hg_Q_s_l14Write hg_B_s_l14Flush_d hg_Q_s_l14Flush
    (try simp only [Alg.std, F_s_l14Sector, B_s_l14Write_d, B_s_l14Flush_d, Q_s_l14Sector, Q_s_l14Write, Q_s_l14Flush, F_s_l14Do, B_s_l14Do_d] at *)
    all_goals grind
  rintro ⟨i, N, K, xs, ps⟩ hf I hI
  replace hf : N = xs.length ∧ K = ps.length ∧ 0 ≤ i ∧ i ≤ acts.length ∧ GoodW (xs, ps, PUnit.unit) (64 + i.toNat) ∧ doActsD (xs, ps, PUnit.unit) (acts.drop i.toNat) = doActsD (d_0, d_1, PUnit.unit) acts := hf
  generalize hL : Lg.std = L
  generalize hA : Alg.std = A
  cbv
  subst hL hA
  try dsimp only [Ty.den]
  subst hI
  obtain ⟨h1, h2, h3, h4, h5, h6⟩ := hf
  have hgd := h5
  have h4' : i ≤ (acts.length : Int) := h4
  have hsu : (i + 1).toNat = i.toNat + 1 := by omega
  have hgs := hgd.mono (k' := 256) (by omega)
  have hgo := doAct_good hgd (acts.getD i.toNat actD)
  have hst := fun (h : i.toNat < acts.length) => doActs_step (xs, ps, ()) acts i.toNat h
  have hen := fun (h : acts.length ≤ i.toNat) => doActs_end (xs, ps, ()) acts i.toNat h
  have hpl : ps.length ≤ 64 + i.toNat := hgd.2.2.1
  have h64 : 64 + (i + 1).toNat = 64 + i.toNat + 1 := by omega
  rw [← h64] at hgo
  try dsimp only [actD, putD] at hgo hst
  repeat' (first | intro _ | apply And.intro)
  all_goals first | (with_reducible exact True.intro) | ((fail_if_success (refine lp_v (V := Unit) (fun _ => ⟨[], []⟩) (fun _ => True) (fun _ => 0) () ?_ ?_ ?_)); (try simp only [Lg.std, Alg.std, List.drop_zero, List.take_length] at *); (try refine ⟨(_, _, _, _, _), rfl, ?_, ?_⟩); (all_goals (subst hR0 hB_d hg_F_s_l14Sector hg_Q_s_l14Sector hg_B_s_l14Write_d hg_Q_s_l14Write hg_B_s_l14Flush_d hg_Q_s_l14Flush; (try simp only [Lg.std, Alg.std, List.drop_zero, List.take_length, F_s_l14Sector, B_s_l14Write_d, B_s_l14Flush_d, Q_s_l14Sector, Q_s_l14Write, Q_s_l14Flush, F_s_l14Do, B_s_l14Do_d] at *); first | done | ((try generalize acts.getD i.toNat (0, (0, [], ()), ()) = xa at *); (try obtain ⟨xa0, ⟨xa1, xa2, ⟨⟩⟩, ⟨⟩⟩ := xa); (try dsimp only at *); (try have he1 := disk_eta (writeD (xs, ps, ()) xa1 xa2)); (try have he2 := disk_eta (crashD (xs, ps, ()) (whole96 (xs, ps, ())))); (try simp only [doAct] at *); (try have hwo := writeFault_ok (xs, ps, ()) xa1 xa2); grind [writeFault])))) | skip
def con_s_l14Do : Con := ⟨true, g2 (pW (.pair (.sl (.sl (.int .u8))) (.pair (.sl (.pair (.int .i64) (.pair (.sl (.int .u8)) .unit))) .unit)) (.pr (.ow (.ow .sh)) (.pr (.ow (.pr .sh (.pr (.ow .sh) .sh))) .sh))) (pD (.sl (.pair (.int .i64) (.pair (.pair (.int .i64) (.pair (.sl (.int .u8)) .unit)) .unit)))) fun d acts => ⟨[Q_s_l14Do d acts], [⟨(.int .i64), .sh, F_s_l14Do d acts⟩], [.mp (.pair (.sl (.sl (.int .u8))) (.pair (.sl (.pair (.int .i64) (.pair (.sl (.int .u8)) .unit))) .unit)) (.pr (.ow (.ow .sh)) (.pr (.ow (.pr .sh (.pr (.ow .sh) .sh))) .sh)) (B_s_l14Do_d d acts)]⟩, [(.pr (.ow (.ow .sh)) (.pr (.ow (.pr .sh (.pr (.ow .sh) .sh))) .sh))]⟩
theorem ok_s_l14Do : ConOk pg 114 con_s_l14Do := ConOk.g2 (Enters.of (by kernel_rfl)) ct_s_l14Do

def F_i_DoActs (d : (List (List (Int))) × (List ((Int) × (List (Int)) × Unit)) × Unit) (acts : List ((Int) × ((Int) × (List (Int)) × Unit) × Unit)) : (Int) × ((List (List (Int))) × (List ((Int) × (List (Int)) × Unit)) × Unit) × Unit := doActs d acts
def Q_i_DoActs (d : (List (List (Int))) × (List ((Int) × (List (Int)) × Unit)) × Unit) (acts : List ((Int) × ((Int) × (List (Int)) × Unit) × Unit)) : Prop := tot tDisk d ≤ 1048576
def O_i_DoActs : Opt := ⟨fun i => false, fun i => (match decide (i = 8) with | true => [false, false, false, false, true, false, true, false, false, false, false, false, false, false, false, false, false, false, false, false, false, false, true, true, true, false, false, false, false, false, false, false, false, false, false, false, false, false, false, false, false, false, false, false, false, false, false, false, false, false, false, false, false, false, false, false, false, false, false, false, false, false, false, false, false, false, false, false, false, false, false, false, false] | false => []), fun i => .done, fun i => none, fun i => (match decide (i = 8) with | true => true | false => false), fun i => []⟩
def τ_i_DoActs : Env := Env.of [(2, (.int .i64)), (3, (.int .i64)), (4, .bool), (26, (.sl (.int .u8))), (30, (.pair (.sl (.sl (.int .u8))) (.pair (.sl (.pair (.int .i64) (.pair (.sl (.int .u8)) .unit))) .unit))), (32, (.pair (.int .i64) (.pair (.pair (.sl (.sl (.int .u8))) (.pair (.sl (.pair (.int .i64) (.pair (.sl (.int .u8)) .unit))) .unit)) .unit))), (71, (.sl (.pair (.int .i64) (.pair (.pair (.int .i64) (.pair (.sl (.int .u8)) .unit)) .unit)))), (145, (.pair (.int .i64) (.pair (.sl (.int .u8)) .unit))), (147, (.pair (.int .i64) (.pair (.pair (.int .i64) (.pair (.sl (.int .u8)) .unit)) .unit)))] [] []

theorem ct_i_DoActs (d : (List (List (Int))) × (List ((Int) × (List (Int)) × Unit)) × Unit) (acts : List ((Int) × ((Int) × (List (Int)) × Unit) × Unit)) : Ct pg 48 [.dat (.pair (.sl (.sl (.int .u8))) (.pair (.sl (.pair (.int .i64) (.pair (.sl (.int .u8)) .unit))) .unit)) d, .dat (.sl (.pair (.int .i64) (.pair (.pair (.int .i64) (.pair (.sl (.int .u8)) .unit)) .unit))) acts] ⟨[Q_i_DoActs d acts], [⟨(.pair (.int .i64) (.pair (.pair (.sl (.sl (.int .u8))) (.pair (.sl (.pair (.int .i64) (.pair (.sl (.int .u8)) .unit))) .unit)) .unit)), (.pr .sh (.pr (.pr (.ow (.ow .sh)) (.pr (.ow (.pr .sh (.pr (.ow .sh) .sh))) .sh)) .sh)), F_i_DoActs d acts⟩], []⟩ := by
  refine ct_claim (O := O_i_DoActs) (τ := τ_i_DoActs) (EnvOk.of (by kernel_rfl) (by kernel_rfl)) (GOk.of (.cons ok_i_DiskFault (.cons ok_i_ownDisk (.cons ok_i_Disk_writeFault (.cons ok_i_Disk_write (.cons ok_i_whole (.cons (ConOk.or ok_i_Disk_flush__i_CrashDisk_2 ok_i_Disk_flush__i_whole) .nil))))) : AllOk pg [(88, con_i_DiskFault), (90, con_i_ownDisk), (89, con_i_Disk_writeFault), (91, con_i_Disk_write), (116, con_i_whole), (102, (Con.or con_i_Disk_flush__i_CrashDisk_2 con_i_Disk_flush__i_whole))])) mixed (Enters.of (by kernel_rfl)) (fn := Go.Proofs.Try.f48) (by kernel_rfl) rfl (by kernel_rfl) ?_
  intro hp hw
  have hq : Q_i_DoActs d acts := hp _ (List.mem_singleton.2 rfl)
  clear hp
  change claim Lg.std Alg.std τ_i_DoActs (Gam.of [(88, ⟨true, g1 (pD (.pair (.sl (.sl (.int .u8))) (.pair (.sl (.pair (.int .i64) (.pair (.sl (.int .u8)) .unit))) .unit))) fun d => ⟨[Q_i_DiskFault d], [⟨(.int .i64), .sh, F_i_DiskFault d⟩], []⟩, []⟩), (90, ⟨true, g1 (pD (.pair (.sl (.sl (.int .u8))) (.pair (.sl (.pair (.int .i64) (.pair (.sl (.int .u8)) .unit))) .unit))) fun d => ⟨[Q_i_ownDisk d], [⟨(.pair (.sl (.sl (.int .u8))) (.pair (.sl (.pair (.int .i64) (.pair (.sl (.int .u8)) .unit))) .unit)), (.pr (.ow (.ow .sh)) (.pr (.ow (.pr .sh (.pr (.ow .sh) .sh))) .sh)), F_i_ownDisk d⟩], []⟩, []⟩), (89, ⟨true, g3 (pD (.pair (.sl (.sl (.int .u8))) (.pair (.sl (.pair (.int .i64) (.pair (.sl (.int .u8)) .unit))) .unit))) (pD (.int .i64)) (pD (.sl (.int .u8))) fun d n data => ⟨[Q_i_Disk_writeFault d n data], [⟨(.int .i64), .sh, F_i_Disk_writeFault d n data⟩], []⟩, []⟩), (91, ⟨true, g3 (pW (.pair (.sl (.sl (.int .u8))) (.pair (.sl (.pair (.int .i64) (.pair (.sl (.int .u8)) .unit))) .unit)) (.pr (.ow (.ow .sh)) (.pr (.ow (.pr .sh (.pr (.ow .sh) .sh))) .sh))) (pD (.int .i64)) (pD (.sl (.int .u8))) fun d n data => ⟨[Q_i_Disk_write d n data], [], [.mp (.pair (.sl (.sl (.int .u8))) (.pair (.sl (.pair (.int .i64) (.pair (.sl (.int .u8)) .unit))) .unit)) (.pr (.ow (.ow .sh)) (.pr (.ow (.pr .sh (.pr (.ow .sh) .sh))) .sh)) (B_i_Disk_write_d d n data)]⟩, [(.pr (.ow (.ow .sh)) (.pr (.ow (.pr .sh (.pr (.ow .sh) .sh))) .sh))]⟩), (116, ⟨true, g1 (pD (.int .i64)) fun i => ⟨[Q_i_whole i], [⟨(.int .i64), .sh, F_i_whole i⟩], []⟩, []⟩), (102, Con.or (⟨true, g2 (pW (.pair (.sl (.sl (.int .u8))) (.pair (.sl (.pair (.int .i64) (.pair (.sl (.int .u8)) .unit))) .unit)) (.pr (.ow (.ow .sh)) (.pr (.ow (.pr .sh (.pr (.ow .sh) .sh))) .sh))) (pC1 103 (pP (.sl (.int .i64)))) fun d fates => ⟨[Q_i_Disk_flush__i_CrashDisk_2 d fates], [], [.mp (.pair (.sl (.sl (.int .u8))) (.pair (.sl (.pair (.int .i64) (.pair (.sl (.int .u8)) .unit))) .unit)) (.pr (.ow (.ow .sh)) (.pr (.ow (.pr .sh (.pr (.ow .sh) .sh))) .sh)) (B_i_Disk_flush__i_CrashDisk_2_d d fates)]⟩, [(.pr (.ow (.ow .sh)) (.pr (.ow (.pr .sh (.pr (.ow .sh) .sh))) .sh))]⟩ : Con) (⟨true, g2 (pW (.pair (.sl (.sl (.int .u8))) (.pair (.sl (.pair (.int .i64) (.pair (.sl (.int .u8)) .unit))) .unit)) (.pr (.ow (.ow .sh)) (.pr (.ow (.pr .sh (.pr (.ow .sh) .sh))) .sh))) (pC0 116) fun d u => ⟨[Q_i_Disk_flush__i_whole d u], [], [.mp (.pair (.sl (.sl (.int .u8))) (.pair (.sl (.pair (.int .i64) (.pair (.sl (.int .u8)) .unit))) .unit)) (.pr (.ow (.ow .sh)) (.pr (.ow (.pr .sh (.pr (.ow .sh) .sh))) .sh)) (B_i_Disk_flush__i_whole_d d u)]⟩, [(.pr (.ow (.ow .sh)) (.pr (.ow (.pr .sh (.pr (.ow .sh) .sh))) .sh))]⟩))]) O_i_DoActs Go.Proofs.Try.f48 [.dat (.pair (.sl (.sl (.int .u8))) (.pair (.sl (.pair (.int .i64) (.pair (.sl (.int .u8)) .unit))) .unit)) d, .dat (.sl (.pair (.int .i64) (.pair (.pair (.int .i64) (.pair (.sl (.int .u8)) .unit)) .unit))) acts] ⟨[Q_i_DoActs d acts], [⟨(.pair (.int .i64) (.pair (.pair (.sl (.sl (.int .u8))) (.pair (.sl (.pair (.int .i64) (.pair (.sl (.int .u8)) .unit))) .unit)) .unit)), (.pr .sh (.pr (.pr (.ow (.ow .sh)) (.pr (.ow (.pr .sh (.pr (.ow .sh) .sh))) .sh)) .sh)), F_i_DoActs d acts⟩], []⟩
  generalize hg_F_i_DiskFault : F_i_DiskFault = g_F_i_DiskFault
  generalize hg_Q_i_DiskFault : Q_i_DiskFault = g_Q_i_DiskFault
  generalize hg_F_i_ownDisk : F_i_ownDisk = g_F_i_ownDisk
  generalize hg_Q_i_ownDisk : Q_i_ownDisk = g_Q_i_ownDisk
  generalize hg_F_i_Disk_writeFault : F_i_Disk_writeFault = g_F_i_Disk_writeFault
  generalize hg_Q_i_Disk_writeFault : Q_i_Disk_writeFault = g_Q_i_Disk_writeFault
  generalize hg_B_i_Disk_write_d : B_i_Disk_write_d = g_B_i_Disk_write_d
  generalize hg_Q_i_Disk_write : Q_i_Disk_write = g_Q_i_Disk_write
  generalize hg_F_i_whole : F_i_whole = g_F_i_whole
  generalize hg_Q_i_whole : Q_i_whole = g_Q_i_whole
  generalize hg_B_i_Disk_flush__i_CrashDisk_2_d : B_i_Disk_flush__i_CrashDisk_2_d = g_B_i_Disk_flush__i_CrashDisk_2_d
  generalize hg_Q_i_Disk_flush__i_CrashDisk_2 : Q_i_Disk_flush__i_CrashDisk_2 = g_Q_i_Disk_flush__i_CrashDisk_2
  generalize hg_B_i_Disk_flush__i_whole_d : B_i_Disk_flush__i_whole_d = g_B_i_Disk_flush__i_whole_d
  generalize hg_Q_i_Disk_flush__i_whole : Q_i_Disk_flush__i_whole = g_Q_i_Disk_flush__i_whole
  generalize hR0 : F_i_DoActs d acts = R0
  generalize Q_i_DoActs d acts = Q0
  generalize hL : Lg.std = L
  generalize hA : Alg.std = A
  cbv
  subst hL hA
  try dsimp only [Ty.den]
  obtain ⟨d_0, d_1, ⟨⟩⟩ := d
  have hgd := fun h => (diskFault_good (d_0, d_1, PUnit.unit) h).w
  simp only [Q_i_DoActs] at hq
  repeat' (first | intro _ | apply And.intro)
  all_goals first | trivial | ((fail_if_success (refine lp_v (V := Unit) (fun _ => ⟨[], []⟩) (fun _ => True) (fun _ => 0) () ?_ ?_ ?_)); subst hR0 hg_F_i_DiskFault hg_Q_i_DiskFault hg_F_i_ownDisk hg_Q_i_ownDisk hg_F_i_Disk_writeFault hg_Q_i_Disk_writeFault hg_B_i_Disk_write_d hg_Q_i_Disk_write hg_F_i_whole hg_Q_i_whole hg_B_i_Disk_flush__i_CrashDisk_2_d hg_Q_i_Disk_flush__i_CrashDisk_2 hg_B_i_Disk_flush__i_whole_d hg_Q_i_Disk_flush__i_whole; (try simp only [Alg.std, F_i_DiskFault, F_i_ownDisk, F_i_Disk_writeFault, F_i_whole, B_i_Disk_write_d, B_i_Disk_flush__i_CrashDisk_2_d, B_i_Disk_flush__i_whole_d, Q_i_DiskFault, Q_i_ownDisk, Q_i_Disk_writeFault, Q_i_Disk_write, Q_i_whole, Q_i_Disk_flush__i_CrashDisk_2, Q_i_Disk_flush__i_whole, F_i_DoActs] at *); all_goals grind [doActs]) | skip
  refine lp_v (V := (Int) × (Int) × (Nat) × (Nat) × (List (List Int)) × (List ((Int) × (List (Int)) × Unit))) (fun ((i, M, N, K, xs, ps) : (Int) × (Int) × (Nat) × (Nat) × (List (List Int)) × (List ((Int) × (List (Int)) × Unit))) => ⟨[.junk, .junk, .junk, .junk, .bptr 0 0, .junk, .bptr 1 0, .junk, .junk, .junk, .junk, .junk, .junk, .junk, .junk, .junk, .junk, .junk, .junk, .junk, .junk, .junk, .dat (.sl (.pair (.int .i64) (.pair (.pair (.int .i64) (.pair (.sl (.int .u8)) .unit)) .unit))) acts, .dat (.int .i64) M, .dat (.int .i64) i, .junk, .junk, .junk, .junk, .junk, .junk, .junk, .junk, .junk, .junk, .junk, .junk, .junk, .junk, .junk, .junk, .junk, .junk, .junk, .junk, .junk, .junk, .junk, .junk, .junk, .junk, .junk, .junk, .junk, .junk, .junk, .junk, .junk, .junk, .junk, .junk, .junk, .junk, .junk, .junk, .junk, .junk, .junk, .junk, .junk, .junk, .junk, .junk], [some (.box [.dat (.int .i64) 0, .nilS, .nilS]), some (.box [.ref (.sl (.int .u8)) 2 0 [] 0 N, .ref (.pair (.int .i64) (.pair (.sl (.int .u8)) .unit)) 3 0 [] 0 K]), some (.row 0 (.sl (.int .u8)) (.ow .sh) xs), some (.row 0 (.pair (.int .i64) (.pair (.sl (.int .u8)) .unit)) (.pr .sh (.pr (.ow .sh) .sh)) ps)]⟩) (fun ((i, M, N, K, xs, ps) : (Int) × (Int) × (Nat) × (Nat) × (List (List Int)) × (List ((Int) × (List (Int)) × Unit))) => M = acts.length ∧ N = xs.length ∧ K = ps.length ∧ 0 ≤ i ∧ i ≤ acts.length ∧ GoodW (xs, ps, PUnit.unit) (64 + i.toNat) ∧ acts.length ≤ 80 ∧ diskFault (d_0, d_1, PUnit.unit) = 0 ∧ doActsD (xs, ps, PUnit.unit) (acts.drop i.toNat) = doActsD (d_0, d_1, PUnit.unit) acts) (fun ((i, M, N, K, xs, ps) : (Int) × (Int) × (Nat) × (Nat) × (List (List Int)) × (List ((Int) × (List (Int)) × Unit))) => acts.length - i.toNat) (0, _, _, _, _, _) rfl ?_ ?_
  · subst hR0 hg_F_i_DiskFault hg_Q_i_DiskFault hg_F_i_ownDisk hg_Q_i_ownDisk hg_F_i_Disk_writeFault hg_Q_i_Disk_writeFault hg_B_i_Disk_write_d hg_Q_i_Disk_write hg_F_i_whole hg_Q_i_whole hg_B_i_Disk_flush__i_CrashDisk_2_d hg_Q_i_Disk_flush__i_CrashDisk_2 hg_B_i_Disk_flush__i_whole_d hg_Q_i_Disk_flush__i_whole
    (try simp only [Alg.std, F_i_DiskFault, F_i_ownDisk, F_i_Disk_writeFault, F_i_whole, B_i_Disk_write_d, B_i_Disk_flush__i_CrashDisk_2_d, B_i_Disk_flush__i_whole_d, Q_i_DiskFault, Q_i_ownDisk, Q_i_Disk_writeFault, Q_i_Disk_write, Q_i_whole, Q_i_Disk_flush__i_CrashDisk_2, Q_i_Disk_flush__i_whole, F_i_DoActs] at *)
    all_goals grind
  rintro ⟨i, M, N, K, xs, ps⟩ hf I hI
  replace hf : M = acts.length ∧ N = xs.length ∧ K = ps.length ∧ 0 ≤ i ∧ i ≤ acts.length ∧ GoodW (xs, ps, PUnit.unit) (64 + i.toNat) ∧ acts.length ≤ 80 ∧ diskFault (d_0, d_1, PUnit.unit) = 0 ∧ doActsD (xs, ps, PUnit.unit) (acts.drop i.toNat) = doActsD (d_0, d_1, PUnit.unit) acts := hf
  generalize hL : Lg.std = L
  generalize hA : Alg.std = A
  cbv
  subst hL hA
  try dsimp only [Ty.den]
  subst hI
  obtain ⟨h1, h2, h3, h4, h5, h6, h7, h8, h9⟩ := hf
  have hgd := h6
  have h5' : i ≤ (acts.length : Int) := h5
  have hsu : (i + 1).toNat = i.toNat + 1 := by omega
  have hgs := hgd.mono (k' := 256) (by omega)
  have hgo := doAct_good hgd (acts.getD i.toNat actD)
  have hst := fun (h : i.toNat < acts.length) => doActs_step (xs, ps, ()) acts i.toNat h
  have hen := fun (h : acts.length ≤ i.toNat) => doActs_end (xs, ps, ()) acts i.toNat h
  have hpl : ps.length ≤ 64 + i.toNat := hgd.2.2.1
  have h64 : 64 + (i + 1).toNat = 64 + i.toNat + 1 := by omega
  rw [← h64] at hgo
  try dsimp only [actD, putD] at hgo hst
  repeat' (first | intro _ | apply And.intro)
  all_goals first | (with_reducible exact True.intro) | ((fail_if_success (refine lp_v (V := Unit) (fun _ => ⟨[], []⟩) (fun _ => True) (fun _ => 0) () ?_ ?_ ?_)); (try simp only [Lg.std, Alg.std, List.drop_zero, List.take_length] at *); (try refine ⟨(_, _, _, _, _, _), rfl, ?_, ?_⟩); (all_goals (subst hR0 hg_F_i_DiskFault hg_Q_i_DiskFault hg_F_i_ownDisk hg_Q_i_ownDisk hg_F_i_Disk_writeFault hg_Q_i_Disk_writeFault hg_B_i_Disk_write_d hg_Q_i_Disk_write hg_F_i_whole hg_Q_i_whole hg_B_i_Disk_flush__i_CrashDisk_2_d hg_Q_i_Disk_flush__i_CrashDisk_2 hg_B_i_Disk_flush__i_whole_d hg_Q_i_Disk_flush__i_whole; (try simp only [Lg.std, Alg.std, List.drop_zero, List.take_length, F_i_DiskFault, F_i_ownDisk, F_i_Disk_writeFault, F_i_whole, B_i_Disk_write_d, B_i_Disk_flush__i_CrashDisk_2_d, B_i_Disk_flush__i_whole_d, Q_i_DiskFault, Q_i_ownDisk, Q_i_Disk_writeFault, Q_i_Disk_write, Q_i_whole, Q_i_Disk_flush__i_CrashDisk_2, Q_i_Disk_flush__i_whole, F_i_DoActs] at *); first | done | ((try generalize acts.getD i.toNat (0, (0, [], ()), ()) = xa at *); (try obtain ⟨xa0, ⟨xa1, xa2, ⟨⟩⟩, ⟨⟩⟩ := xa); (try dsimp only at *); (try have he1 := disk_eta (writeD (xs, ps, ()) xa1 xa2)); (try have he2 := disk_eta (crashD (xs, ps, ()) (whole96 (xs, ps, ())))); (try simp only [doAct] at *); (try have hwo := writeFault_ok (xs, ps, ()) xa1 xa2); grind [writeFault, doActs])))) | skip
def con_i_DoActs : Con := ⟨true, g2 (pD (.pair (.sl (.sl (.int .u8))) (.pair (.sl (.pair (.int .i64) (.pair (.sl (.int .u8)) .unit))) .unit))) (pD (.sl (.pair (.int .i64) (.pair (.pair (.int .i64) (.pair (.sl (.int .u8)) .unit)) .unit)))) fun d acts => ⟨[Q_i_DoActs d acts], [⟨(.pair (.int .i64) (.pair (.pair (.sl (.sl (.int .u8))) (.pair (.sl (.pair (.int .i64) (.pair (.sl (.int .u8)) .unit))) .unit)) .unit)), (.pr .sh (.pr (.pr (.ow (.ow .sh)) (.pr (.ow (.pr .sh (.pr (.ow .sh) .sh))) .sh)) .sh)), F_i_DoActs d acts⟩], []⟩, []⟩
theorem ok_i_DoActs : ConOk pg 48 con_i_DoActs := ConOk.g2 (Enters.of (by kernel_rfl)) ct_i_DoActs

def F_s_DoActs (d : (List (List (Int))) × (List ((Int) × (List (Int)) × Unit)) × Unit) (acts : List ((Int) × ((Int) × (List (Int)) × Unit) × Unit)) : (Int) × ((List (List (Int))) × (List ((Int) × (List (Int)) × Unit)) × Unit) × Unit := doActs d acts
def Q_s_DoActs (d : (List (List (Int))) × (List ((Int) × (List (Int)) × Unit)) × Unit) (acts : List ((Int) × ((Int) × (List (Int)) × Unit) × Unit)) : Prop := tot tDisk d ≤ 1048576
def O_s_DoActs : Opt := ⟨fun i => false, fun i => [], fun i => .done, fun i => none, fun i => false, fun i => []⟩
def τ_s_DoActs : Env := Env.of [(2, (.int .i64)), (3, (.int .i64)), (4, .bool), (30, (.pair (.sl (.sl (.int .u8))) (.pair (.sl (.pair (.int .i64) (.pair (.sl (.int .u8)) .unit))) .unit))), (32, (.pair (.int .i64) (.pair (.pair (.sl (.sl (.int .u8))) (.pair (.sl (.pair (.int .i64) (.pair (.sl (.int .u8)) .unit))) .unit)) .unit))), (71, (.sl (.pair (.int .i64) (.pair (.pair (.int .i64) (.pair (.sl (.int .u8)) .unit)) .unit))))] [(114, (.pair (.sl (.sl (.int .u8))) (.pair (.sl (.pair (.int .i64) (.pair (.sl (.int .u8)) .unit))) .unit)))] []

theorem ct_s_DoActs (d : (List (List (Int))) × (List ((Int) × (List (Int)) × Unit)) × Unit) (acts : List ((Int) × ((Int) × (List (Int)) × Unit) × Unit)) : Ct pg 46 [.dat (.pair (.sl (.sl (.int .u8))) (.pair (.sl (.pair (.int .i64) (.pair (.sl (.int .u8)) .unit))) .unit)) d, .dat (.sl (.pair (.int .i64) (.pair (.pair (.int .i64) (.pair (.sl (.int .u8)) .unit)) .unit))) acts] ⟨[Q_s_DoActs d acts], [⟨(.pair (.int .i64) (.pair (.pair (.sl (.sl (.int .u8))) (.pair (.sl (.pair (.int .i64) (.pair (.sl (.int .u8)) .unit))) .unit)) .unit)), (.pr .sh (.pr (.pr (.ow (.ow .sh)) (.pr (.ow (.pr .sh (.pr (.ow .sh) .sh))) .sh)) .sh)), F_s_DoActs d acts⟩], []⟩ := by
  refine ct_claim (O := O_s_DoActs) (τ := τ_s_DoActs) (EnvOk.of (by kernel_rfl) (by kernel_rfl)) (GOk.of (.cons ok_s_DiskFault (.cons ok_s_l14Copy (.cons ok_s_l14Do .nil)) : AllOk pg [(81, con_s_DiskFault), (83, con_s_l14Copy), (114, con_s_l14Do)])) mixed (Enters.of (by kernel_rfl)) (fn := Go.Proofs.Try.f46) (by kernel_rfl) rfl (by kernel_rfl) ?_
  intro hp hw
  have hq : Q_s_DoActs d acts := hp _ (List.mem_singleton.2 rfl)
  clear hp
  change claim Lg.std Alg.std τ_s_DoActs (Gam.of [(81, ⟨true, g1 (pD (.pair (.sl (.sl (.int .u8))) (.pair (.sl (.pair (.int .i64) (.pair (.sl (.int .u8)) .unit))) .unit))) fun d => ⟨[Q_s_DiskFault d], [⟨(.int .i64), .sh, F_s_DiskFault d⟩], []⟩, []⟩), (83, ⟨true, g1 (pP (.pair (.sl (.sl (.int .u8))) (.pair (.sl (.pair (.int .i64) (.pair (.sl (.int .u8)) .unit))) .unit))) fun d => ⟨[Q_s_l14Copy d], [⟨(.pair (.sl (.sl (.int .u8))) (.pair (.sl (.pair (.int .i64) (.pair (.sl (.int .u8)) .unit))) .unit)), (.pr (.ow (.ow .sh)) (.pr (.ow (.pr .sh (.pr (.ow .sh) .sh))) .sh)), F_s_l14Copy d⟩], []⟩, []⟩), (114, ⟨true, g2 (pW (.pair (.sl (.sl (.int .u8))) (.pair (.sl (.pair (.int .i64) (.pair (.sl (.int .u8)) .unit))) .unit)) (.pr (.ow (.ow .sh)) (.pr (.ow (.pr .sh (.pr (.ow .sh) .sh))) .sh))) (pD (.sl (.pair (.int .i64) (.pair (.pair (.int .i64) (.pair (.sl (.int .u8)) .unit)) .unit)))) fun d acts => ⟨[Q_s_l14Do d acts], [⟨(.int .i64), .sh, F_s_l14Do d acts⟩], [.mp (.pair (.sl (.sl (.int .u8))) (.pair (.sl (.pair (.int .i64) (.pair (.sl (.int .u8)) .unit))) .unit)) (.pr (.ow (.ow .sh)) (.pr (.ow (.pr .sh (.pr (.ow .sh) .sh))) .sh)) (B_s_l14Do_d d acts)]⟩, [(.pr (.ow (.ow .sh)) (.pr (.ow (.pr .sh (.pr (.ow .sh) .sh))) .sh))]⟩)]) O_s_DoActs Go.Proofs.Try.f46 [.dat (.pair (.sl (.sl (.int .u8))) (.pair (.sl (.pair (.int .i64) (.pair (.sl (.int .u8)) .unit))) .unit)) d, .dat (.sl (.pair (.int .i64) (.pair (.pair (.int .i64) (.pair (.sl (.int .u8)) .unit)) .unit))) acts] ⟨[Q_s_DoActs d acts], [⟨(.pair (.int .i64) (.pair (.pair (.sl (.sl (.int .u8))) (.pair (.sl (.pair (.int .i64) (.pair (.sl (.int .u8)) .unit))) .unit)) .unit)), (.pr .sh (.pr (.pr (.ow (.ow .sh)) (.pr (.ow (.pr .sh (.pr (.ow .sh) .sh))) .sh)) .sh)), F_s_DoActs d acts⟩], []⟩
  generalize hg_F_s_DiskFault : F_s_DiskFault = g_F_s_DiskFault
  generalize hg_Q_s_DiskFault : Q_s_DiskFault = g_Q_s_DiskFault
  generalize hg_F_s_l14Copy : F_s_l14Copy = g_F_s_l14Copy
  generalize hg_Q_s_l14Copy : Q_s_l14Copy = g_Q_s_l14Copy
  generalize hg_F_s_l14Do : F_s_l14Do = g_F_s_l14Do
  generalize hg_B_s_l14Do_d : B_s_l14Do_d = g_B_s_l14Do_d
  generalize hg_Q_s_l14Do : Q_s_l14Do = g_Q_s_l14Do
  generalize hR0 : F_s_DoActs d acts = R0
  generalize Q_s_DoActs d acts = Q0
  generalize hL : Lg.std = L
  generalize hA : Alg.std = A
  cbv
  subst hL hA
  try dsimp only [Ty.den]
  obtain ⟨d_0, d_1, ⟨⟩⟩ := d
  have hgd := fun h => (diskFault_good (d_0, d_1, PUnit.unit) h).w
  subst hR0 hg_F_s_DiskFault hg_Q_s_DiskFault hg_F_s_l14Copy hg_Q_s_l14Copy hg_F_s_l14Do hg_B_s_l14Do_d hg_Q_s_l14Do
  simp only [Q_s_DoActs] at hq
  simp only [Lg.std, Alg.std, List.drop_zero, List.take_length, F_s_DiskFault, F_s_l14Copy, F_s_l14Do, B_s_l14Do_d, Q_s_DiskFault, Q_s_l14Copy, Q_s_l14Do, F_s_DoActs, doActs] at *
  try simp only [true_and, and_true, false_implies, implies_true, imp_self]
  generalize hG : GoodW (d_0, d_1, PUnit.unit) 64 = G at *
  repeat' (first | intro _ | apply And.intro)
  all_goals grind
def con_s_DoActs : Con := ⟨true, g2 (pD (.pair (.sl (.sl (.int .u8))) (.pair (.sl (.pair (.int .i64) (.pair (.sl (.int .u8)) .unit))) .unit))) (pD (.sl (.pair (.int .i64) (.pair (.pair (.int .i64) (.pair (.sl (.int .u8)) .unit)) .unit)))) fun d acts => ⟨[Q_s_DoActs d acts], [⟨(.pair (.int .i64) (.pair (.pair (.sl (.sl (.int .u8))) (.pair (.sl (.pair (.int .i64) (.pair (.sl (.int .u8)) .unit))) .unit)) .unit)), (.pr .sh (.pr (.pr (.ow (.ow .sh)) (.pr (.ow (.pr .sh (.pr (.ow .sh) .sh))) .sh)) .sh)), F_s_DoActs d acts⟩], []⟩, []⟩
theorem ok_s_DoActs : ConOk pg 46 con_s_DoActs := ConOk.g2 (Enters.of (by kernel_rfl)) ct_s_DoActs

def F_w_markActS (a : List ((Int) × ((Int) × (List (Int)) × Unit) × Unit)) (k : Int) : Int := k + cnt false (.sl (.pair (.int .i64) (.pair (.pair (.int .i64) (.pair (.sl (.int .u8)) .unit)) .unit))) a
def B_w_markActS_a (a : List ((Int) × ((Int) × (List (Int)) × Unit) × Unit)) (k : Int) : List ((Int) × ((Int) × (List (Int)) × Unit) × Unit) := mk false (.sl (.pair (.int .i64) (.pair (.pair (.int .i64) (.pair (.sl (.int .u8)) .unit)) .unit))) a k
def Q_w_markActS (a : List ((Int) × ((Int) × (List (Int)) × Unit) × Unit)) (k : Int) : Prop := 0 ≤ k ∧ k + cnt false (.sl (.pair (.int .i64) (.pair (.pair (.int .i64) (.pair (.sl (.int .u8)) .unit)) .unit))) a ≤ 4611686018427387904
def O_w_markActS : Opt := ⟨fun i => false, fun i => (match decide (i = 2) with | true => [true, true, false, false, false, true, false, false, false, false, false, false, false, false, false, false, false, false, false, false, false, false, false, false, false, false, false, false, false, false, false, false, false, false, false, false] | false => []), fun i => .done, fun i => none, fun i => false, fun i => []⟩
def τ_w_markActS : Env := Env.of [(2, (.int .i64)), (3, (.int .i64)), (4, .bool), (26, (.sl (.int .u8))), (71, (.sl (.pair (.int .i64) (.pair (.pair (.int .i64) (.pair (.sl (.int .u8)) .unit)) .unit)))), (145, (.pair (.int .i64) (.pair (.sl (.int .u8)) .unit))), (147, (.pair (.int .i64) (.pair (.pair (.int .i64) (.pair (.sl (.int .u8)) .unit)) .unit)))] [] []

theorem ct_w_markActS (a : List ((Int) × ((Int) × (List (Int)) × Unit) × Unit)) (k : Int) : Ct pg 50 [.mv (.sl (.pair (.int .i64) (.pair (.pair (.int .i64) (.pair (.sl (.int .u8)) .unit)) .unit))) (.ow (.pr .sh (.pr (.pr .sh (.pr (.ow .sh) .sh)) .sh))) a, .dat (.int .i64) k] ⟨[Q_w_markActS a k], [⟨(.int .i64), .sh, F_w_markActS a k⟩], [.mv (.sl (.pair (.int .i64) (.pair (.pair (.int .i64) (.pair (.sl (.int .u8)) .unit)) .unit))) (.ow (.pr .sh (.pr (.pr .sh (.pr (.ow .sh) .sh)) .sh))) (B_w_markActS_a a k)]⟩ := by
  refine ct_claim (O := O_w_markActS) (τ := τ_w_markActS) (EnvOk.of (by kernel_rfl) (by kernel_rfl)) (GOk.of (.cons ok_w_markByteS .nil : AllOk pg [(23, con_w_markByteS)])) mixed (Enters.of (by kernel_rfl)) (fn := Go.Proofs.Try.f50) (by kernel_rfl) rfl (by kernel_rfl) ?_
  intro hp hw
  have hq : Q_w_markActS a k := hp _ (List.mem_singleton.2 rfl)
  clear hp
  change claim Lg.std Alg.std τ_w_markActS (Gam.of [(23, ⟨true, g2 (pV (.sl (.int .u8)) (.ow .sh)) (pD (.int .i64)) fun a k => ⟨[Q_w_markByteS a k], [⟨(.int .i64), .sh, F_w_markByteS a k⟩], [.mv (.sl (.int .u8)) (.ow .sh) (B_w_markByteS_a a k)]⟩, [(.ow .sh)]⟩)]) O_w_markActS Go.Proofs.Try.f50 [.mv (.sl (.pair (.int .i64) (.pair (.pair (.int .i64) (.pair (.sl (.int .u8)) .unit)) .unit))) (.ow (.pr .sh (.pr (.pr .sh (.pr (.ow .sh) .sh)) .sh))) a, .dat (.int .i64) k] ⟨[Q_w_markActS a k], [⟨(.int .i64), .sh, F_w_markActS a k⟩], [.mv (.sl (.pair (.int .i64) (.pair (.pair (.int .i64) (.pair (.sl (.int .u8)) .unit)) .unit))) (.ow (.pr .sh (.pr (.pr .sh (.pr (.ow .sh) .sh)) .sh))) (B_w_markActS_a a k)]⟩
  generalize hg_F_w_markByteS : F_w_markByteS = g_F_w_markByteS
  generalize hg_B_w_markByteS_a : B_w_markByteS_a = g_B_w_markByteS_a
  generalize hg_Q_w_markByteS : Q_w_markByteS = g_Q_w_markByteS
  generalize hR0 : F_w_markActS a k = R0
  generalize hB_a : B_w_markActS_a a k = B_a
  generalize Q_w_markActS a k = Q0
  generalize hL : Lg.std = L
  generalize hA : Alg.std = A
  cbv
  subst hL hA
  try dsimp only [Ty.den]
  simp only [Q_w_markActS] at hq
  refine lp_v (V := (Int) × (Int) × (Nat) × (List ((Int) × ((Int) × (List (Int)) × Unit) × Unit))) (fun ((i, j, N, xs) : (Int) × (Int) × (Nat) × (List ((Int) × ((Int) × (List (Int)) × Unit) × Unit))) => ⟨[.ref (.pair (.int .i64) (.pair (.pair (.int .i64) (.pair (.sl (.int .u8)) .unit)) .unit)) 0 0 [] 0 N, .dat (.int .i64) j, .junk, .junk, .junk, .dat (.int .i64) i, .junk, .junk, .junk, .junk, .junk, .junk, .junk, .junk, .junk, .junk, .junk, .junk, .junk, .junk, .junk, .junk, .junk, .junk, .junk, .junk, .junk, .junk, .junk, .junk, .junk, .junk, .junk, .junk, .junk, .junk], [some (.row 0 (.pair (.int .i64) (.pair (.pair (.int .i64) (.pair (.sl (.int .u8)) .unit)) .unit)) (.pr .sh (.pr (.pr .sh (.pr (.ow .sh) .sh)) .sh)) xs), some (.gh [.ref (.pair (.int .i64) (.pair (.pair (.int .i64) (.pair (.sl (.int .u8)) .unit)) .unit)) 0 0 [] 0 N])]⟩) (fun ((i, j, N, xs) : (Int) × (Int) × (Nat) × (List ((Int) × ((Int) × (List (Int)) × Unit) × Unit))) => N = a.length ∧ 0 ≤ i ∧ i ≤ a.length ∧ j = k + cnt false (.sl (.pair (.int .i64) (.pair (.pair (.int .i64) (.pair (.sl (.int .u8)) .unit)) .unit))) (a.take i.toNat : List ((Int) × ((Int) × (List (Int)) × Unit) × Unit)) ∧ xs = (mk false (.sl (.pair (.int .i64) (.pair (.pair (.int .i64) (.pair (.sl (.int .u8)) .unit)) .unit))) a k : List ((Int) × ((Int) × (List (Int)) × Unit) × Unit)).take i.toNat ++ a.drop i.toNat) (fun ((i, j, N, xs) : (Int) × (Int) × (Nat) × (List ((Int) × ((Int) × (List (Int)) × Unit) × Unit))) => a.length - i.toNat) (0, k, _, _) rfl ?_ ?_
  · simp [Alg.std, cnt, cntL]
  rintro ⟨i, j, N, xs⟩ hf I hI
  replace hf : N = a.length ∧ 0 ≤ i ∧ i ≤ a.length ∧ j = k + cnt false (.sl (.pair (.int .i64) (.pair (.pair (.int .i64) (.pair (.sl (.int .u8)) .unit)) .unit))) (a.take i.toNat : List ((Int) × ((Int) × (List (Int)) × Unit) × Unit)) ∧ xs = (mk false (.sl (.pair (.int .i64) (.pair (.pair (.int .i64) (.pair (.sl (.int .u8)) .unit)) .unit))) a k : List ((Int) × ((Int) × (List (Int)) × Unit) × Unit)).take i.toNat ++ a.drop i.toNat := hf
  generalize hL : Lg.std = L
  generalize hA : Alg.std = A
  cbv
  subst hL hA
  try dsimp only [Ty.den]
  subst hI
  simp only [Lg.std, Alg.std, List.drop_zero, List.take_length]
  obtain ⟨h1, h2, h3, h4, h5⟩ := hf
  have hl := hw.1.1
  have hk := fun (h : i.toNat < a.length) => mk_stepT (.pair (.int .i64) (.pair (.pair (.int .i64) (.pair (.sl (.int .u8)) .unit)) .unit)) a ((0, (0, [], PUnit.unit), PUnit.unit) : (Int) × ((Int) × (List (Int)) × Unit) × Unit) k i.toNat h
  have hm := fun (h : i.toNat < a.length) => mk_mid (.pair (.int .i64) (.pair (.pair (.int .i64) (.pair (.sl (.int .u8)) .unit)) .unit)) a ((0, (0, [], PUnit.unit), PUnit.unit) : (Int) × ((Int) × (List (Int)) × Unit) × Unit) k i.toNat h
  have hml := fun (h : i.toNat ≤ a.length) => mk_midlen (.pair (.int .i64) (.pair (.pair (.int .i64) (.pair (.sl (.int .u8)) .unit)) .unit)) a k i.toNat h
  have hct := fun (h : i.toNat < a.length) => cnt_take (.pair (.int .i64) (.pair (.pair (.int .i64) (.pair (.sl (.int .u8)) .unit)) .unit)) a ((0, (0, [], PUnit.unit), PUnit.unit) : (Int) × ((Int) × (List (Int)) × Unit) × Unit) i.toNat h
  have hcl := cnt_le (.pair (.int .i64) (.pair (.pair (.int .i64) (.pair (.sl (.int .u8)) .unit)) .unit)) a (i.toNat + 1)
  have hcl0 := cnt_le (.pair (.int .i64) (.pair (.pair (.int .i64) (.pair (.sl (.int .u8)) .unit)) .unit)) a i.toNat
  have hta := fun (h : a.length ≤ i.toNat) => List.take_of_length_le h
  have htm := fun (h : a.length ≤ i.toNat) => List.take_of_length_le (l := (mk false (.sl (.pair (.int .i64) (.pair (.pair (.int .i64) (.pair (.sl (.int .u8)) .unit)) .unit))) a k : List ((Int) × ((Int) × (List (Int)) × Unit) × Unit))) (Nat.le_trans (Nat.le_of_eq (mk_len false (.pair (.int .i64) (.pair (.pair (.int .i64) (.pair (.sl (.int .u8)) .unit)) .unit)) a k)) h)
  have hdc := fun (h : i.toNat < a.length) => drop_cons a ((0, (0, [], PUnit.unit), PUnit.unit) : (Int) × ((Int) × (List (Int)) × Unit) × Unit) i.toNat h
  have he := fun (h : a.length ≤ i.toNat) => drop_nil a i.toNat h
  repeat' (first | intro _ | apply And.intro)
  all_goals (try refine ⟨(_, _, _, _), rfl, ?_, ?_⟩)
  all_goals subst hR0 hB_a hg_F_w_markByteS hg_B_w_markByteS_a hg_Q_w_markByteS
  all_goals (try simp only [F_w_markByteS, B_w_markByteS_a, Q_w_markByteS, F_w_markActS, B_w_markActS_a] at *)
  all_goals (try simp only [szf, tot_p, tot_u, tot_i, tot_b, tot_s, cnt_p, cnt_u, cnt_i0, cnt_b0, cnt_s0, cnt_i1, cnt_b1, cnt_s1, cnt_l, mk_p, mk_u, mk_i0, mk_b0, mk_s0, mk_i1, mk_s1, mk_l, hd_p, hd_u, hd_i0, hd_b0, hd_s0, hd_i1, hd_b1, hd_s1, hd_l] at *)
  all_goals grind [getD_set_self, List.set_set, i64_wrap]
def con_w_markActS : Con := ⟨true, g2 (pV (.sl (.pair (.int .i64) (.pair (.pair (.int .i64) (.pair (.sl (.int .u8)) .unit)) .unit))) (.ow (.pr .sh (.pr (.pr .sh (.pr (.ow .sh) .sh)) .sh)))) (pD (.int .i64)) fun a k => ⟨[Q_w_markActS a k], [⟨(.int .i64), .sh, F_w_markActS a k⟩], [.mv (.sl (.pair (.int .i64) (.pair (.pair (.int .i64) (.pair (.sl (.int .u8)) .unit)) .unit))) (.ow (.pr .sh (.pr (.pr .sh (.pr (.ow .sh) .sh)) .sh))) (B_w_markActS_a a k)]⟩, [(.ow (.pr .sh (.pr (.pr .sh (.pr (.ow .sh) .sh)) .sh)))]⟩
theorem ok_w_markActS : ConOk pg 50 con_w_markActS := ConOk.g2 (Enters.of (by kernel_rfl)) ct_w_markActS

def F_w_FnExactDoActs (d : (List (List (Int))) × (List ((Int) × (List (Int)) × Unit)) × Unit) (l : List ((Int) × ((Int) × (List (Int)) × Unit) × Unit)) : Bool := true
def Q_w_FnExactDoActs (d : (List (List (Int))) × (List ((Int) × (List (Int)) × Unit)) × Unit) (l : List ((Int) × ((Int) × (List (Int)) × Unit) × Unit)) : Prop := True
def O_w_FnExactDoActs : Opt := ⟨fun i => false, fun i => [], fun i => (match decide (i = 14) with | true => (.alt 0 (.alt 1 (.alt 2 (.alt 3 (.take 4 .done) .no) .no) .no) (.alt 1 (.alt 0 (.alt 2 (.alt 3 (.take 4 .done) .no) .no) (.alt 2 (.alt 0 (.alt 3 (.take 4 .done) .no) .no) .no)) .no)) | false => .done), fun i => (match decide (i = 14) with | true => some [false, true, true, false, false, false, true, true, true, true, false, false, false, false, false, false, false, false, false, false, false, false, false, false, false, false, false, false, false, false, false, false, false, false, false, false, false, false, false, false, false, false, false, false, true, false, false, false, false, false, false, false, false, false, false, false, false, false, false, false, false, false, false, false, false, false, false, false, false, false, false, false, false, false, false, false, false, false, false, false, false, false, false, false, false, false, false, false, false, false, false, false] | false => none), fun i => false, fun i => []⟩
def τ_w_FnExactDoActs : Env := Env.of [(3, (.int .i64)), (4, .bool), (25, (.pair (.sl (.sl (.int .u8))) (.pair (.sl (.pair (.int .i64) (.pair (.sl (.int .u8)) .unit))) .unit))), (30, (.pair (.sl (.sl (.int .u8))) (.pair (.sl (.pair (.int .i64) (.pair (.sl (.int .u8)) .unit))) .unit))), (32, (.pair (.int .i64) (.pair (.pair (.sl (.sl (.int .u8))) (.pair (.sl (.pair (.int .i64) (.pair (.sl (.int .u8)) .unit))) .unit)) .unit))), (68, (.sl (.pair (.int .i64) (.pair (.pair (.int .i64) (.pair (.sl (.int .u8)) .unit)) .unit)))), (71, (.sl (.pair (.int .i64) (.pair (.pair (.int .i64) (.pair (.sl (.int .u8)) .unit)) .unit))))] [] []

theorem ct_w_FnExactDoActs (d : (List (List (Int))) × (List ((Int) × (List (Int)) × Unit)) × Unit) (l : List ((Int) × ((Int) × (List (Int)) × Unit) × Unit)) : Ct pg 7 [.dat (.pair (.sl (.sl (.int .u8))) (.pair (.sl (.pair (.int .i64) (.pair (.sl (.int .u8)) .unit))) .unit)) d, .dat (.sl (.pair (.int .i64) (.pair (.pair (.int .i64) (.pair (.sl (.int .u8)) .unit)) .unit))) l] ⟨[Q_w_FnExactDoActs d l], [⟨.bool, .sh, F_w_FnExactDoActs d l⟩], []⟩ := by
  refine ct_claim (O := O_w_FnExactDoActs) (τ := τ_w_FnExactDoActs) (EnvOk.of (by kernel_rfl) (by kernel_rfl)) (GOk.of (.cons ok_w_toDisk (.cons ok_w_eqDisk (.cons ok_w_szDisk (.cons ok_w_markDisk (.cons ok_w_eqDiskResult (.cons ok_w_markDiskResult (.cons ok_w_heldDiskResult (.cons ok_w_szActS (.cons ok_w_toActS (.cons ok_w_eqActS (.cons ok_i_DoActs (.cons ok_s_DoActs (.cons ok_w_markActS .nil)))))))))))) : AllOk pg [(16, con_w_toDisk), (20, con_w_eqDisk), (14, con_w_szDisk), (22, con_w_markDisk), (19, con_w_eqDiskResult), (24, con_w_markDiskResult), (25, con_w_heldDiskResult), (45, con_w_szActS), (47, con_w_toActS), (49, con_w_eqActS), (48, con_i_DoActs), (46, con_s_DoActs), (50, con_w_markActS)])) mixed (Enters.of (by kernel_rfl)) (fn := Go.Proofs.Try.f7) (by kernel_rfl) rfl (by kernel_rfl) ?_
  intro hp hw
  have hq : Q_w_FnExactDoActs d l := hp _ (List.mem_singleton.2 rfl)
  clear hp
  change claim Lg.std Alg.std τ_w_FnExactDoActs (Gam.of [(16, ⟨true, g1 (pD (.pair (.sl (.sl (.int .u8))) (.pair (.sl (.pair (.int .i64) (.pair (.sl (.int .u8)) .unit))) .unit))) fun a => ⟨[Q_w_toDisk a], [⟨(.pair (.sl (.sl (.int .u8))) (.pair (.sl (.pair (.int .i64) (.pair (.sl (.int .u8)) .unit))) .unit)), (.pr (.ow (.ow .sh)) (.pr (.ow (.pr .sh (.pr (.ow .sh) .sh))) .sh)), F_w_toDisk a⟩], []⟩, []⟩), (20, ⟨true, g2 (pD (.pair (.sl (.sl (.int .u8))) (.pair (.sl (.pair (.int .i64) (.pair (.sl (.int .u8)) .unit))) .unit))) (pD (.pair (.sl (.sl (.int .u8))) (.pair (.sl (.pair (.int .i64) (.pair (.sl (.int .u8)) .unit))) .unit))) fun a b => ⟨[Q_w_eqDisk a b], [⟨.bool, .sh, F_w_eqDisk a b⟩], []⟩, []⟩), (14, ⟨true, g2 (pD (.pair (.sl (.sl (.int .u8))) (.pair (.sl (.pair (.int .i64) (.pair (.sl (.int .u8)) .unit))) .unit))) (pD (.int .i64)) fun a left => ⟨[Q_w_szDisk a left], [⟨(.int .i64), .sh, F_w_szDisk a left⟩], []⟩, []⟩), (22, ⟨true, g2 (pV (.pair (.sl (.sl (.int .u8))) (.pair (.sl (.pair (.int .i64) (.pair (.sl (.int .u8)) .unit))) .unit)) (.pr (.ow (.ow .sh)) (.pr (.ow (.pr .sh (.pr (.ow .sh) .sh))) .sh))) (pD (.int .i64)) fun a k => ⟨[Q_w_markDisk a k], [⟨(.int .i64), .sh, F_w_markDisk a k⟩], [.mv (.pair (.sl (.sl (.int .u8))) (.pair (.sl (.pair (.int .i64) (.pair (.sl (.int .u8)) .unit))) .unit)) (.pr (.ow (.ow .sh)) (.pr (.ow (.pr .sh (.pr (.ow .sh) .sh))) .sh)) (B_w_markDisk_a a k)]⟩, [(.pr (.ow (.ow .sh)) (.pr (.ow (.pr .sh (.pr (.ow .sh) .sh))) .sh))]⟩), (19, ⟨true, g2 (pD (.pair (.int .i64) (.pair (.pair (.sl (.sl (.int .u8))) (.pair (.sl (.pair (.int .i64) (.pair (.sl (.int .u8)) .unit))) .unit)) .unit))) (pD (.pair (.int .i64) (.pair (.pair (.sl (.sl (.int .u8))) (.pair (.sl (.pair (.int .i64) (.pair (.sl (.int .u8)) .unit))) .unit)) .unit))) fun a b => ⟨[Q_w_eqDiskResult a b], [⟨.bool, .sh, F_w_eqDiskResult a b⟩], []⟩, []⟩), (24, ⟨true, g2 (pV (.pair (.int .i64) (.pair (.pair (.sl (.sl (.int .u8))) (.pair (.sl (.pair (.int .i64) (.pair (.sl (.int .u8)) .unit))) .unit)) .unit)) (.pr .sh (.pr (.pr (.ow (.ow .sh)) (.pr (.ow (.pr .sh (.pr (.ow .sh) .sh))) .sh)) .sh))) (pD (.int .i64)) fun a k => ⟨[Q_w_markDiskResult a k], [⟨(.int .i64), .sh, F_w_markDiskResult a k⟩], [.mv (.pair (.int .i64) (.pair (.pair (.sl (.sl (.int .u8))) (.pair (.sl (.pair (.int .i64) (.pair (.sl (.int .u8)) .unit))) .unit)) .unit)) (.pr .sh (.pr (.pr (.ow (.ow .sh)) (.pr (.ow (.pr .sh (.pr (.ow .sh) .sh))) .sh)) .sh)) (B_w_markDiskResult_a a k)]⟩, [(.pr .sh (.pr (.pr (.ow (.ow .sh)) (.pr (.ow (.pr .sh (.pr (.ow .sh) .sh))) .sh)) .sh))]⟩), (25, ⟨true, g2 (pD (.pair (.int .i64) (.pair (.pair (.sl (.sl (.int .u8))) (.pair (.sl (.pair (.int .i64) (.pair (.sl (.int .u8)) .unit))) .unit)) .unit))) (pD (.int .i64)) fun a k => ⟨[Q_w_heldDiskResult a k], [⟨(.int .i64), .sh, F_w_heldDiskResult a k⟩], []⟩, []⟩), (45, ⟨true, g2 (pD (.sl (.pair (.int .i64) (.pair (.pair (.int .i64) (.pair (.sl (.int .u8)) .unit)) .unit)))) (pD (.int .i64)) fun a left => ⟨[Q_w_szActS a left], [⟨(.int .i64), .sh, F_w_szActS a left⟩], []⟩, []⟩), (47, ⟨true, g1 (pD (.sl (.pair (.int .i64) (.pair (.pair (.int .i64) (.pair (.sl (.int .u8)) .unit)) .unit)))) fun a => ⟨[Q_w_toActS a], [⟨(.sl (.pair (.int .i64) (.pair (.pair (.int .i64) (.pair (.sl (.int .u8)) .unit)) .unit))), (.ow (.pr .sh (.pr (.pr .sh (.pr (.ow .sh) .sh)) .sh))), F_w_toActS a⟩], []⟩, []⟩), (49, ⟨true, g2 (pD (.sl (.pair (.int .i64) (.pair (.pair (.int .i64) (.pair (.sl (.int .u8)) .unit)) .unit)))) (pD (.sl (.pair (.int .i64) (.pair (.pair (.int .i64) (.pair (.sl (.int .u8)) .unit)) .unit)))) fun a b => ⟨[Q_w_eqActS a b], [⟨.bool, .sh, F_w_eqActS a b⟩], []⟩, []⟩), (48, ⟨true, g2 (pD (.pair (.sl (.sl (.int .u8))) (.pair (.sl (.pair (.int .i64) (.pair (.sl (.int .u8)) .unit))) .unit))) (pD (.sl (.pair (.int .i64) (.pair (.pair (.int .i64) (.pair (.sl (.int .u8)) .unit)) .unit)))) fun d acts => ⟨[Q_i_DoActs d acts], [⟨(.pair (.int .i64) (.pair (.pair (.sl (.sl (.int .u8))) (.pair (.sl (.pair (.int .i64) (.pair (.sl (.int .u8)) .unit))) .unit)) .unit)), (.pr .sh (.pr (.pr (.ow (.ow .sh)) (.pr (.ow (.pr .sh (.pr (.ow .sh) .sh))) .sh)) .sh)), F_i_DoActs d acts⟩], []⟩, []⟩), (46, ⟨true, g2 (pD (.pair (.sl (.sl (.int .u8))) (.pair (.sl (.pair (.int .i64) (.pair (.sl (.int .u8)) .unit))) .unit))) (pD (.sl (.pair (.int .i64) (.pair (.pair (.int .i64) (.pair (.sl (.int .u8)) .unit)) .unit)))) fun d acts => ⟨[Q_s_DoActs d acts], [⟨(.pair (.int .i64) (.pair (.pair (.sl (.sl (.int .u8))) (.pair (.sl (.pair (.int .i64) (.pair (.sl (.int .u8)) .unit))) .unit)) .unit)), (.pr .sh (.pr (.pr (.ow (.ow .sh)) (.pr (.ow (.pr .sh (.pr (.ow .sh) .sh))) .sh)) .sh)), F_s_DoActs d acts⟩], []⟩, []⟩), (50, ⟨true, g2 (pV (.sl (.pair (.int .i64) (.pair (.pair (.int .i64) (.pair (.sl (.int .u8)) .unit)) .unit))) (.ow (.pr .sh (.pr (.pr .sh (.pr (.ow .sh) .sh)) .sh)))) (pD (.int .i64)) fun a k => ⟨[Q_w_markActS a k], [⟨(.int .i64), .sh, F_w_markActS a k⟩], [.mv (.sl (.pair (.int .i64) (.pair (.pair (.int .i64) (.pair (.sl (.int .u8)) .unit)) .unit))) (.ow (.pr .sh (.pr (.pr .sh (.pr (.ow .sh) .sh)) .sh))) (B_w_markActS_a a k)]⟩, [(.ow (.pr .sh (.pr (.pr .sh (.pr (.ow .sh) .sh)) .sh)))]⟩)]) O_w_FnExactDoActs Go.Proofs.Try.f7 [.dat (.pair (.sl (.sl (.int .u8))) (.pair (.sl (.pair (.int .i64) (.pair (.sl (.int .u8)) .unit))) .unit)) d, .dat (.sl (.pair (.int .i64) (.pair (.pair (.int .i64) (.pair (.sl (.int .u8)) .unit)) .unit))) l] ⟨[Q_w_FnExactDoActs d l], [⟨.bool, .sh, F_w_FnExactDoActs d l⟩], []⟩
  generalize hg_F_w_toDisk : F_w_toDisk = g_F_w_toDisk
  generalize hg_Q_w_toDisk : Q_w_toDisk = g_Q_w_toDisk
  generalize hg_F_w_eqDisk : F_w_eqDisk = g_F_w_eqDisk
  generalize hg_Q_w_eqDisk : Q_w_eqDisk = g_Q_w_eqDisk
  generalize hg_F_w_szDisk : F_w_szDisk = g_F_w_szDisk
  generalize hg_Q_w_szDisk : Q_w_szDisk = g_Q_w_szDisk
  generalize hg_F_w_markDisk : F_w_markDisk = g_F_w_markDisk
  generalize hg_B_w_markDisk_a : B_w_markDisk_a = g_B_w_markDisk_a
  generalize hg_Q_w_markDisk : Q_w_markDisk = g_Q_w_markDisk
  generalize hg_F_w_eqDiskResult : F_w_eqDiskResult = g_F_w_eqDiskResult
  generalize hg_Q_w_eqDiskResult : Q_w_eqDiskResult = g_Q_w_eqDiskResult
  generalize hg_F_w_markDiskResult : F_w_markDiskResult = g_F_w_markDiskResult
  generalize hg_B_w_markDiskResult_a : B_w_markDiskResult_a = g_B_w_markDiskResult_a
  generalize hg_Q_w_markDiskResult : Q_w_markDiskResult = g_Q_w_markDiskResult
  generalize hg_F_w_heldDiskResult : F_w_heldDiskResult = g_F_w_heldDiskResult
  generalize hg_Q_w_heldDiskResult : Q_w_heldDiskResult = g_Q_w_heldDiskResult
  generalize hg_F_w_szActS : F_w_szActS = g_F_w_szActS
  generalize hg_Q_w_szActS : Q_w_szActS = g_Q_w_szActS
  generalize hg_F_w_toActS : F_w_toActS = g_F_w_toActS
  generalize hg_Q_w_toActS : Q_w_toActS = g_Q_w_toActS
  generalize hg_F_w_eqActS : F_w_eqActS = g_F_w_eqActS
  generalize hg_Q_w_eqActS : Q_w_eqActS = g_Q_w_eqActS
  generalize hg_F_i_DoActs : F_i_DoActs = g_F_i_DoActs
  generalize hg_Q_i_DoActs : Q_i_DoActs = g_Q_i_DoActs
  generalize hg_F_s_DoActs : F_s_DoActs = g_F_s_DoActs
  generalize hg_Q_s_DoActs : Q_s_DoActs = g_Q_s_DoActs
  generalize hg_F_w_markActS : F_w_markActS = g_F_w_markActS
  generalize hg_B_w_markActS_a : B_w_markActS_a = g_B_w_markActS_a
  generalize hg_Q_w_markActS : Q_w_markActS = g_Q_w_markActS
  generalize hR0 : F_w_FnExactDoActs d l = R0
  generalize Q_w_FnExactDoActs d l = Q0
  generalize hL : Lg.std = L
  generalize hA : Alg.std = A
  cbv
  subst hL hA
  try dsimp only [Ty.den]
  obtain ⟨d_0, d_1, ⟨⟩⟩ := d
  have hct_d := cnt_tot (.pair (.sl (.sl (.int .u8))) (.pair (.sl (.pair (.int .i64) (.pair (.sl (.int .u8)) .unit))) .unit)) (d_0, d_1, PUnit.unit) (by decide)
  have hct_l := cnt_tot (.sl (.pair (.int .i64) (.pair (.pair (.int .i64) (.pair (.sl (.int .u8)) .unit)) .unit))) l (by decide)
  rcases Classical.em (tot tDisk (d_0, d_1, PUnit.unit) + tot (.sl (.pair (.int .i64) (.pair (.pair (.int .i64) (.pair (.sl (.int .u8)) .unit)) .unit))) l ≤ 1048576) with hB | hB
  · have htt := doActs_tot (d_0, d_1, PUnit.unit) l
    have hct := cnt_tot (.pair (.int .i64) (.pair (.pair (.sl (.sl (.int .u8))) (.pair (.sl (.pair (.int .i64) (.pair (.sl (.int .u8)) .unit))) .unit)) .unit)) (doActs (d_0, d_1, PUnit.unit) l) (by decide)
    have htr : tot (.pair (.int .i64) (.pair (.pair (.sl (.sl (.int .u8))) (.pair (.sl (.pair (.int .i64) (.pair (.sl (.int .u8)) .unit))) .unit)) .unit)) (doActs (d_0, d_1, PUnit.unit) l) = tot tDisk (doActs (d_0, d_1, PUnit.unit) l).2.1 := by simp only [tot_p, tot_u, tot_i, Nat.zero_add, Nat.add_zero]
    have hc0 : cnt false (.pair (.int .i64) (.pair (.pair (.sl (.sl (.int .u8))) (.pair (.sl (.pair (.int .i64) (.pair (.sl (.int .u8)) .unit))) .unit)) .unit)) (doActs (d_0, d_1, PUnit.unit) l) ≤ 4000000000 := by
      have := hct
      omega
    try simp only [tDisk, tPut, tot_int] at *
    subst hR0 hg_F_w_toDisk hg_Q_w_toDisk hg_F_w_eqDisk hg_Q_w_eqDisk hg_F_w_szDisk hg_Q_w_szDisk hg_F_w_markDisk hg_B_w_markDisk_a hg_Q_w_markDisk hg_F_w_eqDiskResult hg_Q_w_eqDiskResult hg_F_w_markDiskResult hg_B_w_markDiskResult_a hg_Q_w_markDiskResult hg_F_w_heldDiskResult hg_Q_w_heldDiskResult hg_F_w_szActS hg_Q_w_szActS hg_F_w_toActS hg_Q_w_toActS hg_F_w_eqActS hg_Q_w_eqActS hg_F_i_DoActs hg_Q_i_DoActs hg_F_s_DoActs hg_Q_s_DoActs hg_F_w_markActS hg_B_w_markActS_a hg_Q_w_markActS
    simp only [Lg.std, Alg.std, List.drop_zero, List.take_length, F_w_toDisk, F_w_eqDisk, F_w_szDisk, F_w_markDisk, F_w_eqDiskResult, F_w_markDiskResult, F_w_heldDiskResult, F_w_szActS, F_w_toActS, F_w_eqActS, F_i_DoActs, F_s_DoActs, F_w_markActS, B_w_markDisk_a, B_w_markDiskResult_a, B_w_markActS_a, Q_w_toDisk, Q_w_eqDisk, Q_w_szDisk, Q_w_markDisk, Q_w_eqDiskResult, Q_w_markDiskResult, Q_w_heldDiskResult, Q_w_szActS, Q_w_toActS, Q_w_eqActS, Q_i_DoActs, Q_s_DoActs, Q_w_markActS, F_w_FnExactDoActs]
    generalize hW : (doActs (d_0, d_1, PUnit.unit) l : (Int) × ((List (List (Int))) × (List ((Int) × (List (Int)) × Unit)) × Unit) × Unit) = w at *
    clear hW
    obtain ⟨w_0, ⟨w_1_0, w_1_1, ⟨⟩⟩, ⟨⟩⟩ := w
    try dsimp only at *
    have hm := hd_mk false (.pair (.int .i64) (.pair (.pair (.sl (.sl (.int .u8))) (.pair (.sl (.pair (.int .i64) (.pair (.sl (.int .u8)) .unit))) .unit)) .unit)) (w_0, (w_1_0, w_1_1, PUnit.unit), PUnit.unit) 1 (by omega)
    have mt_w_1_0 := fun k => mk_take false (.sl (.int .u8)) w_1_0 k
    dsimp only [Ty.den] at mt_w_1_0
    have mt_w_1_1 := fun k => mk_take false (.pair (.int .i64) (.pair (.sl (.int .u8)) .unit)) w_1_1 k
    dsimp only [Ty.den] at mt_w_1_1
    simp only [tot_p, tot_u, tot_i, tot_b, tot_s, cnt_p, cnt_u, cnt_i0, cnt_b0, cnt_s0, cnt_i1, cnt_b1, cnt_s1, cnt_l, mk_p, mk_u, mk_i0, mk_b0, mk_s0, mk_i1, mk_s1, mk_l, hd_p, hd_u, hd_i0, hd_b0, hd_s0, hd_i1, hd_b1, hd_s1, hd_l, mt_w_1_0, mt_w_1_1] at *
    try simp only [tDisk, tPut, tot_int] at *
    repeat' (first | intro _ | apply And.intro)
    all_goals grind [szf, cnt_mk, hd_mk]
  · subst hR0 hg_F_w_toDisk hg_Q_w_toDisk hg_F_w_eqDisk hg_Q_w_eqDisk hg_F_w_szDisk hg_Q_w_szDisk hg_F_w_markDisk hg_B_w_markDisk_a hg_Q_w_markDisk hg_F_w_eqDiskResult hg_Q_w_eqDiskResult hg_F_w_markDiskResult hg_B_w_markDiskResult_a hg_Q_w_markDiskResult hg_F_w_heldDiskResult hg_Q_w_heldDiskResult hg_F_w_szActS hg_Q_w_szActS hg_F_w_toActS hg_Q_w_toActS hg_F_w_eqActS hg_Q_w_eqActS hg_F_i_DoActs hg_Q_i_DoActs hg_F_s_DoActs hg_Q_s_DoActs hg_F_w_markActS hg_B_w_markActS_a hg_Q_w_markActS
    simp only [Lg.std, Alg.std, List.drop_zero, List.take_length, F_w_toDisk, F_w_eqDisk, F_w_szDisk, F_w_markDisk, F_w_eqDiskResult, F_w_markDiskResult, F_w_heldDiskResult, F_w_szActS, F_w_toActS, F_w_eqActS, F_i_DoActs, F_s_DoActs, F_w_markActS, B_w_markDisk_a, B_w_markDiskResult_a, B_w_markActS_a, Q_w_toDisk, Q_w_eqDisk, Q_w_szDisk, Q_w_markDisk, Q_w_eqDiskResult, Q_w_markDiskResult, Q_w_heldDiskResult, Q_w_szActS, Q_w_toActS, Q_w_eqActS, Q_i_DoActs, Q_s_DoActs, Q_w_markActS, F_w_FnExactDoActs]
    generalize hW : (doActs (d_0, d_1, PUnit.unit) l : (Int) × ((List (List (Int))) × (List ((Int) × (List (Int)) × Unit)) × Unit) × Unit) = w at *
    clear hW
    try simp only [tDisk, tPut, tot_int] at *
    simp only [tot_p, tot_u, tot_i, tot_b, tot_s, szf] at *
    repeat' (first | intro _ | apply And.intro)
    all_goals grind
def con_w_FnExactDoActs : Con := ⟨true, g2 (pD (.pair (.sl (.sl (.int .u8))) (.pair (.sl (.pair (.int .i64) (.pair (.sl (.int .u8)) .unit))) .unit))) (pD (.sl (.pair (.int .i64) (.pair (.pair (.int .i64) (.pair (.sl (.int .u8)) .unit)) .unit)))) fun d l => ⟨[Q_w_FnExactDoActs d l], [⟨.bool, .sh, F_w_FnExactDoActs d l⟩], []⟩, []⟩
theorem ok_w_FnExactDoActs : ConOk pg 7 con_w_FnExactDoActs := ConOk.g2 (Enters.of (by kernel_rfl)) ct_w_FnExactDoActs
end Go.Vee
