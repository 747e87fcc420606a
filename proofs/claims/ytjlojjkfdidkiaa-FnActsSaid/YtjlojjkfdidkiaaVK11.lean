/-
  Contracts of functions of the program: what each returns for all arguments that its precondition lets in.
-/
import Derived.Test.YtjlojjkfdidkiaaVK10
set_option linter.unusedSimpArgs false
set_option linter.unusedVariables false
set_option maxRecDepth 100000
set_option maxHeartbeats 4000000
set_option synthInstance.maxHeartbeats 4000000
set_option synthInstance.maxSize 20000000
namespace Go.Vee
open Go
def Each96 (l : List (List Int)) : Prop := ∀ i, i < l.length → (l.getD i []).length = 96
theorem Each96.at {l : List (List Int)} (h : Each96 l) (i : Nat) (hi : i < l.length) : (l.getD i []).length = 96 := h i hi
theorem Each96.set {l : List (List Int)} (h : Each96 l) (k : Nat) (v : List Int) (hv : k < l.length → v.length = 96) : Each96 (l.set k v) := fun i hi => by
  rw [List.length_set] at hi
  rw [getD_set_list _ _ _ _ _ hi]
  split
  · rename_i e; subst e; exact hv hi
  · exact h i hi
theorem setl_zero (xs : List (List Int)) (p : Nat) (b : List Int) (hp : p < xs.length) : xs.set p (b.take 0 ++ (xs.getD p []).drop 0) = xs := by
  have : xs.getD p [] = xs[p] := by simp [List.getD_eq_getElem?_getD, hp]
  rw [this, List.take_zero, List.drop_zero, List.nil_append, List.set_getElem_self]
theorem setl_step (xs : List (List Int)) (p : Nat) (b : List Int) (j : Nat) (hp : p < xs.length) (hb : j < b.length) (ho : j < (xs.getD p []).length) :
    (xs.set p (b.take j ++ (xs.getD p []).drop j)).set p (((xs.set p (b.take j ++ (xs.getD p []).drop j)).getD p []).set j (b.getD j 0)) = xs.set p (b.take (j + 1) ++ (xs.getD p []).drop (j + 1)) := by
  rw [getD_set_list _ _ _ _ _ hp, if_pos rfl, List.set_set]
  congr 1
  rw [take_add b 0 j hb, List.set_append]
  have hl : (b.take j).length = j := by rw [List.length_take]; omega
  rw [hl, if_neg (Nat.lt_irrefl _), Nat.sub_self, drop_cons (xs.getD p []) 0 j ho]
  simp


def F_i_whole (i : Int) : Int := 96
def Q_i_whole (i : Int) : Prop := True
def O_i_whole : Opt := ⟨fun i => false, fun i => [], fun i => .done, fun i => none, fun i => false, fun i => [], fun i => false, fun i => none, fun i => none⟩
def τ_i_whole : Env := Env.of [(2, (.int .i64)), (3, (.int .i64))] [] []

theorem ct_i_whole (i : Int) : Ct pg 93 [.dat (.int .i64) i] ⟨[Q_i_whole i], [⟨(.int .i64), .sh, F_i_whole i⟩], []⟩ := by
  refine ct_claim (O := O_i_whole) (τ := τ_i_whole) (EnvOk.of (by kernel_rfl) (by kernel_rfl)) (GOk.of (.nil : AllOk pg [])) mixed (Enters.of (by kernel_rfl)) (fn := Go.Proofs.Try.f93) (by kernel_rfl) rfl (by kernel_rfl) ?_
  intro hp hw
  have hq : Q_i_whole i := hp _ (List.mem_singleton.2 rfl)
  clear hp
  change claim Lg.std Alg.std τ_i_whole (Gam.of []) O_i_whole Go.Proofs.Try.f93 [.dat (.int .i64) i] ⟨[Q_i_whole i], [⟨(.int .i64), .sh, F_i_whole i⟩], []⟩
  generalize hR0 : F_i_whole i = R0
  generalize Q_i_whole i = Q0
  generalize hL : Lg.std = L
  generalize hA : Alg.std = A
  cbv
  subst hL hA
  try dsimp only [Ty.den]
  subst hR0
  simp only [Q_i_whole] at hq
  simp only [Lg.std, Alg.std, List.drop_zero, List.take_length, F_i_whole]
  all_goals grind
def con_i_whole : Con := ⟨true, g1 (pD (.int .i64)) fun i => .one ⟨[Q_i_whole i], [⟨(.int .i64), .sh, F_i_whole i⟩], []⟩, [], false, 0⟩
theorem ok_i_whole : ConOk pg 93 con_i_whole := ConOk.g1 (Enters.of (by kernel_rfl)) ct_i_whole

def B_s_l14Crash_d (d : (List (List (Int))) × (List ((Int) × (List (Int)) × Unit)) × Unit) (fates : List (Int)) : (List (List (Int))) × (List ((Int) × (List (Int)) × Unit)) × Unit := crashD d fates
def Q_s_l14Crash (d : (List (List (Int))) × (List ((Int) × (List (Int)) × Unit)) × Unit) (fates : List (Int)) : Prop := GoodW d 256 ∧ fates.length = d.2.1.length ∧ ∀ i, i < d.2.1.length → 0 ≤ fates.getD i 0 ∧ fates.getD i 0 ≤ 96
def O_s_l14Crash : Opt := ⟨fun i => false, fun i => (match decide (i = 5) with | true => [true, true, false, false, true, true, true, false, false, false, false, false, false, false, false, false, false, false, false, false, false, false, false, false, false, false, false, false, false, false, false, false, false, false, false, false, false, false, false, false, false, false, false, false, false, false, false, false, false] | false => (match decide (i = 1) with | true => [true, true, false, false, true, false, false, false, false, false, false, false, false, false, false, false, false, false, false, false, false, false, false, false, false, false, false, false, false, false, false, false, false, false, false, false, false, false, false, false, false, false, false, false, false, false, false, false, false] | false => [])), fun i => (match decide (i = 7) with | true => (.take 0 (.take 1 (.take 2 (.take 3 (.take 4 (.take 5 (.take 6 (.take 7 (.take 8 (.take 9 (.take 10 (.take 11 (.take 12 (.take 13 (.take 14 (.alt 15 .done .no)))))))))))))))) | false => .done), fun i => none, fun i => (match decide (i = 5) with | true => true | false => (match decide (i = 1) with | true => true | false => false)), fun i => [], fun i => false, fun i => none, fun i => none⟩
def τ_s_l14Crash : Env := Env.of [(2, (.int .i64)), (3, (.int .i64)), (4, .bool), (5, (.int .u8)), (22, (.sl (.sl (.int .u8)))), (28, (.sl (.pair (.int .i64) (.pair (.sl (.int .u8)) .unit)))), (30, (.pair (.sl (.sl (.int .u8))) (.pair (.sl (.pair (.int .i64) (.pair (.sl (.int .u8)) .unit))) .unit))), (34, (.sl (.int .u8))), (75, (.sl (.int .i64))), (120, (.pair (.int .i64) (.pair (.sl (.int .u8)) .unit)))] [(80, (.pair (.sl (.sl (.int .u8))) (.pair (.sl (.pair (.int .i64) (.pair (.sl (.int .u8)) .unit))) .unit)))] []

theorem ct_s_l14Crash (d : (List (List (Int))) × (List ((Int) × (List (Int)) × Unit)) × Unit) (fates : List (Int)) : Ct pg 133 [.mp (.pair (.sl (.sl (.int .u8))) (.pair (.sl (.pair (.int .i64) (.pair (.sl (.int .u8)) .unit))) .unit)) (.pr (.ow (.ow .sh)) (.pr (.ow (.pr .sh (.pr (.ow .sh) .sh))) .sh)) d, .dat (.sl (.int .i64)) fates] ⟨[Q_s_l14Crash d fates], [], [.mp (.pair (.sl (.sl (.int .u8))) (.pair (.sl (.pair (.int .i64) (.pair (.sl (.int .u8)) .unit))) .unit)) (.pr (.ow (.ow .sh)) (.pr (.ow (.pr .sh (.pr (.ow .sh) .sh))) .sh)) (B_s_l14Crash_d d fates)]⟩ := by
  refine ct_claim (O := O_s_l14Crash) (τ := τ_s_l14Crash) (EnvOk.of (by kernel_rfl) (by kernel_rfl)) (GOk.of (.nil : AllOk pg [])) mixed (Enters.of (by kernel_rfl)) (fn := Go.Proofs.Try.f133) (by kernel_rfl) rfl (by kernel_rfl) ?_
  intro hp hw
  have hq : Q_s_l14Crash d fates := hp _ (List.mem_singleton.2 rfl)
  clear hp
  change claim Lg.std Alg.std τ_s_l14Crash (Gam.of []) O_s_l14Crash Go.Proofs.Try.f133 [.mp (.pair (.sl (.sl (.int .u8))) (.pair (.sl (.pair (.int .i64) (.pair (.sl (.int .u8)) .unit))) .unit)) (.pr (.ow (.ow .sh)) (.pr (.ow (.pr .sh (.pr (.ow .sh) .sh))) .sh)) d, .dat (.sl (.int .i64)) fates] ⟨[Q_s_l14Crash d fates], [], [.mp (.pair (.sl (.sl (.int .u8))) (.pair (.sl (.pair (.int .i64) (.pair (.sl (.int .u8)) .unit))) .unit)) (.pr (.ow (.ow .sh)) (.pr (.ow (.pr .sh (.pr (.ow .sh) .sh))) .sh)) (B_s_l14Crash_d d fates)]⟩
  generalize hB_d : B_s_l14Crash_d d fates = B_d
  generalize Q_s_l14Crash d fates = Q0
  generalize hL : Lg.std = L
  generalize hA : Alg.std = A
  cbv
  subst hL hA
  try dsimp only [Ty.den]
  obtain ⟨d_0, d_1, ⟨⟩⟩ := d
  simp only [Q_s_l14Crash] at hq
  obtain ⟨⟨⟨hg1, hg2⟩, hg3, hg4, hg5⟩, hfl, hfa⟩ := hq
  dsimp only at hg1 hg2 hg3 hg4 hg5 hfl hfa
  have he0 : Each96 d_0 := hg3
  have hl1 := hw.1.1.1
  repeat' (first | intro _ | apply And.intro)
  all_goals first | trivial | ((fail_if_success (refine lp_v (V := Unit) (fun _ => ⟨[], []⟩) (fun _ => True) (fun _ => 0) () ?_ ?_ ?_)); subst hB_d; (try simp only [Alg.std, B_s_l14Crash_d] at *); all_goals grind [crashD]) | skip
  refine lp_v (V := (Int) × (Nat) × (Nat) × (List (List Int))) (fun ((i, K, N, xs) : (Int) × (Nat) × (Nat) × (List (List Int))) => ⟨[.bptr 0 0, .dat (.sl (.int .i64)) fates, Jk, Jk, .dat (.int .i64) i, Jk, Jk, Jk, Jk, Jk, Jk, Jk, Jk, Jk, Jk, Jk, Jk, Jk, Jk, Jk, Jk, Jk, Jk, Jk, Jk, Jk, Jk, Jk, Jk, Jk, Jk, Jk, Jk, Jk, Jk, Jk, Jk, Jk, Jk, Jk, Jk, Jk, Jk, Jk, Jk, Jk, Jk, Jk, Jk], [some (.box [.ref (.sl (.int .u8)) 1 0 [] 0 N, .ref (.pair (.int .i64) (.pair (.sl (.int .u8)) .unit)) 2 0 [] 0 K]), some (.row 0 (.sl (.int .u8)) (.ow .sh) xs), some (.row 0 (.pair (.int .i64) (.pair (.sl (.int .u8)) .unit)) (.pr .sh (.pr (.ow .sh) .sh)) d_1), some (.gh [.bptr 0 0])]⟩) (fun ((i, K, N, xs) : (Int) × (Nat) × (Nat) × (List (List Int))) => K = d_1.length ∧ N = xs.length ∧ 0 ≤ i ∧ i ≤ d_1.length ∧ xs.length = d_0.length ∧ Each96 xs ∧ flushL xs (d_1.drop i.toNat) (fates.drop i.toNat) = flushL d_0 d_1 fates) (fun ((i, K, N, xs) : (Int) × (Nat) × (Nat) × (List (List Int))) => d_1.length - i.toNat) (0, _, _, _) rfl ?_ ?_
  · subst hB_d
    (try simp only [Alg.std, B_s_l14Crash_d] at *)
    all_goals grind
  rintro ⟨i, K, N, xs⟩ hf I hI
  replace hf : K = d_1.length ∧ N = xs.length ∧ 0 ≤ i ∧ i ≤ d_1.length ∧ xs.length = d_0.length ∧ Each96 xs ∧ flushL xs (d_1.drop i.toNat) (fates.drop i.toNat) = flushL d_0 d_1 fates := hf
  generalize hL : Lg.std = L
  generalize hA : Alg.std = A
  cbv
  subst hL hA
  try dsimp only [Ty.den]
  subst hI
  obtain ⟨h1, h2, h3, h4, h5, h6, h7⟩ := hf
  have h5' : i ≤ (d_1.length : Int) := h4
  have hxd : xs.length = d_0.length := h5
  have hKd : K = d_1.length := h1
  have hE : Each96 xs := h6
  have hpa := fun (h : i.toNat < d_1.length) => hg5 i.toNat h
  have hfs := fun (h : i.toNat < d_1.length) => hfa i.toNat h
  have hst := fun (h : i.toNat < d_1.length) => flushL_step xs d_1 fates i.toNat h
  have hen := fun (h : d_1.length ≤ i.toNat) => flushL_end xs d_1 fates i.toNat h
  have hsu : (i + 1).toNat = i.toNat + 1 := by omega
  have heat := fun (k : Nat) (h : k < xs.length) => h6.at k h
  try dsimp only [putD] at hpa hst
  repeat' (first | intro _ | apply And.intro)
  all_goals first | (with_reducible exact True.intro) | ((fail_if_success (refine lp_v (V := Unit) (fun _ => ⟨[], []⟩) (fun _ => True) (fun _ => 0) () ?_ ?_ ?_)); (try simp only [Lg.std, Alg.std, List.drop_zero, List.take_length] at *); (try refine ⟨(_, _, _, _), rfl, ?_, ?_⟩); (all_goals (subst hB_d; (try simp only [Lg.std, Alg.std, List.drop_zero, List.take_length, B_s_l14Crash_d] at *); first | done | ((try generalize d_1.getD i.toNat (0, [], ()) = xa at *); (try obtain ⟨xa0, xa1, ⟨⟩⟩ := xa); (try dsimp only at *); grind [crashD])))) | skip
  rename_i hii
  have hid : i.toNat < d_1.length := by
    simp only [Alg.std, decide_eq_true_eq] at hii
    omega
  have hp1 : 0 ≤ (d_1.getD i.toNat (0, [], PUnit.unit)).1 ∧ (d_1.getD i.toNat (0, [], PUnit.unit)).1 ≤ (d_0.length : Int) - 1 ∧ (d_1.getD i.toNat (0, [], PUnit.unit)).2.1.length = 96 := hpa hid
  have hf1 := hfs hid
  have hst1 := hst hid
  have hxp : (d_1.getD i.toNat (0, [], PUnit.unit)).1.toNat < xs.length := by omega
  have hz := setl_zero xs (d_1.getD i.toNat (0, [], PUnit.unit)).1.toNat (d_1.getD i.toNat (0, [], PUnit.unit)).2.1 hxp
  have hold := heat _ hxp
  refine lp_v (V := (Int) × (Nat) × (Nat) × (List (List Int)) × (Int) × (Nat) × (Nat)) (fun ((j, K, N, ys, x0, L, ii) : (Int) × (Nat) × (Nat) × (List (List Int)) × (Int) × (Nat) × (Nat)) => ⟨[.bptr 0 0, .dat (.sl (.int .i64)) fates, Jk, Jk, .dat (.int .i64) i, .bptr 3 0, .dat (.int .i64) j, Jk, Jk, Jk, Jk, Jk, Jk, Jk, Jk, Jk, Jk, Jk, Jk, Jk, Jk, Jk, Jk, Jk, Jk, Jk, Jk, Jk, Jk, Jk, Jk, Jk, Jk, Jk, Jk, Jk, Jk, Jk, Jk, Jk, Jk, Jk, Jk, Jk, Jk, Jk, Jk, Jk, Jk], [some (.box [.ref (.sl (.int .u8)) 1 0 [] 0 N, .ref (.pair (.int .i64) (.pair (.sl (.int .u8)) .unit)) 2 0 [] 0 K]), some (.row 0 (.sl (.int .u8)) (.ow .sh) ys), some (.row 0 (.pair (.int .i64) (.pair (.sl (.int .u8)) .unit)) (.pr .sh (.pr (.ow .sh) .sh)) d_1), some (.box [.dat (.int .i64) x0, .ref (.int .u8) 2 0 [.idx ii, .snd, .fst] 0 L]), some (.gh [.bptr 0 0])]⟩) (fun ((j, K, N, ys, x0, L, ii) : (Int) × (Nat) × (Nat) × (List (List Int)) × (Int) × (Nat) × (Nat)) => K = d_1.length ∧ N = ys.length ∧ ii = i.toNat ∧ x0 = (d_1.getD i.toNat (0, [], PUnit.unit)).1 ∧ L = (d_1.getD i.toNat (0, [], PUnit.unit)).2.1.length ∧ 0 ≤ j ∧ j ≤ fates.getD i.toNat 0 ∧ ys = xs.set (d_1.getD i.toNat (0, [], PUnit.unit)).1.toNat ((d_1.getD i.toNat (0, [], PUnit.unit)).2.1.take j.toNat ++ (xs.getD (d_1.getD i.toNat (0, [], PUnit.unit)).1.toNat []).drop j.toNat)) (fun ((j, K, N, ys, x0, L, ii) : (Int) × (Nat) × (Nat) × (List (List Int)) × (Int) × (Nat) × (Nat)) => (fates.getD i.toNat 0).toNat - j.toNat) (0, _, _, xs, _, _, _) rfl ?_ ?_
  · (try simp only [Alg.std, Int.toNat_zero] at *)
    all_goals grind
  rintro ⟨j, K, N, ys, x0, L, ii⟩ hf I hI
  replace hf : K = d_1.length ∧ N = ys.length ∧ ii = i.toNat ∧ x0 = (d_1.getD i.toNat (0, [], PUnit.unit)).1 ∧ L = (d_1.getD i.toNat (0, [], PUnit.unit)).2.1.length ∧ 0 ≤ j ∧ j ≤ fates.getD i.toNat 0 ∧ ys = xs.set (d_1.getD i.toNat (0, [], PUnit.unit)).1.toNat ((d_1.getD i.toNat (0, [], PUnit.unit)).2.1.take j.toNat ++ (xs.getD (d_1.getD i.toNat (0, [], PUnit.unit)).1.toNat []).drop j.toNat) := hf
  generalize hL : Lg.std = L
  generalize hA : Alg.std = A
  cbv
  subst hL hA
  try dsimp only [Ty.den]
  subst hI
  obtain ⟨h1, h2, h3, h4, h5, h6, h7, h8⟩ := hf
  have hss := fun (h : j.toNat < (d_1.getD i.toNat (0, [], PUnit.unit)).2.1.length) (h2 : j.toNat < (xs.getD (d_1.getD i.toNat (0, [], PUnit.unit)).1.toNat []).length) => setl_step xs (d_1.getD i.toNat (0, [], PUnit.unit)).1.toNat (d_1.getD i.toNat (0, [], PUnit.unit)).2.1 j.toNat hxp h h2
  rw [← h8] at hss
  have hyl : ys.length = xs.length := by rw [h8, List.length_set]
  have hyg : ys.getD (d_1.getD i.toNat (0, [], PUnit.unit)).1.toNat [] = (d_1.getD i.toNat (0, [], PUnit.unit)).2.1.take j.toNat ++ (xs.getD (d_1.getD i.toNat (0, [], PUnit.unit)).1.toNat []).drop j.toNat := by rw [h8, getD_set_list _ _ _ _ _ hxp, if_pos rfl]
  have hygl : (ys.getD (d_1.getD i.toNat (0, [], PUnit.unit)).1.toNat []).length = 96 := by rw [hyg, List.length_append, List.length_take, List.length_drop]; omega
  have hye : Each96 ys := by rw [h8]; exact hE.set _ _ (fun _ => by rw [List.length_append, List.length_take, List.length_drop]; omega)
  have hsj : (j + 1).toNat = j.toNat + 1 := by omega
  repeat' (first | intro _ | apply And.intro)
  all_goals first | (with_reducible exact True.intro) | ((fail_if_success (refine lp_v (V := Unit) (fun _ => ⟨[], []⟩) (fun _ => True) (fun _ => 0) () ?_ ?_ ?_)); (try simp only [Lg.std, Alg.std, List.drop_zero, List.take_length] at *); (first | refine ⟨(_, _, _, _, _, _, _), rfl, ?_, ?_⟩ | refine ⟨(_, _, _, _), rfl, ?_, ?_⟩ | skip); (all_goals (subst hB_d; (try simp only [Lg.std, Alg.std, List.drop_zero, List.take_length, B_s_l14Crash_d] at *); first | done | ((try subst h3 h4 h5); (try generalize d_1.getD i.toNat (0, [], ()) = xa at *); (try obtain ⟨xa0, xa1, ⟨⟩⟩ := xa); (try dsimp only at *); grind)))) | skip
def con_s_l14Crash : Con := ⟨true, g2 (pW (.pair (.sl (.sl (.int .u8))) (.pair (.sl (.pair (.int .i64) (.pair (.sl (.int .u8)) .unit))) .unit)) (.pr (.ow (.ow .sh)) (.pr (.ow (.pr .sh (.pr (.ow .sh) .sh))) .sh))) (pD (.sl (.int .i64))) fun d fates => .one ⟨[Q_s_l14Crash d fates], [], [.mp (.pair (.sl (.sl (.int .u8))) (.pair (.sl (.pair (.int .i64) (.pair (.sl (.int .u8)) .unit))) .unit)) (.pr (.ow (.ow .sh)) (.pr (.ow (.pr .sh (.pr (.ow .sh) .sh))) .sh)) (B_s_l14Crash_d d fates)]⟩, [(.pr (.ow (.ow .sh)) (.pr (.ow (.pr .sh (.pr (.ow .sh) .sh))) .sh))], false, 0⟩
theorem ok_s_l14Crash : ConOk pg 133 con_s_l14Crash := ConOk.g2 (Enters.of (by kernel_rfl)) ct_s_l14Crash
end Go.Vee
