/-
  Contracts of functions of the program: what each returns for all arguments that its precondition lets in.
-/
import Derived.Test.YtkbnbjdkdlooiaaGreatDoorVK15
set_option linter.unusedSimpArgs false
set_option linter.unusedVariables false
set_option maxRecDepth 100000
set_option maxHeartbeats 4000000
set_option synthInstance.maxHeartbeats 4000000
set_option synthInstance.maxSize 20000000
namespace Go.Vee
open Go
theorem dig_len (n k : Int) (m : Nat) (h : n * 10 ^ m ≤ k) (hk : k ≤ 4611686018427387904) (hn : 0 < n) : m ≤ 18 := by
  have h1 : (10 : Int) ^ m ≤ n * 10 ^ m := by
    have : 0 < (10 : Int) ^ m := Int.pow_pos (by omega)
    have h2 : 1 * (10 : Int) ^ m ≤ n * 10 ^ m := Int.mul_le_mul_of_nonneg_right (by omega) (by omega)
    omega
  by_cases hm : m ≤ 18
  · exact hm
  · have h3 : (10 : Int) ^ 19 ≤ 10 ^ m := by
      have := Nat.pow_le_pow_right (n := 10) (by omega) (show 19 ≤ m by omega)
      exact_mod_cast this
    have h4 : (10 : Int) ^ 19 = 10000000000000000000 := by decide
    omega
theorem dig_step (n k : Int) (m : Nat) (h : n * 10 ^ m ≤ k) : (n / 10) * 10 ^ (m + 1) ≤ k := by
  have : (n / 10) * 10 ^ (m + 1) = (n / 10 * 10) * 10 ^ m := by rw [Int.pow_succ, Int.mul_comm ((10 : Int) ^ m) 10, Int.mul_assoc]
  rw [this]
  have h2 : 0 < (10 : Int) ^ m := Int.pow_pos (by omega)
  have h1 : (n / 10 * 10) * 10 ^ m ≤ n * 10 ^ m := Int.mul_le_mul_of_nonneg_right (by omega) (by omega)
  omega
theorem dig_wrap (n : Int) : IntKind.u8.wrap (n % 10 + 48) = 48 + n % 10 := by rw [wrap8]; omega
def packSyms : List SymT → List Int
  | [] => []
  | x :: l => ((x.1.length : Int) % 256 :: x.1) ++ (x.2.1 % 256 :: packSyms l)
def packSig (s : SigT) : List Int := (s.1.length : Int) % 256 :: packSyms s.1
theorem ps_step (l : List SymT) (i : Nat) (h : i < l.length) : packSyms (l.drop i) = ((l.getD i symD).1.length : Int) % 256 :: ((l.getD i symD).1 ++ ((l.getD i symD).2.1 % 256 :: packSyms (l.drop (i + 1)))) := by
  rw [drop_cons l symD i h]; rfl
theorem ps_end (l : List SymT) (i : Nat) (h : l.length ≤ i) : packSyms (l.drop i) = [] := by rw [drop_nil l i h]; rfl
theorem symBad_ok : ∀ (l : List SymT), symBad l = 0 → ∀ x ∈ l, nameOk x.1 = true ∧ 0 ≤ x.2.1 ∧ x.2.1 ≤ 2
  | [], _, x, hx => by cases hx
  | y :: l, h, x, hx => by
    unfold symBad at h
    split at h
    · cases h
    rename_i h1
    split at h
    · cases h
    rename_i h2
    rcases List.mem_cons.1 hx with rfl | hx
    · exact ⟨by simpa using h1, by omega, by omega⟩
    · exact symBad_ok l h x hx
theorem nameOk_len (s : List Int) (h : nameOk s = true) : 1 ≤ s.length ∧ s.length ≤ 3 := by
  unfold nameOk at h
  simp only [Bool.and_eq_true, decide_eq_true_eq] at h
  exact h.1
theorem sig_good (s : SigT) (h : sigFault s = 0) : (1 ≤ s.1.length ∧ s.1.length ≤ 6) ∧ ∀ x ∈ s.1, nameOk x.1 = true ∧ 0 ≤ x.2.1 ∧ x.2.1 ≤ 2 := by
  unfold sigFault at h
  split at h
  · cases h
  rename_i h1
  split at h
  · rename_i h2; exact absurd h h2
  rename_i h2
  exact ⟨Decidable.not_not.1 h1, symBad_ok s.1 (Decidable.not_not.1 h2)⟩
theorem sig_at (s : SigT) (h : sigFault s = 0) (i : Nat) (hi : i < s.1.length) : (s.1.getD i symD).1.length ≤ 3 :=
  (nameOk_len _ ((sig_good s h).2 _ (getD_mem s.1 symD i hi)).1).2
def rd3 (r : RdT) : SymT := (rdTake (rdNext r 1) (rdOne r), rdOne (rdNext (rdNext r 1) (rdOne r)), ())
def rd3n (r : RdT) : RdT := rdNext (rdNext (rdNext r 1) (rdOne r)) 1
def sigLoop : Nat → RdT → List SymT → List SymT × RdT
  | 0, r, out => (out, r)
  | n + 1, r, out => if r.2.1 = true then (out, r) else sigLoop n (rd3n r) (out ++ [rd3 r])
def sigRd (r : RdT) : List SymT × RdT := sigLoop (rdOne r).toNat (rdNext r 1) []
theorem sl_step (n : Nat) (r : RdT) (out : List SymT) (h : 0 < n) : sigLoop n r out = if r.2.1 = true then (out, r) else sigLoop (n - 1) (rd3n r) (out ++ [rd3 r]) := by
  cases n with
  | zero => omega
  | succ n => rfl
theorem sl_zero (r : RdT) (out : List SymT) : sigLoop 0 r out = (out, r) := rfl
def spLoop (data : List Int) : Nat → Int → List SymT → Option (List SymT × Int)
  | 0, at_, out => some (out, at_)
  | n + 1, at_, out => if at_ ≥ data.length then none else if at_ + data.getD at_.toNat 0 + 2 > data.length then none else
    spLoop data n (at_ + data.getD at_.toNat 0 + 2) (out ++ [((data.drop (at_.toNat + 1)).take (data.getD at_.toNat 0).toNat, data.getD (at_.toNat + 1 + (data.getD at_.toNat 0).toNat) 0, ())])
theorem spl_step (data : List Int) (n : Nat) (a : Int) (out : List SymT) (h : 0 < n) : spLoop data n a out = if a ≥ data.length then none else if a + data.getD a.toNat 0 + 2 > data.length then none else
    spLoop data (n - 1) (a + data.getD a.toNat 0 + 2) (out ++ [((data.drop (a.toNat + 1)).take (data.getD a.toNat 0).toNat, data.getD (a.toNat + 1 + (data.getD a.toNat 0).toNat) 0, ())]) := by
  cases n with
  | zero => omega
  | succ n => rfl
theorem spl_zero (data : List Int) (a : Int) (out : List SymT) : spLoop data 0 a out = some (out, a) := rfl
def symsN (data : List Int) : Nat := (min (data.getD 0 0) 7).toNat
def l2Read (data : List Int) : SigT × Int :=
  if data.length < 1 then (zSig, 0) else
  match spLoop data (symsN data) 1 [] with
  | none => (zSig, 0)
  | some (out, a) => if sigFault (out, ()) ≠ 0 then (zSig, 0) else ((out, ()), a)
theorem l2Read_none (data : List Int) (h : ¬ data.length < 1) (h1 : spLoop data (symsN data) 1 [] = none) : l2Read data = (([], ()), 0) := by
  unfold l2Read; rw [if_neg h, h1]
theorem l2Read_some (data : List Int) (L : List SymT) (a : Int) (h : ¬ data.length < 1) (h1 : spLoop data (symsN data) 1 [] = some (L, a)) : l2Read data = if sigFault (L, ()) = 0 then ((L, ()), a) else (([], ()), 0) := by
  unfold l2Read; rw [if_neg h, h1]; dsimp only; split <;> simp_all
theorem rdNext_bytes (x : List Int) (f : Bool) (n : Int) (x1 : List Int) (f1 : Bool) (g : rdNext (x, f, ()) n = (x1, f1, ())) (h : ∀ y ∈ x, 0 ≤ y ∧ y ≤ 255) : ∀ y ∈ x1, 0 ≤ y ∧ y ≤ 255 := by
  rcases rdNext_cases _ _ _ _ _ g with ⟨_, rfl, _⟩ | ⟨_, _, rfl, _⟩
  · exact h
  · exact byte_drop x _ h
theorem sg_round (n : Nat) (x : List Int) (f : Bool) (out : List SymT) (x1 : List Int) (f1 : Bool) (x2 : List Int) (f2 : Bool) (x3 : List Int) (f3 : Bool) (hb : ∀ y ∈ x, 0 ≤ y ∧ y ≤ 255)
    (g1 : rdNext (x, f, ()) 1 = (x1, f1, ())) (g2 : rdNext (x1, f1, ()) (rdOne (x, f, ())) = (x2, f2, ())) (g3 : rdNext (x2, f2, ()) 1 = (x3, f3, ())) :
    (∀ y ∈ x1, 0 ≤ y ∧ y ≤ 255) ∧ (∀ y ∈ x2, 0 ≤ y ∧ y ≤ 255) ∧ (∀ y ∈ x3, 0 ≤ y ∧ y ≤ 255) ∧ (0 ≤ rdOne (x, f, ()) ∧ rdOne (x, f, ()) ≤ 255) ∧ (0 < n → sigLoop n (x, f, ()) out = if f = true then (out, (x, f, ())) else sigLoop (n - 1) (x3, f3, ()) (out ++ [(rdTake (x1, f1, ()) (rdOne (x, f, ())), rdOne (x2, f2, ()), ())])) := by
  have b1 := rdNext_bytes _ _ _ _ _ g1 hb
  have b2 := rdNext_bytes _ _ _ _ _ g2 b1
  refine ⟨b1, b2, rdNext_bytes _ _ _ _ _ g3 b2, rdOne_byte x f hb, fun h => ?_⟩
  rw [sl_step n _ out h]
  simp only [rd3, rd3n, g1, g2, g3]
def small (l : List SymT) : Prop := ∀ x ∈ l, x.1.length ≤ 255 ∧ 0 ≤ x.2.1 ∧ x.2.1 ≤ 255
theorem sig_small (s : SigT) (h : sigFault s = 0) : small s.1 := fun x hx => by
  have := (sig_good s h).2 x hx
  have := nameOk_len _ this.1
  omega
theorem getD_dropN (data : List Int) (a j : Nat) : data.getD (a + j) 0 = (data.drop a).getD j 0 := by
  simp [List.getD_eq_getElem?_getD, List.getElem?_drop]
theorem getD_appR (x y : List Int) (z : Int) : (x ++ z :: y).getD x.length 0 = z := by
  simp [List.getD_eq_getElem?_getD]
theorem spl_fwd (data : List Int) : ∀ (l : List SymT) (a : Nat) (rest : List Int) (out : List SymT), data.drop a = packSyms l ++ rest → small l → spLoop data l.length (a : Int) out = some (out ++ l, ((a + (packSyms l).length : Nat) : Int))
  | [], a, rest, out, _, _ => by simp [spLoop, packSyms]
  | x :: l, a, rest, out, hd, hs => by
    have hx := hs x (by simp)
    have hl : (packSyms (x :: l)).length = x.1.length + 2 + (packSyms l).length := by simp [packSyms]; omega
    have hdl : data.length - a = x.1.length + 2 + (packSyms l).length + rest.length := by
      have := congrArg List.length hd
      rw [List.length_drop, List.length_append, hl] at this
      exact this
    have hd' : data.drop a = (x.1.length : Int) :: (x.1 ++ (x.2.1 :: (packSyms l ++ rest))) := by
      rw [hd]
      have e1 : (x.1.length : Int) % 256 = x.1.length := by omega
      have e2 : x.2.1 % 256 = x.2.1 := by omega
      simp [packSyms, e1, e2]
    have g0 : data.getD a 0 = x.1.length := by
      have := getD_dropN data a 0
      rw [Nat.add_zero, hd'] at this
      rw [this]; rfl
    have g1 : data.getD (a + 1 + x.1.length) 0 = x.2.1 := by
      have := getD_dropN data a (1 + x.1.length)
      rw [← Nat.add_assoc, hd', Nat.add_comm 1 x.1.length, List.getD_cons_succ, getD_appR] at this
      exact this
    have g2 : (data.drop (a + 1)).take x.1.length = x.1 := by
      rw [← List.drop_drop, hd', List.drop_succ_cons, List.drop_zero, List.take_append_of_le_length (Nat.le_refl _), List.take_length]
    have g3 : data.drop (a + x.1.length + 2) = packSyms l ++ rest := by
      have e : a + x.1.length + 2 = a + (x.1.length + 1 + 1) := by omega
      rw [e, ← List.drop_drop, hd', List.drop_succ_cons, ← List.drop_drop, List.drop_append_of_le_length (Nat.le_refl _), List.drop_length, List.nil_append, List.drop_succ_cons, List.drop_zero]
    have ih := spl_fwd data l (a + x.1.length + 2) rest (out ++ [(x.1, x.2.1, ())]) g3 (fun y hy => hs y (by simp [hy]))
    rw [List.length_cons]
    unfold spLoop
    rw [if_neg (by omega)]
    simp only [Int.toNat_natCast]
    rw [g0, Int.toNat_natCast, g1, g2, if_neg (by omega)]
    have ea : ((a : Int) + (x.1.length : Int) + 2) = ((a + x.1.length + 2 : Nat) : Int) := by omega
    rw [ea, ih, hl]
    have ex : (x.1, x.2.1, ()) = x := rfl
    rw [ex, List.append_assoc]
    congr 3
    omega
theorem rdOne_cons (x : Int) (l : List Int) : rdOne (x :: l, false, ()) = x := by
  rw [rdOne_good _ (by simp; omega)]; rfl
theorem rdNext_cons (x : Int) (l : List Int) : rdNext (x :: l, false, ()) 1 = (l, false, ()) := by
  unfold rdNext rdBad
  rw [if_neg (by simp; omega)]
  rfl
theorem rdTake_app (x l : List Int) (n : Int) (h : n = x.length) : rdTake (x ++ l, false, ()) n = x := by
  subst h
  rw [rdTake_good _ _ (by simp; omega)]; simp
theorem rdNext_app (x l : List Int) (n : Int) (h : n = x.length) : rdNext (x ++ l, false, ()) n = (l, false, ()) := by
  subst h
  unfold rdNext rdBad
  rw [if_neg (by simp; omega)]
  simp
theorem sgl_fwd : ∀ (l : List SymT) (rest : List Int) (out : List SymT), small l → sigLoop l.length (packSyms l ++ rest, false, ()) out = (out ++ l, (rest, false, ()))
  | [], rest, out, _ => by simp [sigLoop, packSyms]
  | x :: l, rest, out, hs => by
    have hx := hs x (by simp)
    have e1 : (x.1.length : Int) % 256 = x.1.length := by omega
    have e2 : x.2.1 % 256 = x.2.1 := by omega
    have hd' : packSyms (x :: l) ++ rest = (x.1.length : Int) :: (x.1 ++ (x.2.1 :: (packSyms l ++ rest))) := by
      simp [packSyms, e1, e2]
    rw [hd', List.length_cons]
    unfold sigLoop
    have r1 : rd3n ((x.1.length : Int) :: (x.1 ++ (x.2.1 :: (packSyms l ++ rest))), false, ()) = (packSyms l ++ rest, false, ()) := by
      unfold rd3n
      rw [rdOne_cons, rdNext_cons, rdNext_app _ _ _ rfl, rdNext_cons]
    have r2 : rd3 ((x.1.length : Int) :: (x.1 ++ (x.2.1 :: (packSyms l ++ rest))), false, ()) = x := by
      unfold rd3
      rw [rdOne_cons, rdNext_cons, rdTake_app _ _ _ rfl, rdNext_app _ _ _ rfl, rdOne_cons]
    rw [if_neg (by simp), r1, r2, sgl_fwd l rest _ (fun y hy => hs y (by simp [hy]))]
    simp
/-- What is packed is what is read: the reference's way. -/
theorem l2Read_fwd (s : SigT) (rest : List Int) (h : sigFault s = 0) : l2Read (packSig s ++ rest) = (s, ((packSig s).length : Int)) := by
  have hg := (sig_good s h).1
  have e : (s.1.length : Int) % 256 = s.1.length := by omega
  have hsn : symsN (packSig s ++ rest) = s.1.length := by
    unfold symsN packSig
    simp only [List.cons_append, List.getD_cons_zero, e]; omega
  have hf := spl_fwd (packSig s ++ rest) s.1 1 rest [] (by simp [packSig]) (sig_small s h)
  have hl := l2Read_some (packSig s ++ rest) s.1 _ (by simp [packSig]) (by rw [hsn]; exact hf)
  have es : (s.1, ()) = s := rfl
  rw [hl, es, if_pos h]
  congr 2
  simp [packSig]; omega
/-- What is packed is what is read: the program's way. -/
theorem sigRd_fwd (s : SigT) (rest : List Int) (h : sigFault s = 0) : sigRd (packSig s ++ rest, false, ()) = (s.1, (rest, false, ())) := by
  have hg := (sig_good s h).1
  have e : (s.1.length : Int) % 256 = s.1.length := by omega
  unfold sigRd packSig
  rw [List.cons_append, rdOne_cons, rdNext_cons, e, Int.toNat_natCast, sgl_fwd _ _ _ (sig_small s h), List.nil_append]
theorem cnt_syms : ∀ (l : List SymT), cnt false (.sl (.pair .str (.pair (.int .i64) .unit))) l = 2 * l.length
  | [] => rfl
  | x :: l => by
    have := cnt_syms l
    simp only [cnt, cntL] at this ⊢
    rw [this, List.length_cons]; simp; omega

def F_w_markText (k : Int) : List Int := markText k
def Q_w_markText (k : Int) : Prop := k ≤ 4611686018427387904
def O_w_markText : Opt := ⟨fun i => false, fun i => (match decide (i = 4) with | true => [true, false, false, true, false, false, false, false, false, false, false, false, false, false, false, false, false, false, false, false] | false => []), fun i => .done, fun i => none, fun i => false, fun i => [], fun i => false, fun i => none⟩
def τ_w_markText : Env := Env.of [(2, (.int .i64)), (3, (.int .i64)), (4, .bool), (5, (.int .u8)), (9, .str), (27, (.sl (.int .u8)))] [] []

theorem ct_w_markText (k : Int) : Ct pg 140 [.dat (.int .i64) k] ⟨[Q_w_markText k], [⟨.str, .sh, F_w_markText k⟩], []⟩ := by
  refine ct_claim (O := O_w_markText) (τ := τ_w_markText) (EnvOk.of (by kernel_rfl) (by kernel_rfl)) (GOk.of (.nil : AllOk pg [])) mixed (Enters.of (by kernel_rfl)) (fn := Go.Proofs.Tryz.f140) (by kernel_rfl) rfl (by kernel_rfl) ?_
  intro hp hw
  have hq : Q_w_markText k := hp _ (List.mem_singleton.2 rfl)
  clear hp
  change claim Lg.std Alg.std τ_w_markText (Gam.of []) O_w_markText Go.Proofs.Tryz.f140 [.dat (.int .i64) k] ⟨[Q_w_markText k], [⟨.str, .sh, F_w_markText k⟩], []⟩
  generalize hR0 : F_w_markText k = R0
  generalize Q_w_markText k = Q0
  generalize hL : Lg.std = L
  generalize hA : Alg.std = A
  cbv
  subst hL hA
  try dsimp only [Ty.den]
  simp only [Q_w_markText] at hq
  refine ⟨fun h => ?_, fun h => ?_⟩
  · subst hR0
    simp only [Lg.std, Alg.std, List.drop_zero, List.take_length, F_w_markText, markText] at *
    all_goals grind
  · refine lp_v (V := (Int) × (List Int)) (fun ((n, out) : (Int) × (List Int)) => ⟨[.dat (.int .i64) n, .junk, .junk, .dat .str out, .junk, .junk, .junk, .junk, .junk, .junk, .junk, .junk, .junk, .junk, .junk, .junk, .junk, .junk, .junk, .junk], []⟩) (fun ((n, out) : (Int) × (List Int)) => digs n out = digs k [] ∧ n * 10 ^ out.length ≤ k ∧ 0 ≤ n ∧ 0 < k ∧ out.length ≤ 19) (fun ((n, out) : (Int) × (List Int)) => n.toNat) (k, []) rfl ?_ ?_
    · simp [Alg.std] at *; omega
    rintro ⟨n, out⟩ hf I hI
    replace hf : digs n out = digs k [] ∧ n * 10 ^ out.length ≤ k ∧ 0 ≤ n ∧ 0 < k ∧ out.length ≤ 19 := hf
    generalize hL : Lg.std = L
    generalize hA : Alg.std = A
    cbv
    subst hL hA
    try dsimp only [Ty.den]
    subst hI
    simp only [Lg.std, Alg.std, List.drop_zero, List.take_length]
    obtain ⟨h1, h2, h3, h4, h5⟩ := hf
    have hd1 := digs_pos n out
    have hd2 := digs_end n out
    have hd3 := dig_len n k out.length h2 hq
    have hd4 := dig_step n k out.length h2
    have hd5 := dig_wrap n
    have hkt : (109 :: digs k [] : List Int) = markText k := by rw [markText, if_neg (by omega)]; rfl
    repeat' (first | intro _ | apply And.intro)
    all_goals (try refine ⟨(_, _), rfl, ?_, ?_⟩)
    all_goals subst hR0
    all_goals (try simp only [F_w_markText] at *)
    all_goals grind [markText]
def con_w_markText : Con := ⟨true, g1 (pD (.int .i64)) fun k => .one ⟨[Q_w_markText k], [⟨.str, .sh, F_w_markText k⟩], []⟩, [], false, 0⟩
theorem ok_w_markText : ConOk pg 140 con_w_markText := ConOk.g1 (Enters.of (by kernel_rfl)) ct_w_markText

def F_w_markSymbolS (a : List ((List Int) × (Int) × Unit)) (k : Int) : Int := k + cnt false (.sl (.pair .str (.pair (.int .i64) .unit))) a
def B_w_markSymbolS_a (a : List ((List Int) × (Int) × Unit)) (k : Int) : List ((List Int) × (Int) × Unit) := mk false (.sl (.pair .str (.pair (.int .i64) .unit))) a k
def Q_w_markSymbolS (a : List ((List Int) × (Int) × Unit)) (k : Int) : Prop := 0 ≤ k ∧ k + cnt false (.sl (.pair .str (.pair (.int .i64) .unit))) a ≤ 4611686018427387904
def O_w_markSymbolS : Opt := ⟨fun i => false, fun i => (match decide (i = 2) with | true => [true, true, false, false, false, true, false, false, false, false, false, false, false, false, false, false, false, false, false, false, false, false, false, false, false, false, false, false] | false => []), fun i => .done, fun i => none, fun i => false, fun i => [], fun i => false, fun i => none⟩
def τ_w_markSymbolS : Env := Env.of [(2, (.int .i64)), (3, (.int .i64)), (4, .bool), (9, .str), (28, (.sl (.pair .str (.pair (.int .i64) .unit)))), (175, (.pair .str (.pair (.int .i64) .unit)))] [] []

theorem ct_w_markSymbolS (a : List ((List Int) × (Int) × Unit)) (k : Int) : Ct pg 76 [.mv (.sl (.pair .str (.pair (.int .i64) .unit))) (.ow (.pr .sh (.pr .sh .sh))) a, .dat (.int .i64) k] ⟨[Q_w_markSymbolS a k], [⟨(.int .i64), .sh, F_w_markSymbolS a k⟩], [.mv (.sl (.pair .str (.pair (.int .i64) .unit))) (.ow (.pr .sh (.pr .sh .sh))) (B_w_markSymbolS_a a k)]⟩ := by
  refine ct_claim (O := O_w_markSymbolS) (τ := τ_w_markSymbolS) (EnvOk.of (by kernel_rfl) (by kernel_rfl)) (GOk.of (.cons ok_w_markText .nil : AllOk pg [(140, con_w_markText)])) mixed (Enters.of (by kernel_rfl)) (fn := Go.Proofs.Tryz.f76) (by kernel_rfl) rfl (by kernel_rfl) ?_
  intro hp hw
  have hq : Q_w_markSymbolS a k := hp _ (List.mem_singleton.2 rfl)
  clear hp
  change claim Lg.std Alg.std τ_w_markSymbolS (Gam.of [(140, ⟨true, g1 (pD (.int .i64)) fun k => .one ⟨[Q_w_markText k], [⟨.str, .sh, F_w_markText k⟩], []⟩, [], false, 0⟩)]) O_w_markSymbolS Go.Proofs.Tryz.f76 [.mv (.sl (.pair .str (.pair (.int .i64) .unit))) (.ow (.pr .sh (.pr .sh .sh))) a, .dat (.int .i64) k] ⟨[Q_w_markSymbolS a k], [⟨(.int .i64), .sh, F_w_markSymbolS a k⟩], [.mv (.sl (.pair .str (.pair (.int .i64) .unit))) (.ow (.pr .sh (.pr .sh .sh))) (B_w_markSymbolS_a a k)]⟩
  generalize hg_F_w_markText : F_w_markText = g_F_w_markText
  generalize hg_Q_w_markText : Q_w_markText = g_Q_w_markText
  generalize hR0 : F_w_markSymbolS a k = R0
  generalize hB_a : B_w_markSymbolS_a a k = B_a
  generalize Q_w_markSymbolS a k = Q0
  generalize hL : Lg.std = L
  generalize hA : Alg.std = A
  cbv
  subst hL hA
  try dsimp only [Ty.den]
  simp only [Q_w_markSymbolS] at hq
  refine lp_v (V := (Int) × (Int) × (Nat) × (List ((List Int) × (Int) × Unit))) (fun ((i, j, N, xs) : (Int) × (Int) × (Nat) × (List ((List Int) × (Int) × Unit))) => ⟨[.ref (.pair .str (.pair (.int .i64) .unit)) 0 0 [] 0 N, .dat (.int .i64) j, .junk, .junk, .junk, .dat (.int .i64) i, .junk, .junk, .junk, .junk, .junk, .junk, .junk, .junk, .junk, .junk, .junk, .junk, .junk, .junk, .junk, .junk, .junk, .junk, .junk, .junk, .junk, .junk], [some (.row 0 (.pair .str (.pair (.int .i64) .unit)) (.pr .sh (.pr .sh .sh)) xs), some (.gh [.ref (.pair .str (.pair (.int .i64) .unit)) 0 0 [] 0 N])]⟩) (fun ((i, j, N, xs) : (Int) × (Int) × (Nat) × (List ((List Int) × (Int) × Unit))) => N = a.length ∧ 0 ≤ i ∧ i ≤ a.length ∧ j = k + cnt false (.sl (.pair .str (.pair (.int .i64) .unit))) (a.take i.toNat : List ((List Int) × (Int) × Unit)) ∧ xs = (mk false (.sl (.pair .str (.pair (.int .i64) .unit))) a k : List ((List Int) × (Int) × Unit)).take i.toNat ++ a.drop i.toNat) (fun ((i, j, N, xs) : (Int) × (Int) × (Nat) × (List ((List Int) × (Int) × Unit))) => a.length - i.toNat) (0, k, _, _) rfl ?_ ?_
  · simp [Alg.std, cnt, cntL]
  rintro ⟨i, j, N, xs⟩ hf I hI
  replace hf : N = a.length ∧ 0 ≤ i ∧ i ≤ a.length ∧ j = k + cnt false (.sl (.pair .str (.pair (.int .i64) .unit))) (a.take i.toNat : List ((List Int) × (Int) × Unit)) ∧ xs = (mk false (.sl (.pair .str (.pair (.int .i64) .unit))) a k : List ((List Int) × (Int) × Unit)).take i.toNat ++ a.drop i.toNat := hf
  generalize hL : Lg.std = L
  generalize hA : Alg.std = A
  cbv
  subst hL hA
  try dsimp only [Ty.den]
  subst hI
  simp only [Lg.std, Alg.std, List.drop_zero, List.take_length]
  obtain ⟨h1, h2, h3, h4, h5⟩ := hf
  have hl := hw.1.1
  have hk := fun (h : i.toNat < a.length) => mk_stepT (.pair .str (.pair (.int .i64) .unit)) a (([], 0, PUnit.unit) : (List Int) × (Int) × Unit) k i.toNat h
  have hm := fun (h : i.toNat < a.length) => mk_mid (.pair .str (.pair (.int .i64) .unit)) a (([], 0, PUnit.unit) : (List Int) × (Int) × Unit) k i.toNat h
  have hml := fun (h : i.toNat ≤ a.length) => mk_midlen (.pair .str (.pair (.int .i64) .unit)) a k i.toNat h
  have hct := fun (h : i.toNat < a.length) => cnt_take (.pair .str (.pair (.int .i64) .unit)) a (([], 0, PUnit.unit) : (List Int) × (Int) × Unit) i.toNat h
  have hcl := cnt_le (.pair .str (.pair (.int .i64) .unit)) a (i.toNat + 1)
  have hcl0 := cnt_le (.pair .str (.pair (.int .i64) .unit)) a i.toNat
  have hta := fun (h : a.length ≤ i.toNat) => List.take_of_length_le h
  have htm := fun (h : a.length ≤ i.toNat) => List.take_of_length_le (l := (mk false (.sl (.pair .str (.pair (.int .i64) .unit))) a k : List ((List Int) × (Int) × Unit))) (Nat.le_trans (Nat.le_of_eq (mk_len false (.pair .str (.pair (.int .i64) .unit)) a k)) h)
  have hdc := fun (h : i.toNat < a.length) => drop_cons a (([], 0, PUnit.unit) : (List Int) × (Int) × Unit) i.toNat h
  have he := fun (h : a.length ≤ i.toNat) => drop_nil a i.toNat h
  repeat' (first | intro _ | apply And.intro)
  all_goals (try refine ⟨(_, _, _, _), rfl, ?_, ?_⟩)
  all_goals subst hR0 hB_a hg_F_w_markText hg_Q_w_markText
  all_goals (try simp only [F_w_markText, Q_w_markText, F_w_markSymbolS, B_w_markSymbolS_a] at *)
  all_goals (try simp only [szf, tot_p, tot_u, tot_i, tot_b, tot_s, cnt_p, cnt_u, cnt_i0, cnt_b0, cnt_s0, cnt_i1, cnt_b1, cnt_s1, cnt_l, mk_p, mk_u, mk_i0, mk_b0, mk_s0, mk_i1, mk_s1, mk_l, hd_p, hd_u, hd_i0, hd_b0, hd_s0, hd_i1, hd_b1, hd_s1, hd_l] at *)
  all_goals grind [getD_set_self, List.set_set, i64_wrap]
def con_w_markSymbolS : Con := ⟨true, g2 (pV (.sl (.pair .str (.pair (.int .i64) .unit))) (.ow (.pr .sh (.pr .sh .sh)))) (pD (.int .i64)) fun a k => .one ⟨[Q_w_markSymbolS a k], [⟨(.int .i64), .sh, F_w_markSymbolS a k⟩], [.mv (.sl (.pair .str (.pair (.int .i64) .unit))) (.ow (.pr .sh (.pr .sh .sh))) (B_w_markSymbolS_a a k)]⟩, [(.ow (.pr .sh (.pr .sh .sh)))], false, 0⟩
theorem ok_w_markSymbolS : ConOk pg 76 con_w_markSymbolS := ConOk.g2 (Enters.of (by kernel_rfl)) ct_w_markSymbolS

def F_w_heldSymbolS (a : List ((List Int) × (Int) × Unit)) (k : Int) : Int := hd false (.sl (.pair .str (.pair (.int .i64) .unit))) a k
def Q_w_heldSymbolS (a : List ((List Int) × (Int) × Unit)) (k : Int) : Prop := 0 ≤ k ∧ k + cnt false (.sl (.pair .str (.pair (.int .i64) .unit))) a ≤ 4611686018427387904
def O_w_heldSymbolS : Opt := ⟨fun i => (match decide (i = 4) with | true => true | false => false), fun i => (match decide (i = 2) with | true => [true, true, false, false, false, true, false, false, false, false, false, false, false, false, false, false, false, false, false, false, false, false, false, false, false, false, false, false, false, false, false, false] | false => []), fun i => .done, fun i => none, fun i => false, fun i => [], fun i => false, fun i => none⟩
def τ_w_heldSymbolS : Env := Env.of [(2, (.int .i64)), (3, (.int .i64)), (4, .bool), (9, .str), (28, (.sl (.pair .str (.pair (.int .i64) .unit)))), (175, (.pair .str (.pair (.int .i64) .unit)))] [] []

theorem ct_w_heldSymbolS (a : List ((List Int) × (Int) × Unit)) (k : Int) : Ct pg 187 [.dat (.sl (.pair .str (.pair (.int .i64) .unit))) a, .dat (.int .i64) k] ⟨[Q_w_heldSymbolS a k], [⟨(.int .i64), .sh, F_w_heldSymbolS a k⟩], []⟩ := by
  refine ct_claim (O := O_w_heldSymbolS) (τ := τ_w_heldSymbolS) (EnvOk.of (by kernel_rfl) (by kernel_rfl)) (GOk.of (.cons ok_w_markText .nil : AllOk pg [(140, con_w_markText)])) mixed (Enters.of (by kernel_rfl)) (fn := Go.Proofs.Tryz.f187) (by kernel_rfl) rfl (by kernel_rfl) ?_
  intro hp hw
  have hq : Q_w_heldSymbolS a k := hp _ (List.mem_singleton.2 rfl)
  clear hp
  change claim Lg.std Alg.std τ_w_heldSymbolS (Gam.of [(140, ⟨true, g1 (pD (.int .i64)) fun k => .one ⟨[Q_w_markText k], [⟨.str, .sh, F_w_markText k⟩], []⟩, [], false, 0⟩)]) O_w_heldSymbolS Go.Proofs.Tryz.f187 [.dat (.sl (.pair .str (.pair (.int .i64) .unit))) a, .dat (.int .i64) k] ⟨[Q_w_heldSymbolS a k], [⟨(.int .i64), .sh, F_w_heldSymbolS a k⟩], []⟩
  generalize hg_F_w_markText : F_w_markText = g_F_w_markText
  generalize hg_Q_w_markText : Q_w_markText = g_Q_w_markText
  generalize hR0 : F_w_heldSymbolS a k = R0
  generalize Q_w_heldSymbolS a k = Q0
  generalize hL : Lg.std = L
  generalize hA : Alg.std = A
  cbv
  subst hL hA
  try dsimp only [Ty.den]
  simp only [Q_w_heldSymbolS] at hq
  refine lp_v (V := (Int) × (Int)) (fun ((i, j) : (Int) × (Int)) => ⟨[.dat (.sl (.pair .str (.pair (.int .i64) .unit))) a, .dat (.int .i64) j, .junk, .junk, .junk, .dat (.int .i64) i, .junk, .junk, .junk, .junk, .junk, .junk, .junk, .junk, .junk, .junk, .junk, .junk, .junk, .junk, .junk, .junk, .junk, .junk, .junk, .junk, .junk, .junk, .junk, .junk, .junk, .junk], []⟩) (fun ((i, j) : (Int) × (Int)) => 0 ≤ i ∧ i ≤ a.length ∧ 0 ≤ j ∧ j + cnt false (.sl (.pair .str (.pair (.int .i64) .unit))) (a.drop i.toNat : List ((List Int) × (Int) × Unit)) ≤ 4611686018427387904 ∧ hd false (.sl (.pair .str (.pair (.int .i64) .unit))) a k = hd false (.sl (.pair .str (.pair (.int .i64) .unit))) (a.drop i.toNat : List ((List Int) × (Int) × Unit)) j) (fun ((i, j) : (Int) × (Int)) => a.length - i.toNat) (0, k) rfl ?_ ?_
  · simp; omega
  rintro ⟨i, j⟩ hf I hI
  replace hf : 0 ≤ i ∧ i ≤ a.length ∧ 0 ≤ j ∧ j + cnt false (.sl (.pair .str (.pair (.int .i64) .unit))) (a.drop i.toNat : List ((List Int) × (Int) × Unit)) ≤ 4611686018427387904 ∧ hd false (.sl (.pair .str (.pair (.int .i64) .unit))) a k = hd false (.sl (.pair .str (.pair (.int .i64) .unit))) (a.drop i.toNat : List ((List Int) × (Int) × Unit)) j := hf
  generalize hL : Lg.std = L
  generalize hA : Alg.std = A
  cbv
  subst hL hA
  try dsimp only [Ty.den]
  subst hI
  simp only [Lg.std, Alg.std, List.drop_zero, List.take_length]
  obtain ⟨h1, h2, h3, h4, h5⟩ := hf
  have hl := hw.1.1
  have hs := fun (h : i.toNat < a.length) => hd_drop (.pair .str (.pair (.int .i64) .unit)) a (([], 0, PUnit.unit) : (List Int) × (Int) × Unit) i.toNat j h
  have hcs := fun (h : i.toNat < a.length) => cnt_split (.pair .str (.pair (.int .i64) .unit)) a (([], 0, PUnit.unit) : (List Int) × (Int) × Unit) i.toNat h
  have ho := hd_or true (.pair .str (.pair (.int .i64) .unit)) (a.getD i.toNat (([], 0, PUnit.unit) : (List Int) × (Int) × Unit)) j (by omega)
  have hn := hd_nil (.pair .str (.pair (.int .i64) .unit)) j
  have hdc := fun (h : i.toNat < a.length) => drop_cons a (([], 0, PUnit.unit) : (List Int) × (Int) × Unit) i.toNat h
  have he := fun (h : a.length ≤ i.toNat) => drop_nil a i.toNat h
  repeat' (first | intro _ | apply And.intro)
  all_goals (try refine ⟨(_, _), rfl, ?_, ?_⟩)
  all_goals subst hR0 hg_F_w_markText hg_Q_w_markText
  all_goals (try simp only [F_w_markText, Q_w_markText, F_w_heldSymbolS] at *)
  all_goals (try simp only [szf, tot_p, tot_u, tot_i, tot_b, tot_s, cnt_p, cnt_u, cnt_i0, cnt_b0, cnt_s0, cnt_i1, cnt_b1, cnt_s1, cnt_l, mk_p, mk_u, mk_i0, mk_b0, mk_s0, mk_i1, mk_s1, mk_l, hd_p, hd_u, hd_i0, hd_b0, hd_s0, hd_i1, hd_b1, hd_s1, hd_l] at *)
  all_goals grind [i64_wrap]
def con_w_heldSymbolS : Con := ⟨true, g2 (pD (.sl (.pair .str (.pair (.int .i64) .unit)))) (pD (.int .i64)) fun a k => .one ⟨[Q_w_heldSymbolS a k], [⟨(.int .i64), .sh, F_w_heldSymbolS a k⟩], []⟩, [], false, 0⟩
theorem ok_w_heldSymbolS : ConOk pg 187 con_w_heldSymbolS := ConOk.g2 (Enters.of (by kernel_rfl)) ct_w_heldSymbolS

def F_w_markSignature (a : (List ((List Int) × (Int) × Unit)) × Unit) (k : Int) : Int := k + cnt false (.pair (.sl (.pair .str (.pair (.int .i64) .unit))) .unit) a
def B_w_markSignature_a (a : (List ((List Int) × (Int) × Unit)) × Unit) (k : Int) : (List ((List Int) × (Int) × Unit)) × Unit := mk false (.pair (.sl (.pair .str (.pair (.int .i64) .unit))) .unit) a k
def Q_w_markSignature (a : (List ((List Int) × (Int) × Unit)) × Unit) (k : Int) : Prop := 0 ≤ k ∧ k + cnt false (.pair (.sl (.pair .str (.pair (.int .i64) .unit))) .unit) a ≤ 4611686018427387904
def O_w_markSignature : Opt := ⟨fun i => false, fun i => [], fun i => .done, fun i => none, fun i => false, fun i => [], fun i => false, fun i => none⟩
def τ_w_markSignature : Env := Env.of [(3, (.int .i64)), (4, .bool), (28, (.sl (.pair .str (.pair (.int .i64) .unit)))), (30, (.pair (.sl (.pair .str (.pair (.int .i64) .unit))) .unit))] [] []

theorem ct_w_markSignature (a : (List ((List Int) × (Int) × Unit)) × Unit) (k : Int) : Ct pg 25 [.mv (.pair (.sl (.pair .str (.pair (.int .i64) .unit))) .unit) (.pr (.ow (.pr .sh (.pr .sh .sh))) .sh) a, .dat (.int .i64) k] ⟨[Q_w_markSignature a k], [⟨(.int .i64), .sh, F_w_markSignature a k⟩], [.mv (.pair (.sl (.pair .str (.pair (.int .i64) .unit))) .unit) (.pr (.ow (.pr .sh (.pr .sh .sh))) .sh) (B_w_markSignature_a a k)]⟩ := by
  refine ct_claim (O := O_w_markSignature) (τ := τ_w_markSignature) (EnvOk.of (by kernel_rfl) (by kernel_rfl)) (GOk.of (.cons ok_w_markSymbolS .nil : AllOk pg [(76, con_w_markSymbolS)])) mixed (Enters.of (by kernel_rfl)) (fn := Go.Proofs.Tryz.f25) (by kernel_rfl) rfl (by kernel_rfl) ?_
  intro hp hw
  have hq : Q_w_markSignature a k := hp _ (List.mem_singleton.2 rfl)
  clear hp
  change claim Lg.std Alg.std τ_w_markSignature (Gam.of [(76, ⟨true, g2 (pV (.sl (.pair .str (.pair (.int .i64) .unit))) (.ow (.pr .sh (.pr .sh .sh)))) (pD (.int .i64)) fun a k => .one ⟨[Q_w_markSymbolS a k], [⟨(.int .i64), .sh, F_w_markSymbolS a k⟩], [.mv (.sl (.pair .str (.pair (.int .i64) .unit))) (.ow (.pr .sh (.pr .sh .sh))) (B_w_markSymbolS_a a k)]⟩, [(.ow (.pr .sh (.pr .sh .sh)))], false, 0⟩)]) O_w_markSignature Go.Proofs.Tryz.f25 [.mv (.pair (.sl (.pair .str (.pair (.int .i64) .unit))) .unit) (.pr (.ow (.pr .sh (.pr .sh .sh))) .sh) a, .dat (.int .i64) k] ⟨[Q_w_markSignature a k], [⟨(.int .i64), .sh, F_w_markSignature a k⟩], [.mv (.pair (.sl (.pair .str (.pair (.int .i64) .unit))) .unit) (.pr (.ow (.pr .sh (.pr .sh .sh))) .sh) (B_w_markSignature_a a k)]⟩
  generalize hg_F_w_markSymbolS : F_w_markSymbolS = g_F_w_markSymbolS
  generalize hg_B_w_markSymbolS_a : B_w_markSymbolS_a = g_B_w_markSymbolS_a
  generalize hg_Q_w_markSymbolS : Q_w_markSymbolS = g_Q_w_markSymbolS
  generalize hR0 : F_w_markSignature a k = R0
  generalize hB_a : B_w_markSignature_a a k = B_a
  generalize Q_w_markSignature a k = Q0
  generalize hL : Lg.std = L
  generalize hA : Alg.std = A
  cbv
  subst hL hA
  try dsimp only [Ty.den]
  obtain ⟨f0, ⟨⟩⟩ := a
  simp only [Q_w_markSignature] at hq
  subst hR0 hB_a hg_F_w_markSymbolS hg_B_w_markSymbolS_a hg_Q_w_markSymbolS
  simp only [Lg.std, Alg.std, List.drop_zero, List.take_length, F_w_markSymbolS, B_w_markSymbolS_a, Q_w_markSymbolS, F_w_markSignature, B_w_markSignature_a, szf, tot_p, tot_u, tot_i, tot_b, tot_s, cnt_p, cnt_u, cnt_i0, cnt_b0, cnt_s0, cnt_i1, cnt_b1, cnt_s1, cnt_l, mk_p, mk_u, mk_i0, mk_b0, mk_s0, mk_i1, mk_s1, mk_l, hd_p, hd_u, hd_i0, hd_b0, hd_s0, hd_i1, hd_b1, hd_s1, hd_l] at *
  all_goals grind [mk_len]
def con_w_markSignature : Con := ⟨true, g2 (pV (.pair (.sl (.pair .str (.pair (.int .i64) .unit))) .unit) (.pr (.ow (.pr .sh (.pr .sh .sh))) .sh)) (pD (.int .i64)) fun a k => .one ⟨[Q_w_markSignature a k], [⟨(.int .i64), .sh, F_w_markSignature a k⟩], [.mv (.pair (.sl (.pair .str (.pair (.int .i64) .unit))) .unit) (.pr (.ow (.pr .sh (.pr .sh .sh))) .sh) (B_w_markSignature_a a k)]⟩, [(.pr (.ow (.pr .sh (.pr .sh .sh))) .sh)], false, 0⟩
theorem ok_w_markSignature : ConOk pg 25 con_w_markSignature := ConOk.g2 (Enters.of (by kernel_rfl)) ct_w_markSignature

def F_w_heldSignature (a : (List ((List Int) × (Int) × Unit)) × Unit) (k : Int) : Int := hd false (.pair (.sl (.pair .str (.pair (.int .i64) .unit))) .unit) a k
def Q_w_heldSignature (a : (List ((List Int) × (Int) × Unit)) × Unit) (k : Int) : Prop := 0 ≤ k ∧ k + cnt false (.pair (.sl (.pair .str (.pair (.int .i64) .unit))) .unit) a ≤ 4611686018427387904
def O_w_heldSignature : Opt := ⟨fun i => false, fun i => [], fun i => .done, fun i => none, fun i => false, fun i => [], fun i => false, fun i => none⟩
def τ_w_heldSignature : Env := Env.of [(3, (.int .i64)), (4, .bool), (28, (.sl (.pair .str (.pair (.int .i64) .unit)))), (30, (.pair (.sl (.pair .str (.pair (.int .i64) .unit))) .unit))] [] []

theorem ct_w_heldSignature (a : (List ((List Int) × (Int) × Unit)) × Unit) (k : Int) : Ct pg 125 [.dat (.pair (.sl (.pair .str (.pair (.int .i64) .unit))) .unit) a, .dat (.int .i64) k] ⟨[Q_w_heldSignature a k], [⟨(.int .i64), .sh, F_w_heldSignature a k⟩], []⟩ := by
  refine ct_claim (O := O_w_heldSignature) (τ := τ_w_heldSignature) (EnvOk.of (by kernel_rfl) (by kernel_rfl)) (GOk.of (.cons ok_w_heldSymbolS .nil : AllOk pg [(187, con_w_heldSymbolS)])) mixed (Enters.of (by kernel_rfl)) (fn := Go.Proofs.Tryz.f125) (by kernel_rfl) rfl (by kernel_rfl) ?_
  intro hp hw
  have hq : Q_w_heldSignature a k := hp _ (List.mem_singleton.2 rfl)
  clear hp
  change claim Lg.std Alg.std τ_w_heldSignature (Gam.of [(187, ⟨true, g2 (pD (.sl (.pair .str (.pair (.int .i64) .unit)))) (pD (.int .i64)) fun a k => .one ⟨[Q_w_heldSymbolS a k], [⟨(.int .i64), .sh, F_w_heldSymbolS a k⟩], []⟩, [], false, 0⟩)]) O_w_heldSignature Go.Proofs.Tryz.f125 [.dat (.pair (.sl (.pair .str (.pair (.int .i64) .unit))) .unit) a, .dat (.int .i64) k] ⟨[Q_w_heldSignature a k], [⟨(.int .i64), .sh, F_w_heldSignature a k⟩], []⟩
  generalize hg_F_w_heldSymbolS : F_w_heldSymbolS = g_F_w_heldSymbolS
  generalize hg_Q_w_heldSymbolS : Q_w_heldSymbolS = g_Q_w_heldSymbolS
  generalize hR0 : F_w_heldSignature a k = R0
  generalize Q_w_heldSignature a k = Q0
  generalize hL : Lg.std = L
  generalize hA : Alg.std = A
  cbv
  subst hL hA
  try dsimp only [Ty.den]
  obtain ⟨f0, ⟨⟩⟩ := a
  have ho0 := fun k h => hd_or false (.sl (.pair .str (.pair (.int .i64) .unit))) f0 k h
  simp only [Q_w_heldSignature] at hq
  subst hR0 hg_F_w_heldSymbolS hg_Q_w_heldSymbolS
  simp only [Lg.std, Alg.std, List.drop_zero, List.take_length, F_w_heldSymbolS, Q_w_heldSymbolS, F_w_heldSignature, szf, tot_p, tot_u, tot_i, tot_b, tot_s, cnt_p, cnt_u, cnt_i0, cnt_b0, cnt_s0, cnt_i1, cnt_b1, cnt_s1, cnt_l, mk_p, mk_u, mk_i0, mk_b0, mk_s0, mk_i1, mk_s1, mk_l, hd_p, hd_u, hd_i0, hd_b0, hd_s0, hd_i1, hd_b1, hd_s1, hd_l] at *
  all_goals grind [mk_len]
def con_w_heldSignature : Con := ⟨true, g2 (pD (.pair (.sl (.pair .str (.pair (.int .i64) .unit))) .unit)) (pD (.int .i64)) fun a k => .one ⟨[Q_w_heldSignature a k], [⟨(.int .i64), .sh, F_w_heldSignature a k⟩], []⟩, [], false, 0⟩
theorem ok_w_heldSignature : ConOk pg 125 con_w_heldSignature := ConOk.g2 (Enters.of (by kernel_rfl)) ct_w_heldSignature

def F_w_markSuper (a : (Int) × (Int) × (Int) × (Int) × (Int) × (Int) × (Bool) × (List (Int)) × ((List ((List Int) × (Int) × Unit)) × Unit) × Unit) (k : Int) : Int := k + cnt false (.pair (.int .i64) (.pair (.int .i64) (.pair (.int .i64) (.pair (.int .i64) (.pair (.int .i64) (.pair (.int .i64) (.pair .bool (.pair (.sl (.int .u8)) (.pair (.pair (.sl (.pair .str (.pair (.int .i64) .unit))) .unit) .unit))))))))) a
def B_w_markSuper_a (a : (Int) × (Int) × (Int) × (Int) × (Int) × (Int) × (Bool) × (List (Int)) × ((List ((List Int) × (Int) × Unit)) × Unit) × Unit) (k : Int) : (Int) × (Int) × (Int) × (Int) × (Int) × (Int) × (Bool) × (List (Int)) × ((List ((List Int) × (Int) × Unit)) × Unit) × Unit := mk false (.pair (.int .i64) (.pair (.int .i64) (.pair (.int .i64) (.pair (.int .i64) (.pair (.int .i64) (.pair (.int .i64) (.pair .bool (.pair (.sl (.int .u8)) (.pair (.pair (.sl (.pair .str (.pair (.int .i64) .unit))) .unit) .unit))))))))) a k
def Q_w_markSuper (a : (Int) × (Int) × (Int) × (Int) × (Int) × (Int) × (Bool) × (List (Int)) × ((List ((List Int) × (Int) × Unit)) × Unit) × Unit) (k : Int) : Prop := 0 ≤ k ∧ k + cnt false (.pair (.int .i64) (.pair (.int .i64) (.pair (.int .i64) (.pair (.int .i64) (.pair (.int .i64) (.pair (.int .i64) (.pair .bool (.pair (.sl (.int .u8)) (.pair (.pair (.sl (.pair .str (.pair (.int .i64) .unit))) .unit) .unit))))))))) a ≤ 4611686018427387904
def O_w_markSuper : Opt := ⟨fun i => false, fun i => [], fun i => .done, fun i => none, fun i => false, fun i => [], fun i => false, fun i => none⟩
def τ_w_markSuper : Env := Env.of [(3, (.int .i64)), (4, .bool), (27, (.sl (.int .u8))), (30, (.pair (.sl (.pair .str (.pair (.int .i64) .unit))) .unit)), (32, (.pair (.int .i64) (.pair (.int .i64) (.pair (.int .i64) (.pair (.int .i64) (.pair (.int .i64) (.pair (.int .i64) (.pair .bool (.pair (.sl (.int .u8)) (.pair (.pair (.sl (.pair .str (.pair (.int .i64) .unit))) .unit) .unit))))))))))] [] []

theorem ct_w_markSuper (a : (Int) × (Int) × (Int) × (Int) × (Int) × (Int) × (Bool) × (List (Int)) × ((List ((List Int) × (Int) × Unit)) × Unit) × Unit) (k : Int) : Ct pg 39 [.mv (.pair (.int .i64) (.pair (.int .i64) (.pair (.int .i64) (.pair (.int .i64) (.pair (.int .i64) (.pair (.int .i64) (.pair .bool (.pair (.sl (.int .u8)) (.pair (.pair (.sl (.pair .str (.pair (.int .i64) .unit))) .unit) .unit))))))))) (.pr .sh (.pr .sh (.pr .sh (.pr .sh (.pr .sh (.pr .sh (.pr .sh (.pr (.ow .sh) (.pr (.pr (.ow (.pr .sh (.pr .sh .sh))) .sh) .sh))))))))) a, .dat (.int .i64) k] ⟨[Q_w_markSuper a k], [⟨(.int .i64), .sh, F_w_markSuper a k⟩], [.mv (.pair (.int .i64) (.pair (.int .i64) (.pair (.int .i64) (.pair (.int .i64) (.pair (.int .i64) (.pair (.int .i64) (.pair .bool (.pair (.sl (.int .u8)) (.pair (.pair (.sl (.pair .str (.pair (.int .i64) .unit))) .unit) .unit))))))))) (.pr .sh (.pr .sh (.pr .sh (.pr .sh (.pr .sh (.pr .sh (.pr .sh (.pr (.ow .sh) (.pr (.pr (.ow (.pr .sh (.pr .sh .sh))) .sh) .sh))))))))) (B_w_markSuper_a a k)]⟩ := by
  refine ct_claim (O := O_w_markSuper) (τ := τ_w_markSuper) (EnvOk.of (by kernel_rfl) (by kernel_rfl)) (GOk.of (.cons ok_w_markByteS (.cons ok_w_markSignature .nil) : AllOk pg [(26, con_w_markByteS), (25, con_w_markSignature)])) mixed (Enters.of (by kernel_rfl)) (fn := Go.Proofs.Tryz.f39) (by kernel_rfl) rfl (by kernel_rfl) ?_
  intro hp hw
  have hq : Q_w_markSuper a k := hp _ (List.mem_singleton.2 rfl)
  clear hp
  change claim Lg.std Alg.std τ_w_markSuper (Gam.of [(26, ⟨true, g2 (pV (.sl (.int .u8)) (.ow .sh)) (pD (.int .i64)) fun a k => .one ⟨[Q_w_markByteS a k], [⟨(.int .i64), .sh, F_w_markByteS a k⟩], [.mv (.sl (.int .u8)) (.ow .sh) (B_w_markByteS_a a k)]⟩, [(.ow .sh)], false, 0⟩), (25, ⟨true, g2 (pV (.pair (.sl (.pair .str (.pair (.int .i64) .unit))) .unit) (.pr (.ow (.pr .sh (.pr .sh .sh))) .sh)) (pD (.int .i64)) fun a k => .one ⟨[Q_w_markSignature a k], [⟨(.int .i64), .sh, F_w_markSignature a k⟩], [.mv (.pair (.sl (.pair .str (.pair (.int .i64) .unit))) .unit) (.pr (.ow (.pr .sh (.pr .sh .sh))) .sh) (B_w_markSignature_a a k)]⟩, [(.pr (.ow (.pr .sh (.pr .sh .sh))) .sh)], false, 0⟩)]) O_w_markSuper Go.Proofs.Tryz.f39 [.mv (.pair (.int .i64) (.pair (.int .i64) (.pair (.int .i64) (.pair (.int .i64) (.pair (.int .i64) (.pair (.int .i64) (.pair .bool (.pair (.sl (.int .u8)) (.pair (.pair (.sl (.pair .str (.pair (.int .i64) .unit))) .unit) .unit))))))))) (.pr .sh (.pr .sh (.pr .sh (.pr .sh (.pr .sh (.pr .sh (.pr .sh (.pr (.ow .sh) (.pr (.pr (.ow (.pr .sh (.pr .sh .sh))) .sh) .sh))))))))) a, .dat (.int .i64) k] ⟨[Q_w_markSuper a k], [⟨(.int .i64), .sh, F_w_markSuper a k⟩], [.mv (.pair (.int .i64) (.pair (.int .i64) (.pair (.int .i64) (.pair (.int .i64) (.pair (.int .i64) (.pair (.int .i64) (.pair .bool (.pair (.sl (.int .u8)) (.pair (.pair (.sl (.pair .str (.pair (.int .i64) .unit))) .unit) .unit))))))))) (.pr .sh (.pr .sh (.pr .sh (.pr .sh (.pr .sh (.pr .sh (.pr .sh (.pr (.ow .sh) (.pr (.pr (.ow (.pr .sh (.pr .sh .sh))) .sh) .sh))))))))) (B_w_markSuper_a a k)]⟩
  generalize hg_F_w_markByteS : F_w_markByteS = g_F_w_markByteS
  generalize hg_B_w_markByteS_a : B_w_markByteS_a = g_B_w_markByteS_a
  generalize hg_Q_w_markByteS : Q_w_markByteS = g_Q_w_markByteS
  generalize hg_F_w_markSignature : F_w_markSignature = g_F_w_markSignature
  generalize hg_B_w_markSignature_a : B_w_markSignature_a = g_B_w_markSignature_a
  generalize hg_Q_w_markSignature : Q_w_markSignature = g_Q_w_markSignature
  generalize hR0 : F_w_markSuper a k = R0
  generalize hB_a : B_w_markSuper_a a k = B_a
  generalize Q_w_markSuper a k = Q0
  generalize hL : Lg.std = L
  generalize hA : Alg.std = A
  cbv
  subst hL hA
  try dsimp only [Ty.den]
  obtain ⟨f0, f1, f2, f3, f4, f5, f6, f7, f8, ⟨⟩⟩ := a
  simp only [Q_w_markSuper] at hq
  subst hR0 hB_a hg_F_w_markByteS hg_B_w_markByteS_a hg_Q_w_markByteS hg_F_w_markSignature hg_B_w_markSignature_a hg_Q_w_markSignature
  simp only [Lg.std, Alg.std, List.drop_zero, List.take_length, F_w_markByteS, F_w_markSignature, B_w_markByteS_a, B_w_markSignature_a, Q_w_markByteS, Q_w_markSignature, F_w_markSuper, B_w_markSuper_a, szf, tot_p, tot_u, tot_i, tot_b, tot_s, cnt_p, cnt_u, cnt_i0, cnt_b0, cnt_s0, cnt_i1, cnt_b1, cnt_s1, cnt_l, mk_p, mk_u, mk_i0, mk_b0, mk_s0, mk_i1, mk_s1, mk_l, hd_p, hd_u, hd_i0, hd_b0, hd_s0, hd_i1, hd_b1, hd_s1, hd_l] at *
  all_goals grind [mk_len]
def con_w_markSuper : Con := ⟨true, g2 (pV (.pair (.int .i64) (.pair (.int .i64) (.pair (.int .i64) (.pair (.int .i64) (.pair (.int .i64) (.pair (.int .i64) (.pair .bool (.pair (.sl (.int .u8)) (.pair (.pair (.sl (.pair .str (.pair (.int .i64) .unit))) .unit) .unit))))))))) (.pr .sh (.pr .sh (.pr .sh (.pr .sh (.pr .sh (.pr .sh (.pr .sh (.pr (.ow .sh) (.pr (.pr (.ow (.pr .sh (.pr .sh .sh))) .sh) .sh)))))))))) (pD (.int .i64)) fun a k => .one ⟨[Q_w_markSuper a k], [⟨(.int .i64), .sh, F_w_markSuper a k⟩], [.mv (.pair (.int .i64) (.pair (.int .i64) (.pair (.int .i64) (.pair (.int .i64) (.pair (.int .i64) (.pair (.int .i64) (.pair .bool (.pair (.sl (.int .u8)) (.pair (.pair (.sl (.pair .str (.pair (.int .i64) .unit))) .unit) .unit))))))))) (.pr .sh (.pr .sh (.pr .sh (.pr .sh (.pr .sh (.pr .sh (.pr .sh (.pr (.ow .sh) (.pr (.pr (.ow (.pr .sh (.pr .sh .sh))) .sh) .sh))))))))) (B_w_markSuper_a a k)]⟩, [(.pr .sh (.pr .sh (.pr .sh (.pr .sh (.pr .sh (.pr .sh (.pr .sh (.pr (.ow .sh) (.pr (.pr (.ow (.pr .sh (.pr .sh .sh))) .sh) .sh)))))))))], false, 0⟩
theorem ok_w_markSuper : ConOk pg 39 con_w_markSuper := ConOk.g2 (Enters.of (by kernel_rfl)) ct_w_markSuper

def F_w_heldSuper (a : (Int) × (Int) × (Int) × (Int) × (Int) × (Int) × (Bool) × (List (Int)) × ((List ((List Int) × (Int) × Unit)) × Unit) × Unit) (k : Int) : Int := hd false (.pair (.int .i64) (.pair (.int .i64) (.pair (.int .i64) (.pair (.int .i64) (.pair (.int .i64) (.pair (.int .i64) (.pair .bool (.pair (.sl (.int .u8)) (.pair (.pair (.sl (.pair .str (.pair (.int .i64) .unit))) .unit) .unit))))))))) a k
def Q_w_heldSuper (a : (Int) × (Int) × (Int) × (Int) × (Int) × (Int) × (Bool) × (List (Int)) × ((List ((List Int) × (Int) × Unit)) × Unit) × Unit) (k : Int) : Prop := 0 ≤ k ∧ k + cnt false (.pair (.int .i64) (.pair (.int .i64) (.pair (.int .i64) (.pair (.int .i64) (.pair (.int .i64) (.pair (.int .i64) (.pair .bool (.pair (.sl (.int .u8)) (.pair (.pair (.sl (.pair .str (.pair (.int .i64) .unit))) .unit) .unit))))))))) a ≤ 4611686018427387904
def O_w_heldSuper : Opt := ⟨fun i => false, fun i => [], fun i => .done, fun i => none, fun i => false, fun i => [], fun i => false, fun i => none⟩
def τ_w_heldSuper : Env := Env.of [(3, (.int .i64)), (4, .bool), (27, (.sl (.int .u8))), (30, (.pair (.sl (.pair .str (.pair (.int .i64) .unit))) .unit)), (32, (.pair (.int .i64) (.pair (.int .i64) (.pair (.int .i64) (.pair (.int .i64) (.pair (.int .i64) (.pair (.int .i64) (.pair .bool (.pair (.sl (.int .u8)) (.pair (.pair (.sl (.pair .str (.pair (.int .i64) .unit))) .unit) .unit))))))))))] [] []

theorem ct_w_heldSuper (a : (Int) × (Int) × (Int) × (Int) × (Int) × (Int) × (Bool) × (List (Int)) × ((List ((List Int) × (Int) × Unit)) × Unit) × Unit) (k : Int) : Ct pg 64 [.dat (.pair (.int .i64) (.pair (.int .i64) (.pair (.int .i64) (.pair (.int .i64) (.pair (.int .i64) (.pair (.int .i64) (.pair .bool (.pair (.sl (.int .u8)) (.pair (.pair (.sl (.pair .str (.pair (.int .i64) .unit))) .unit) .unit))))))))) a, .dat (.int .i64) k] ⟨[Q_w_heldSuper a k], [⟨(.int .i64), .sh, F_w_heldSuper a k⟩], []⟩ := by
  refine ct_claim (O := O_w_heldSuper) (τ := τ_w_heldSuper) (EnvOk.of (by kernel_rfl) (by kernel_rfl)) (GOk.of (.cons ok_w_heldByteS (.cons ok_w_heldSignature .nil) : AllOk pg [(124, con_w_heldByteS), (125, con_w_heldSignature)])) mixed (Enters.of (by kernel_rfl)) (fn := Go.Proofs.Tryz.f64) (by kernel_rfl) rfl (by kernel_rfl) ?_
  intro hp hw
  have hq : Q_w_heldSuper a k := hp _ (List.mem_singleton.2 rfl)
  clear hp
  change claim Lg.std Alg.std τ_w_heldSuper (Gam.of [(124, ⟨true, g2 (pD (.sl (.int .u8))) (pD (.int .i64)) fun a k => .one ⟨[Q_w_heldByteS a k], [⟨(.int .i64), .sh, F_w_heldByteS a k⟩], []⟩, [], false, 0⟩), (125, ⟨true, g2 (pD (.pair (.sl (.pair .str (.pair (.int .i64) .unit))) .unit)) (pD (.int .i64)) fun a k => .one ⟨[Q_w_heldSignature a k], [⟨(.int .i64), .sh, F_w_heldSignature a k⟩], []⟩, [], false, 0⟩)]) O_w_heldSuper Go.Proofs.Tryz.f64 [.dat (.pair (.int .i64) (.pair (.int .i64) (.pair (.int .i64) (.pair (.int .i64) (.pair (.int .i64) (.pair (.int .i64) (.pair .bool (.pair (.sl (.int .u8)) (.pair (.pair (.sl (.pair .str (.pair (.int .i64) .unit))) .unit) .unit))))))))) a, .dat (.int .i64) k] ⟨[Q_w_heldSuper a k], [⟨(.int .i64), .sh, F_w_heldSuper a k⟩], []⟩
  generalize hg_F_w_heldByteS : F_w_heldByteS = g_F_w_heldByteS
  generalize hg_Q_w_heldByteS : Q_w_heldByteS = g_Q_w_heldByteS
  generalize hg_F_w_heldSignature : F_w_heldSignature = g_F_w_heldSignature
  generalize hg_Q_w_heldSignature : Q_w_heldSignature = g_Q_w_heldSignature
  generalize hR0 : F_w_heldSuper a k = R0
  generalize Q_w_heldSuper a k = Q0
  generalize hL : Lg.std = L
  generalize hA : Alg.std = A
  cbv
  subst hL hA
  try dsimp only [Ty.den]
  obtain ⟨f0, f1, f2, f3, f4, f5, f6, f7, f8, ⟨⟩⟩ := a
  have ho7 := fun k h => hd_or false (.sl (.int .u8)) f7 k h
  have ho8 := fun k h => hd_or false (.pair (.sl (.pair .str (.pair (.int .i64) .unit))) .unit) f8 k h
  simp only [Q_w_heldSuper] at hq
  subst hR0 hg_F_w_heldByteS hg_Q_w_heldByteS hg_F_w_heldSignature hg_Q_w_heldSignature
  simp only [Lg.std, Alg.std, List.drop_zero, List.take_length, F_w_heldByteS, F_w_heldSignature, Q_w_heldByteS, Q_w_heldSignature, F_w_heldSuper, szf, tot_p, tot_u, tot_i, tot_b, tot_s, cnt_p, cnt_u, cnt_i0, cnt_b0, cnt_s0, cnt_i1, cnt_b1, cnt_s1, cnt_l, mk_p, mk_u, mk_i0, mk_b0, mk_s0, mk_i1, mk_s1, mk_l, hd_p, hd_u, hd_i0, hd_b0, hd_s0, hd_i1, hd_b1, hd_s1, hd_l] at *
  all_goals grind [mk_len]
def con_w_heldSuper : Con := ⟨true, g2 (pD (.pair (.int .i64) (.pair (.int .i64) (.pair (.int .i64) (.pair (.int .i64) (.pair (.int .i64) (.pair (.int .i64) (.pair .bool (.pair (.sl (.int .u8)) (.pair (.pair (.sl (.pair .str (.pair (.int .i64) .unit))) .unit) .unit)))))))))) (pD (.int .i64)) fun a k => .one ⟨[Q_w_heldSuper a k], [⟨(.int .i64), .sh, F_w_heldSuper a k⟩], []⟩, [], false, 0⟩
theorem ok_w_heldSuper : ConOk pg 64 con_w_heldSuper := ConOk.g2 (Enters.of (by kernel_rfl)) ct_w_heldSuper

def F_w_markSuperResult (a : (Int) × ((Int) × (Int) × (Int) × (Int) × (Int) × (Int) × (Bool) × (List (Int)) × ((List ((List Int) × (Int) × Unit)) × Unit) × Unit) × Unit) (k : Int) : Int := k + cnt false (.pair (.int .i64) (.pair (.pair (.int .i64) (.pair (.int .i64) (.pair (.int .i64) (.pair (.int .i64) (.pair (.int .i64) (.pair (.int .i64) (.pair .bool (.pair (.sl (.int .u8)) (.pair (.pair (.sl (.pair .str (.pair (.int .i64) .unit))) .unit) .unit))))))))) .unit)) a
def B_w_markSuperResult_a (a : (Int) × ((Int) × (Int) × (Int) × (Int) × (Int) × (Int) × (Bool) × (List (Int)) × ((List ((List Int) × (Int) × Unit)) × Unit) × Unit) × Unit) (k : Int) : (Int) × ((Int) × (Int) × (Int) × (Int) × (Int) × (Int) × (Bool) × (List (Int)) × ((List ((List Int) × (Int) × Unit)) × Unit) × Unit) × Unit := mk false (.pair (.int .i64) (.pair (.pair (.int .i64) (.pair (.int .i64) (.pair (.int .i64) (.pair (.int .i64) (.pair (.int .i64) (.pair (.int .i64) (.pair .bool (.pair (.sl (.int .u8)) (.pair (.pair (.sl (.pair .str (.pair (.int .i64) .unit))) .unit) .unit))))))))) .unit)) a k
def Q_w_markSuperResult (a : (Int) × ((Int) × (Int) × (Int) × (Int) × (Int) × (Int) × (Bool) × (List (Int)) × ((List ((List Int) × (Int) × Unit)) × Unit) × Unit) × Unit) (k : Int) : Prop := 0 ≤ k ∧ k + cnt false (.pair (.int .i64) (.pair (.pair (.int .i64) (.pair (.int .i64) (.pair (.int .i64) (.pair (.int .i64) (.pair (.int .i64) (.pair (.int .i64) (.pair .bool (.pair (.sl (.int .u8)) (.pair (.pair (.sl (.pair .str (.pair (.int .i64) .unit))) .unit) .unit))))))))) .unit)) a ≤ 4611686018427387904
def O_w_markSuperResult : Opt := ⟨fun i => false, fun i => [], fun i => .done, fun i => none, fun i => false, fun i => [], fun i => false, fun i => none⟩
def τ_w_markSuperResult : Env := Env.of [(3, (.int .i64)), (4, .bool), (32, (.pair (.int .i64) (.pair (.int .i64) (.pair (.int .i64) (.pair (.int .i64) (.pair (.int .i64) (.pair (.int .i64) (.pair .bool (.pair (.sl (.int .u8)) (.pair (.pair (.sl (.pair .str (.pair (.int .i64) .unit))) .unit) .unit)))))))))), (34, (.pair (.int .i64) (.pair (.pair (.int .i64) (.pair (.int .i64) (.pair (.int .i64) (.pair (.int .i64) (.pair (.int .i64) (.pair (.int .i64) (.pair .bool (.pair (.sl (.int .u8)) (.pair (.pair (.sl (.pair .str (.pair (.int .i64) .unit))) .unit) .unit))))))))) .unit)))] [] []

theorem ct_w_markSuperResult (a : (Int) × ((Int) × (Int) × (Int) × (Int) × (Int) × (Int) × (Bool) × (List (Int)) × ((List ((List Int) × (Int) × Unit)) × Unit) × Unit) × Unit) (k : Int) : Ct pg 15 [.mv (.pair (.int .i64) (.pair (.pair (.int .i64) (.pair (.int .i64) (.pair (.int .i64) (.pair (.int .i64) (.pair (.int .i64) (.pair (.int .i64) (.pair .bool (.pair (.sl (.int .u8)) (.pair (.pair (.sl (.pair .str (.pair (.int .i64) .unit))) .unit) .unit))))))))) .unit)) (.pr .sh (.pr (.pr .sh (.pr .sh (.pr .sh (.pr .sh (.pr .sh (.pr .sh (.pr .sh (.pr (.ow .sh) (.pr (.pr (.ow (.pr .sh (.pr .sh .sh))) .sh) .sh))))))))) .sh)) a, .dat (.int .i64) k] ⟨[Q_w_markSuperResult a k], [⟨(.int .i64), .sh, F_w_markSuperResult a k⟩], [.mv (.pair (.int .i64) (.pair (.pair (.int .i64) (.pair (.int .i64) (.pair (.int .i64) (.pair (.int .i64) (.pair (.int .i64) (.pair (.int .i64) (.pair .bool (.pair (.sl (.int .u8)) (.pair (.pair (.sl (.pair .str (.pair (.int .i64) .unit))) .unit) .unit))))))))) .unit)) (.pr .sh (.pr (.pr .sh (.pr .sh (.pr .sh (.pr .sh (.pr .sh (.pr .sh (.pr .sh (.pr (.ow .sh) (.pr (.pr (.ow (.pr .sh (.pr .sh .sh))) .sh) .sh))))))))) .sh)) (B_w_markSuperResult_a a k)]⟩ := by
  refine ct_claim (O := O_w_markSuperResult) (τ := τ_w_markSuperResult) (EnvOk.of (by kernel_rfl) (by kernel_rfl)) (GOk.of (.cons ok_w_markSuper .nil : AllOk pg [(39, con_w_markSuper)])) mixed (Enters.of (by kernel_rfl)) (fn := Go.Proofs.Tryz.f15) (by kernel_rfl) rfl (by kernel_rfl) ?_
  intro hp hw
  have hq : Q_w_markSuperResult a k := hp _ (List.mem_singleton.2 rfl)
  clear hp
  change claim Lg.std Alg.std τ_w_markSuperResult (Gam.of [(39, ⟨true, g2 (pV (.pair (.int .i64) (.pair (.int .i64) (.pair (.int .i64) (.pair (.int .i64) (.pair (.int .i64) (.pair (.int .i64) (.pair .bool (.pair (.sl (.int .u8)) (.pair (.pair (.sl (.pair .str (.pair (.int .i64) .unit))) .unit) .unit))))))))) (.pr .sh (.pr .sh (.pr .sh (.pr .sh (.pr .sh (.pr .sh (.pr .sh (.pr (.ow .sh) (.pr (.pr (.ow (.pr .sh (.pr .sh .sh))) .sh) .sh)))))))))) (pD (.int .i64)) fun a k => .one ⟨[Q_w_markSuper a k], [⟨(.int .i64), .sh, F_w_markSuper a k⟩], [.mv (.pair (.int .i64) (.pair (.int .i64) (.pair (.int .i64) (.pair (.int .i64) (.pair (.int .i64) (.pair (.int .i64) (.pair .bool (.pair (.sl (.int .u8)) (.pair (.pair (.sl (.pair .str (.pair (.int .i64) .unit))) .unit) .unit))))))))) (.pr .sh (.pr .sh (.pr .sh (.pr .sh (.pr .sh (.pr .sh (.pr .sh (.pr (.ow .sh) (.pr (.pr (.ow (.pr .sh (.pr .sh .sh))) .sh) .sh))))))))) (B_w_markSuper_a a k)]⟩, [(.pr .sh (.pr .sh (.pr .sh (.pr .sh (.pr .sh (.pr .sh (.pr .sh (.pr (.ow .sh) (.pr (.pr (.ow (.pr .sh (.pr .sh .sh))) .sh) .sh)))))))))], false, 0⟩)]) O_w_markSuperResult Go.Proofs.Tryz.f15 [.mv (.pair (.int .i64) (.pair (.pair (.int .i64) (.pair (.int .i64) (.pair (.int .i64) (.pair (.int .i64) (.pair (.int .i64) (.pair (.int .i64) (.pair .bool (.pair (.sl (.int .u8)) (.pair (.pair (.sl (.pair .str (.pair (.int .i64) .unit))) .unit) .unit))))))))) .unit)) (.pr .sh (.pr (.pr .sh (.pr .sh (.pr .sh (.pr .sh (.pr .sh (.pr .sh (.pr .sh (.pr (.ow .sh) (.pr (.pr (.ow (.pr .sh (.pr .sh .sh))) .sh) .sh))))))))) .sh)) a, .dat (.int .i64) k] ⟨[Q_w_markSuperResult a k], [⟨(.int .i64), .sh, F_w_markSuperResult a k⟩], [.mv (.pair (.int .i64) (.pair (.pair (.int .i64) (.pair (.int .i64) (.pair (.int .i64) (.pair (.int .i64) (.pair (.int .i64) (.pair (.int .i64) (.pair .bool (.pair (.sl (.int .u8)) (.pair (.pair (.sl (.pair .str (.pair (.int .i64) .unit))) .unit) .unit))))))))) .unit)) (.pr .sh (.pr (.pr .sh (.pr .sh (.pr .sh (.pr .sh (.pr .sh (.pr .sh (.pr .sh (.pr (.ow .sh) (.pr (.pr (.ow (.pr .sh (.pr .sh .sh))) .sh) .sh))))))))) .sh)) (B_w_markSuperResult_a a k)]⟩
  generalize hg_F_w_markSuper : F_w_markSuper = g_F_w_markSuper
  generalize hg_B_w_markSuper_a : B_w_markSuper_a = g_B_w_markSuper_a
  generalize hg_Q_w_markSuper : Q_w_markSuper = g_Q_w_markSuper
  generalize hR0 : F_w_markSuperResult a k = R0
  generalize hB_a : B_w_markSuperResult_a a k = B_a
  generalize Q_w_markSuperResult a k = Q0
  generalize hL : Lg.std = L
  generalize hA : Alg.std = A
  cbv
  subst hL hA
  try dsimp only [Ty.den]
  obtain ⟨f0, f1, ⟨⟩⟩ := a
  simp only [Q_w_markSuperResult] at hq
  subst hR0 hB_a hg_F_w_markSuper hg_B_w_markSuper_a hg_Q_w_markSuper
  simp only [Lg.std, Alg.std, List.drop_zero, List.take_length, F_w_markSuper, B_w_markSuper_a, Q_w_markSuper, F_w_markSuperResult, B_w_markSuperResult_a, szf, tot_p, tot_u, tot_i, tot_b, tot_s, cnt_p, cnt_u, cnt_i0, cnt_b0, cnt_s0, cnt_i1, cnt_b1, cnt_s1, cnt_l, mk_p, mk_u, mk_i0, mk_b0, mk_s0, mk_i1, mk_s1, mk_l, hd_p, hd_u, hd_i0, hd_b0, hd_s0, hd_i1, hd_b1, hd_s1, hd_l] at *
  all_goals grind [mk_len]
def con_w_markSuperResult : Con := ⟨true, g2 (pV (.pair (.int .i64) (.pair (.pair (.int .i64) (.pair (.int .i64) (.pair (.int .i64) (.pair (.int .i64) (.pair (.int .i64) (.pair (.int .i64) (.pair .bool (.pair (.sl (.int .u8)) (.pair (.pair (.sl (.pair .str (.pair (.int .i64) .unit))) .unit) .unit))))))))) .unit)) (.pr .sh (.pr (.pr .sh (.pr .sh (.pr .sh (.pr .sh (.pr .sh (.pr .sh (.pr .sh (.pr (.ow .sh) (.pr (.pr (.ow (.pr .sh (.pr .sh .sh))) .sh) .sh))))))))) .sh))) (pD (.int .i64)) fun a k => .one ⟨[Q_w_markSuperResult a k], [⟨(.int .i64), .sh, F_w_markSuperResult a k⟩], [.mv (.pair (.int .i64) (.pair (.pair (.int .i64) (.pair (.int .i64) (.pair (.int .i64) (.pair (.int .i64) (.pair (.int .i64) (.pair (.int .i64) (.pair .bool (.pair (.sl (.int .u8)) (.pair (.pair (.sl (.pair .str (.pair (.int .i64) .unit))) .unit) .unit))))))))) .unit)) (.pr .sh (.pr (.pr .sh (.pr .sh (.pr .sh (.pr .sh (.pr .sh (.pr .sh (.pr .sh (.pr (.ow .sh) (.pr (.pr (.ow (.pr .sh (.pr .sh .sh))) .sh) .sh))))))))) .sh)) (B_w_markSuperResult_a a k)]⟩, [(.pr .sh (.pr (.pr .sh (.pr .sh (.pr .sh (.pr .sh (.pr .sh (.pr .sh (.pr .sh (.pr (.ow .sh) (.pr (.pr (.ow (.pr .sh (.pr .sh .sh))) .sh) .sh))))))))) .sh))], false, 0⟩
theorem ok_w_markSuperResult : ConOk pg 15 con_w_markSuperResult := ConOk.g2 (Enters.of (by kernel_rfl)) ct_w_markSuperResult

def F_w_heldSuperResult (a : (Int) × ((Int) × (Int) × (Int) × (Int) × (Int) × (Int) × (Bool) × (List (Int)) × ((List ((List Int) × (Int) × Unit)) × Unit) × Unit) × Unit) (k : Int) : Int := hd false (.pair (.int .i64) (.pair (.pair (.int .i64) (.pair (.int .i64) (.pair (.int .i64) (.pair (.int .i64) (.pair (.int .i64) (.pair (.int .i64) (.pair .bool (.pair (.sl (.int .u8)) (.pair (.pair (.sl (.pair .str (.pair (.int .i64) .unit))) .unit) .unit))))))))) .unit)) a k
def Q_w_heldSuperResult (a : (Int) × ((Int) × (Int) × (Int) × (Int) × (Int) × (Int) × (Bool) × (List (Int)) × ((List ((List Int) × (Int) × Unit)) × Unit) × Unit) × Unit) (k : Int) : Prop := 0 ≤ k ∧ k + cnt false (.pair (.int .i64) (.pair (.pair (.int .i64) (.pair (.int .i64) (.pair (.int .i64) (.pair (.int .i64) (.pair (.int .i64) (.pair (.int .i64) (.pair .bool (.pair (.sl (.int .u8)) (.pair (.pair (.sl (.pair .str (.pair (.int .i64) .unit))) .unit) .unit))))))))) .unit)) a ≤ 4611686018427387904
def O_w_heldSuperResult : Opt := ⟨fun i => false, fun i => [], fun i => .done, fun i => none, fun i => false, fun i => [], fun i => false, fun i => none⟩
def τ_w_heldSuperResult : Env := Env.of [(3, (.int .i64)), (4, .bool), (32, (.pair (.int .i64) (.pair (.int .i64) (.pair (.int .i64) (.pair (.int .i64) (.pair (.int .i64) (.pair (.int .i64) (.pair .bool (.pair (.sl (.int .u8)) (.pair (.pair (.sl (.pair .str (.pair (.int .i64) .unit))) .unit) .unit)))))))))), (34, (.pair (.int .i64) (.pair (.pair (.int .i64) (.pair (.int .i64) (.pair (.int .i64) (.pair (.int .i64) (.pair (.int .i64) (.pair (.int .i64) (.pair .bool (.pair (.sl (.int .u8)) (.pair (.pair (.sl (.pair .str (.pair (.int .i64) .unit))) .unit) .unit))))))))) .unit)))] [] []

theorem ct_w_heldSuperResult (a : (Int) × ((Int) × (Int) × (Int) × (Int) × (Int) × (Int) × (Bool) × (List (Int)) × ((List ((List Int) × (Int) × Unit)) × Unit) × Unit) × Unit) (k : Int) : Ct pg 16 [.dat (.pair (.int .i64) (.pair (.pair (.int .i64) (.pair (.int .i64) (.pair (.int .i64) (.pair (.int .i64) (.pair (.int .i64) (.pair (.int .i64) (.pair .bool (.pair (.sl (.int .u8)) (.pair (.pair (.sl (.pair .str (.pair (.int .i64) .unit))) .unit) .unit))))))))) .unit)) a, .dat (.int .i64) k] ⟨[Q_w_heldSuperResult a k], [⟨(.int .i64), .sh, F_w_heldSuperResult a k⟩], []⟩ := by
  refine ct_claim (O := O_w_heldSuperResult) (τ := τ_w_heldSuperResult) (EnvOk.of (by kernel_rfl) (by kernel_rfl)) (GOk.of (.cons ok_w_heldSuper .nil : AllOk pg [(64, con_w_heldSuper)])) mixed (Enters.of (by kernel_rfl)) (fn := Go.Proofs.Tryz.f16) (by kernel_rfl) rfl (by kernel_rfl) ?_
  intro hp hw
  have hq : Q_w_heldSuperResult a k := hp _ (List.mem_singleton.2 rfl)
  clear hp
  change claim Lg.std Alg.std τ_w_heldSuperResult (Gam.of [(64, ⟨true, g2 (pD (.pair (.int .i64) (.pair (.int .i64) (.pair (.int .i64) (.pair (.int .i64) (.pair (.int .i64) (.pair (.int .i64) (.pair .bool (.pair (.sl (.int .u8)) (.pair (.pair (.sl (.pair .str (.pair (.int .i64) .unit))) .unit) .unit)))))))))) (pD (.int .i64)) fun a k => .one ⟨[Q_w_heldSuper a k], [⟨(.int .i64), .sh, F_w_heldSuper a k⟩], []⟩, [], false, 0⟩)]) O_w_heldSuperResult Go.Proofs.Tryz.f16 [.dat (.pair (.int .i64) (.pair (.pair (.int .i64) (.pair (.int .i64) (.pair (.int .i64) (.pair (.int .i64) (.pair (.int .i64) (.pair (.int .i64) (.pair .bool (.pair (.sl (.int .u8)) (.pair (.pair (.sl (.pair .str (.pair (.int .i64) .unit))) .unit) .unit))))))))) .unit)) a, .dat (.int .i64) k] ⟨[Q_w_heldSuperResult a k], [⟨(.int .i64), .sh, F_w_heldSuperResult a k⟩], []⟩
  generalize hg_F_w_heldSuper : F_w_heldSuper = g_F_w_heldSuper
  generalize hg_Q_w_heldSuper : Q_w_heldSuper = g_Q_w_heldSuper
  generalize hR0 : F_w_heldSuperResult a k = R0
  generalize Q_w_heldSuperResult a k = Q0
  generalize hL : Lg.std = L
  generalize hA : Alg.std = A
  cbv
  subst hL hA
  try dsimp only [Ty.den]
  obtain ⟨f0, f1, ⟨⟩⟩ := a
  have ho1 := fun k h => hd_or false (.pair (.int .i64) (.pair (.int .i64) (.pair (.int .i64) (.pair (.int .i64) (.pair (.int .i64) (.pair (.int .i64) (.pair .bool (.pair (.sl (.int .u8)) (.pair (.pair (.sl (.pair .str (.pair (.int .i64) .unit))) .unit) .unit))))))))) f1 k h
  simp only [Q_w_heldSuperResult] at hq
  subst hR0 hg_F_w_heldSuper hg_Q_w_heldSuper
  simp only [Lg.std, Alg.std, List.drop_zero, List.take_length, F_w_heldSuper, Q_w_heldSuper, F_w_heldSuperResult, szf, tot_p, tot_u, tot_i, tot_b, tot_s, cnt_p, cnt_u, cnt_i0, cnt_b0, cnt_s0, cnt_i1, cnt_b1, cnt_s1, cnt_l, mk_p, mk_u, mk_i0, mk_b0, mk_s0, mk_i1, mk_s1, mk_l, hd_p, hd_u, hd_i0, hd_b0, hd_s0, hd_i1, hd_b1, hd_s1, hd_l] at *
  all_goals grind [mk_len]
def con_w_heldSuperResult : Con := ⟨true, g2 (pD (.pair (.int .i64) (.pair (.pair (.int .i64) (.pair (.int .i64) (.pair (.int .i64) (.pair (.int .i64) (.pair (.int .i64) (.pair (.int .i64) (.pair .bool (.pair (.sl (.int .u8)) (.pair (.pair (.sl (.pair .str (.pair (.int .i64) .unit))) .unit) .unit))))))))) .unit))) (pD (.int .i64)) fun a k => .one ⟨[Q_w_heldSuperResult a k], [⟨(.int .i64), .sh, F_w_heldSuperResult a k⟩], []⟩, [], false, 0⟩
theorem ok_w_heldSuperResult : ConOk pg 16 con_w_heldSuperResult := ConOk.g2 (Enters.of (by kernel_rfl)) ct_w_heldSuperResult

def F_i_PackSignature (s : (List ((List Int) × (Int) × Unit)) × Unit) : (Int) × (List (Int)) × Unit := if sigFault s = 0 then (0, packSig s, ()) else (sigFault s, [], ())
def Q_i_PackSignature (s : (List ((List Int) × (Int) × Unit)) × Unit) : Prop := True
def O_i_PackSignature : Opt := ⟨fun i => false, fun i => (match decide (i = 6) with | true => [false, false, true, false, true, false, false, false, false, false, false, false, false, false, false, false, false, false, false, true, true, true, false, false, false, false, false, false, false, false, false, false, false, false, false, false, false, false, false, false, false, false, false] | false => []), fun i => (match decide (i = 8) with | true => (.take 0 (.take 1 (.take 7 (.take 10 (.alt 2 (.take 3 (.take 4 (.alt 5 (.alt 6 (.alt 8 (.alt 9 (.alt 11 (.take 12 (.alt 13 (.alt 14 (.take 15 .done) .no) .no)) .no) (.alt 11 (.take 12 (.alt 9 (.alt 13 (.alt 14 (.take 15 .done) .no) .no) (.alt 13 (.alt 9 (.alt 14 (.take 15 .done) .no) .no) .no))) .no)) (.alt 11 (.take 12 (.alt 8 (.alt 9 (.alt 13 (.alt 14 (.take 15 .done) .no) .no) (.alt 13 (.alt 9 (.alt 14 (.take 15 .done) .no) .no) .no)) (.alt 13 (.alt 8 (.alt 9 (.alt 14 (.take 15 .done) .no) .no) .no) .no))) .no)) (.alt 8 (.alt 6 (.alt 9 (.alt 11 (.take 12 (.alt 13 (.alt 14 (.take 15 .done) .no) .no)) .no) (.alt 11 (.take 12 (.alt 9 (.alt 13 (.alt 14 (.take 15 .done) .no) .no) (.alt 13 (.alt 9 (.alt 14 (.take 15 .done) .no) .no) .no))) .no)) (.alt 11 (.take 12 (.alt 6 (.alt 9 (.alt 13 (.alt 14 (.take 15 .done) .no) .no) (.alt 13 (.alt 9 (.alt 14 (.take 15 .done) .no) .no) .no)) (.alt 13 (.alt 6 (.alt 9 (.alt 14 (.take 15 .done) .no) .no) .no) .no))) .no)) (.alt 11 (.take 12 (.alt 6 (.alt 8 (.alt 9 (.alt 13 (.alt 14 (.take 15 .done) .no) .no) (.alt 13 (.alt 9 (.alt 14 (.take 15 .done) .no) .no) .no)) (.alt 13 (.alt 8 (.alt 9 (.alt 14 (.take 15 .done) .no) .no) .no) .no)) (.alt 8 (.alt 6 (.alt 9 (.alt 13 (.alt 14 (.take 15 .done) .no) .no) (.alt 13 (.alt 9 (.alt 14 (.take 15 .done) .no) .no) .no)) (.alt 13 (.alt 6 (.alt 9 (.alt 14 (.take 15 .done) .no) .no) .no) .no)) (.alt 13 (.alt 6 (.alt 8 (.alt 9 (.alt 14 (.take 15 .done) .no) .no) .no) (.alt 8 (.alt 6 (.alt 9 (.alt 14 (.take 15 .done) .no) .no) .no) .no)) .no)))) .no))) (.alt 8 (.alt 5 (.alt 6 (.alt 9 (.alt 11 (.take 12 (.alt 13 (.alt 14 (.take 15 .done) .no) .no)) .no) (.alt 11 (.take 12 (.alt 9 (.alt 13 (.alt 14 (.take 15 .done) .no) .no) (.alt 13 (.alt 9 (.alt 14 (.take 15 .done) .no) .no) .no))) .no)) (.alt 11 (.take 12 (.alt 6 (.alt 9 (.alt 13 (.alt 14 (.take 15 .done) .no) .no) (.alt 13 (.alt 9 (.alt 14 (.take 15 .done) .no) .no) .no)) (.alt 13 (.alt 6 (.alt 9 (.alt 14 (.take 15 .done) .no) .no) .no) .no))) .no)) (.alt 11 (.take 12 (.alt 5 (.alt 6 (.alt 9 (.alt 13 (.alt 14 (.take 15 .done) .no) .no) (.alt 13 (.alt 9 (.alt 14 (.take 15 .done) .no) .no) .no)) (.alt 13 (.alt 6 (.alt 9 (.alt 14 (.take 15 .done) .no) .no) .no) .no)) (.alt 13 (.alt 5 (.alt 6 (.alt 9 (.alt 14 (.take 15 .done) .no) .no) .no) .no) .no))) .no)) (.alt 11 (.take 12 (.alt 5 (.alt 6 (.alt 8 (.alt 9 (.alt 13 (.alt 14 (.take 15 .done) .no) .no) (.alt 13 (.alt 9 (.alt 14 (.take 15 .done) .no) .no) .no)) (.alt 13 (.alt 8 (.alt 9 (.alt 14 (.take 15 .done) .no) .no) .no) .no)) (.alt 8 (.alt 6 (.alt 9 (.alt 13 (.alt 14 (.take 15 .done) .no) .no) (.alt 13 (.alt 9 (.alt 14 (.take 15 .done) .no) .no) .no)) (.alt 13 (.alt 6 (.alt 9 (.alt 14 (.take 15 .done) .no) .no) .no) .no)) (.alt 13 (.alt 6 (.alt 8 (.alt 9 (.alt 14 (.take 15 .done) .no) .no) .no) (.alt 8 (.alt 6 (.alt 9 (.alt 14 (.take 15 .done) .no) .no) .no) .no)) .no))) (.alt 8 (.alt 5 (.alt 6 (.alt 9 (.alt 13 (.alt 14 (.take 15 .done) .no) .no) (.alt 13 (.alt 9 (.alt 14 (.take 15 .done) .no) .no) .no)) (.alt 13 (.alt 6 (.alt 9 (.alt 14 (.take 15 .done) .no) .no) .no) .no)) (.alt 13 (.alt 5 (.alt 6 (.alt 9 (.alt 14 (.take 15 .done) .no) .no) .no) .no) .no)) (.alt 13 (.alt 5 (.alt 6 (.alt 8 (.alt 9 (.alt 14 (.take 15 .done) .no) .no) .no) (.alt 8 (.alt 6 (.alt 9 (.alt 14 (.take 15 .done) .no) .no) .no) .no)) (.alt 8 (.alt 5 (.alt 6 (.alt 9 (.alt 14 (.take 15 .done) .no) .no) .no) .no) .no)) .no)))) .no))))) (.alt 8 (.alt 2 (.take 3 (.take 4 (.alt 5 (.alt 6 (.alt 9 (.alt 11 (.take 12 (.alt 13 (.alt 14 (.take 15 .done) .no) .no)) .no) (.alt 11 (.take 12 (.alt 9 (.alt 13 (.alt 14 (.take 15 .done) .no) .no) (.alt 13 (.alt 9 (.alt 14 (.take 15 .done) .no) .no) .no))) .no)) (.alt 11 (.take 12 (.alt 6 (.alt 9 (.alt 13 (.alt 14 (.take 15 .done) .no) .no) (.alt 13 (.alt 9 (.alt 14 (.take 15 .done) .no) .no) .no)) (.alt 13 (.alt 6 (.alt 9 (.alt 14 (.take 15 .done) .no) .no) .no) .no))) .no)) (.alt 11 (.take 12 (.alt 5 (.alt 6 (.alt 9 (.alt 13 (.alt 14 (.take 15 .done) .no) .no) (.alt 13 (.alt 9 (.alt 14 (.take 15 .done) .no) .no) .no)) (.alt 13 (.alt 6 (.alt 9 (.alt 14 (.take 15 .done) .no) .no) .no) .no)) (.alt 13 (.alt 5 (.alt 6 (.alt 9 (.alt 14 (.take 15 .done) .no) .no) .no) .no) .no))) .no)))) (.alt 11 (.take 12 (.alt 2 (.take 3 (.take 4 (.alt 5 (.alt 6 (.alt 9 (.alt 13 (.alt 14 (.take 15 .done) .no) .no) (.alt 13 (.alt 9 (.alt 14 (.take 15 .done) .no) .no) .no)) (.alt 13 (.alt 6 (.alt 9 (.alt 14 (.take 15 .done) .no) .no) .no) .no)) (.alt 13 (.alt 5 (.alt 6 (.alt 9 (.alt 14 (.take 15 .done) .no) .no) .no) .no) .no)))) (.alt 13 (.alt 2 (.take 3 (.take 4 (.alt 5 (.alt 6 (.alt 9 (.alt 14 (.take 15 .done) .no) .no) .no) .no))) .no) .no))) .no)) (.alt 11 (.take 12 (.alt 2 (.take 3 (.take 4 (.alt 5 (.alt 6 (.alt 8 (.alt 9 (.alt 13 (.alt 14 (.take 15 .done) .no) .no) (.alt 13 (.alt 9 (.alt 14 (.take 15 .done) .no) .no) .no)) (.alt 13 (.alt 8 (.alt 9 (.alt 14 (.take 15 .done) .no) .no) .no) .no)) (.alt 8 (.alt 6 (.alt 9 (.alt 13 (.alt 14 (.take 15 .done) .no) .no) (.alt 13 (.alt 9 (.alt 14 (.take 15 .done) .no) .no) .no)) (.alt 13 (.alt 6 (.alt 9 (.alt 14 (.take 15 .done) .no) .no) .no) .no)) (.alt 13 (.alt 6 (.alt 8 (.alt 9 (.alt 14 (.take 15 .done) .no) .no) .no) (.alt 8 (.alt 6 (.alt 9 (.alt 14 (.take 15 .done) .no) .no) .no) .no)) .no))) (.alt 8 (.alt 5 (.alt 6 (.alt 9 (.alt 13 (.alt 14 (.take 15 .done) .no) .no) (.alt 13 (.alt 9 (.alt 14 (.take 15 .done) .no) .no) .no)) (.alt 13 (.alt 6 (.alt 9 (.alt 14 (.take 15 .done) .no) .no) .no) .no)) (.alt 13 (.alt 5 (.alt 6 (.alt 9 (.alt 14 (.take 15 .done) .no) .no) .no) .no) .no)) (.alt 13 (.alt 5 (.alt 6 (.alt 8 (.alt 9 (.alt 14 (.take 15 .done) .no) .no) .no) (.alt 8 (.alt 6 (.alt 9 (.alt 14 (.take 15 .done) .no) .no) .no) .no)) (.alt 8 (.alt 5 (.alt 6 (.alt 9 (.alt 14 (.take 15 .done) .no) .no) .no) .no) .no)) .no))))) (.alt 8 (.alt 2 (.take 3 (.take 4 (.alt 5 (.alt 6 (.alt 9 (.alt 13 (.alt 14 (.take 15 .done) .no) .no) (.alt 13 (.alt 9 (.alt 14 (.take 15 .done) .no) .no) .no)) (.alt 13 (.alt 6 (.alt 9 (.alt 14 (.take 15 .done) .no) .no) .no) .no)) (.alt 13 (.alt 5 (.alt 6 (.alt 9 (.alt 14 (.take 15 .done) .no) .no) .no) .no) .no)))) (.alt 13 (.alt 2 (.take 3 (.take 4 (.alt 5 (.alt 6 (.alt 9 (.alt 14 (.take 15 .done) .no) .no) .no) .no))) .no) .no)) (.alt 13 (.alt 2 (.take 3 (.take 4 (.alt 5 (.alt 6 (.alt 8 (.alt 9 (.alt 14 (.take 15 .done) .no) .no) .no) (.alt 8 (.alt 6 (.alt 9 (.alt 14 (.take 15 .done) .no) .no) .no) .no)) (.alt 8 (.alt 5 (.alt 6 (.alt 9 (.alt 14 (.take 15 .done) .no) .no) .no) .no) .no)))) (.alt 8 (.alt 2 (.take 3 (.take 4 (.alt 5 (.alt 6 (.alt 9 (.alt 14 (.take 15 .done) .no) .no) .no) .no))) .no) .no)) .no)))) .no))))))) | false => .done), fun i => (match decide (i = 8) with | true => some [false, false, true, false, true, false, false, false, false, false, false, false, false, false, false, false, false, false, false, true, true, true, false, false, false, false, false, false, false, false, false, false, false, false, false, false, false, false, false, false, false, false, false] | false => none), fun i => false, fun i => [], fun i => false, fun i => none⟩
def τ_i_PackSignature : Env := Env.of [(2, (.int .i64)), (3, (.int .i64)), (4, .bool), (5, (.int .u8)), (9, .str), (27, (.sl (.int .u8))), (28, (.sl (.pair .str (.pair (.int .i64) .unit)))), (30, (.pair (.sl (.pair .str (.pair (.int .i64) .unit))) .unit)), (141, (.pair (.int .i64) (.pair (.sl (.int .u8)) .unit))), (175, (.pair .str (.pair (.int .i64) .unit)))] [] []

theorem ct_i_PackSignature (s : (List ((List Int) × (Int) × Unit)) × Unit) : Ct pg 186 [.dat (.pair (.sl (.pair .str (.pair (.int .i64) .unit))) .unit) s] ⟨[Q_i_PackSignature s], [⟨(.pair (.int .i64) (.pair (.sl (.int .u8)) .unit)), (.pr .sh (.pr (.ow .sh) .sh)), F_i_PackSignature s⟩], []⟩ := by
  refine ct_claim (O := O_i_PackSignature) (τ := τ_i_PackSignature) (EnvOk.of (by kernel_rfl) (by kernel_rfl)) (GOk.of (.cons ok_i_SignatureFault .nil : AllOk pg [(69, con_i_SignatureFault)])) mixed (Enters.of (by kernel_rfl)) (fn := Go.Proofs.Tryz.f186) (by kernel_rfl) rfl (by kernel_rfl) ?_
  intro hp hw
  have hq : Q_i_PackSignature s := hp _ (List.mem_singleton.2 rfl)
  clear hp
  change claim Lg.std Alg.std τ_i_PackSignature (Gam.of [(69, ⟨true, g1 (pD (.pair (.sl (.pair .str (.pair (.int .i64) .unit))) .unit)) fun s => .one ⟨[Q_i_SignatureFault s], [⟨(.int .i64), .sh, F_i_SignatureFault s⟩], []⟩, [], false, 0⟩)]) O_i_PackSignature Go.Proofs.Tryz.f186 [.dat (.pair (.sl (.pair .str (.pair (.int .i64) .unit))) .unit) s] ⟨[Q_i_PackSignature s], [⟨(.pair (.int .i64) (.pair (.sl (.int .u8)) .unit)), (.pr .sh (.pr (.ow .sh) .sh)), F_i_PackSignature s⟩], []⟩
  generalize hg_F_i_SignatureFault : F_i_SignatureFault = g_F_i_SignatureFault
  generalize hg_Q_i_SignatureFault : Q_i_SignatureFault = g_Q_i_SignatureFault
  generalize hR0 : F_i_PackSignature s = R0
  generalize Q_i_PackSignature s = Q0
  generalize hL : Lg.std = L
  generalize hA : Alg.std = A
  cbv
  subst hL hA
  try dsimp only [Ty.den]
  obtain ⟨s_0, ⟨⟩⟩ := s
  have hgood0 : sigFault (s_0, ()) = 0 ∨ sigFault (s_0, ()) ≠ 0 := Classical.em _
  repeat' (first | intro _ | apply And.intro)
  all_goals first | trivial | ((fail_if_success (refine lp_v (V := Unit) (fun _ => ⟨[], []⟩) (fun _ => True) (fun _ => 0) () ?_ ?_ ?_)); subst hR0 hg_F_i_SignatureFault hg_Q_i_SignatureFault; (try simp only [Alg.std, F_i_SignatureFault, Q_i_SignatureFault, F_i_PackSignature] at *); all_goals grind) | skip
  all_goals (
    refine lp_v (V := (Int) × (Int) × (Nat) × (List Int)) (fun ((i, M, N, xs) : (Int) × (Int) × (Nat) × (List Int)) => ⟨[.junk, .junk, .bptr 0 0, .junk, .ref (.int .u8) 1 0 [] 0 N, .junk, .junk, .junk, .junk, .junk, .junk, .junk, .junk, .junk, .junk, .junk, .junk, .junk, .junk, .dat (.sl (.pair .str (.pair (.int .i64) .unit))) s_0, .dat (.int .i64) M, .dat (.int .i64) i, .junk, .junk, .junk, .junk, .junk, .junk, .junk, .junk, .junk, .junk, .junk, .junk, .junk, .junk, .junk, .junk, .junk, .junk, .junk, .junk, .junk], [some (.box [.dat (.int .i64) 0, .nilS]), some (.row 0 (.int .u8) .sh xs)]⟩) (fun ((i, M, N, xs) : (Int) × (Int) × (Nat) × (List Int)) => M = s_0.length ∧ N = xs.length ∧ 0 ≤ i ∧ i ≤ s_0.length ∧ xs.length ≤ 1 + 5 * i ∧ xs ++ packSyms (s_0.drop i.toNat) = packSig (s_0, ()) ∧ sigFault (s_0, ()) = 0) (fun ((i, M, N, xs) : (Int) × (Int) × (Nat) × (List Int)) => s_0.length - i.toNat) (0, _, _, _) rfl ?_ ?_
    · (subst_vars; simp [Alg.std, wrap8, packSig, F_i_SignatureFault, Q_i_SignatureFault, F_i_PackSignature] at *; assumption)
    rintro ⟨i, M, N, xs⟩ hf I hI
    replace hf : M = s_0.length ∧ N = xs.length ∧ 0 ≤ i ∧ i ≤ s_0.length ∧ xs.length ≤ 1 + 5 * i ∧ xs ++ packSyms (s_0.drop i.toNat) = packSig (s_0, ()) ∧ sigFault (s_0, ()) = 0 := hf
    generalize hL : Lg.std = L
    generalize hA : Alg.std = A
    cbv
    subst hL hA
    try dsimp only [Ty.den]
    subst hI
    have hgood : sigFault (s_0, ()) = 0 := hf.2.2.2.2.2.2
    obtain ⟨h1, h2, h3, h4, h5, h6, h7⟩ := hf
    have hok := hgood
    have hl6 := (sig_good (s_0, ()) hok).1
    dsimp only at hl6
    have st := fun (h : i.toNat < s_0.length) => ps_step s_0 i.toNat h
    have en := fun (h : s_0.length ≤ i.toNat) => ps_end s_0 i.toNat h
    have ha := fun (h : i.toNat < s_0.length) => sig_at (s_0, ()) hok i.toNat h
    try dsimp only [symD] at st ha
    have hsu : (i + 1).toNat = i.toNat + 1 := by omega
    repeat' (first | intro _ | apply And.intro)
    all_goals first | (with_reducible exact True.intro) | ((fail_if_success (refine lp_v (V := Unit) (fun _ => ⟨[], []⟩) (fun _ => True) (fun _ => 0) () ?_ ?_ ?_)); (try simp only [Lg.std, Alg.std, List.drop_zero, List.take_length] at *); (try refine ⟨(_, _, _, _), rfl, ?_, ?_⟩); (all_goals (subst hR0 hg_F_i_SignatureFault hg_Q_i_SignatureFault; (try simp only [Lg.std, Alg.std, List.drop_zero, List.take_length, F_i_SignatureFault, Q_i_SignatureFault, F_i_PackSignature] at *); first | done | ((try generalize s_0.getD i.toNat (0, [], ()) = xa at *); (try obtain ⟨xa0, xa1, ⟨⟩⟩ := xa); (try dsimp only at *); grind [wrap8])))) | skip)
def con_i_PackSignature : Con := ⟨true, g1 (pD (.pair (.sl (.pair .str (.pair (.int .i64) .unit))) .unit)) fun s => .one ⟨[Q_i_PackSignature s], [⟨(.pair (.int .i64) (.pair (.sl (.int .u8)) .unit)), (.pr .sh (.pr (.ow .sh) .sh)), F_i_PackSignature s⟩], []⟩, [], false, 0⟩
theorem ok_i_PackSignature : ConOk pg 186 con_i_PackSignature := ConOk.g1 (Enters.of (by kernel_rfl)) ct_i_PackSignature

def F_s_l2Pack (s : (List ((List Int) × (Int) × Unit)) × Unit) : List (Int) := packSig s
def Q_s_l2Pack (s : (List ((List Int) × (Int) × Unit)) × Unit) : Prop := sigFault s = 0
def O_s_l2Pack : Opt := ⟨fun i => false, fun i => (match decide (i = 3) with | true => [true, false, false, true, true, false, false, false, false, false, false, false, false, false, false, false, false, false, false, false, false, false, false, false, false, false, false, false, false, false, false, false, false, false, false, false, false, false, false, false, false, false, false, false, false, false, false, false, false, false, false, false, false, false, false, false, false] | false => []), fun i => .done, fun i => none, fun i => false, fun i => [], fun i => false, fun i => none⟩
def τ_s_l2Pack : Env := Env.of [(2, (.int .i64)), (3, (.int .i64)), (4, .bool), (5, (.int .u8)), (9, .str), (27, (.sl (.int .u8))), (28, (.sl (.pair .str (.pair (.int .i64) .unit)))), (30, (.pair (.sl (.pair .str (.pair (.int .i64) .unit))) .unit)), (175, (.pair .str (.pair (.int .i64) .unit)))] [(113, (.pair (.sl (.pair .str (.pair (.int .i64) .unit))) .unit))] []

theorem ct_s_l2Pack (s : (List ((List Int) × (Int) × Unit)) × Unit) : Ct pg 199 [.dptr (.pair (.sl (.pair .str (.pair (.int .i64) .unit))) .unit) s] ⟨[Q_s_l2Pack s], [⟨(.sl (.int .u8)), (.ow .sh), F_s_l2Pack s⟩], []⟩ := by
  refine ct_claim (O := O_s_l2Pack) (τ := τ_s_l2Pack) (EnvOk.of (by kernel_rfl) (by kernel_rfl)) (GOk.of (.nil : AllOk pg [])) mixed (Enters.of (by kernel_rfl)) (fn := Go.Proofs.Tryz.f199) (by kernel_rfl) rfl (by kernel_rfl) ?_
  intro hp hw
  have hq : Q_s_l2Pack s := hp _ (List.mem_singleton.2 rfl)
  clear hp
  change claim Lg.std Alg.std τ_s_l2Pack (Gam.of []) O_s_l2Pack Go.Proofs.Tryz.f199 [.dptr (.pair (.sl (.pair .str (.pair (.int .i64) .unit))) .unit) s] ⟨[Q_s_l2Pack s], [⟨(.sl (.int .u8)), (.ow .sh), F_s_l2Pack s⟩], []⟩
  generalize hR0 : F_s_l2Pack s = R0
  generalize Q_s_l2Pack s = Q0
  generalize hL : Lg.std = L
  generalize hA : Alg.std = A
  cbv
  subst hL hA
  try dsimp only [Ty.den]
  obtain ⟨s_0, ⟨⟩⟩ := s
  simp only [Q_s_l2Pack] at hq
  refine lp_v (V := (Int) × (Nat) × (List Int)) (fun ((i, N, xs) : (Int) × (Nat) × (List Int)) => ⟨[.dptr (.pair (.sl (.pair .str (.pair (.int .i64) .unit))) .unit) (s_0, PUnit.unit), .junk, .junk, .ref (.int .u8) 0 0 [] 0 N, .dat (.int .i64) i, .junk, .junk, .junk, .junk, .junk, .junk, .junk, .junk, .junk, .junk, .junk, .junk, .junk, .junk, .junk, .junk, .junk, .junk, .junk, .junk, .junk, .junk, .junk, .junk, .junk, .junk, .junk, .junk, .junk, .junk, .junk, .junk, .junk, .junk, .junk, .junk, .junk, .junk, .junk, .junk, .junk, .junk, .junk, .junk, .junk, .junk, .junk, .junk, .junk, .junk, .junk, .junk], [some (.row 0 (.int .u8) .sh xs)]⟩) (fun ((i, N, xs) : (Int) × (Nat) × (List Int)) => N = xs.length ∧ 0 ≤ i ∧ i ≤ s_0.length ∧ xs.length ≤ 1 + 5 * i ∧ xs ++ packSyms (s_0.drop i.toNat) = packSig (s_0, ())) (fun ((i, N, xs) : (Int) × (Nat) × (List Int)) => s_0.length - i.toNat) (0, _, _) rfl ?_ ?_
  · simp [Alg.std, wrap8, packSig]
  rintro ⟨i, N, xs⟩ hf I hI
  replace hf : N = xs.length ∧ 0 ≤ i ∧ i ≤ s_0.length ∧ xs.length ≤ 1 + 5 * i ∧ xs ++ packSyms (s_0.drop i.toNat) = packSig (s_0, ()) := hf
  generalize hL : Lg.std = L
  generalize hA : Alg.std = A
  cbv
  subst hL hA
  try dsimp only [Ty.den]
  subst hI
  obtain ⟨h1, h2, h3, h4, h5⟩ := hf
  have hok := hq
  have hl6 := (sig_good (s_0, ()) hok).1
  dsimp only at hl6
  have st := fun (h : i.toNat < s_0.length) => ps_step s_0 i.toNat h
  have en := fun (h : s_0.length ≤ i.toNat) => ps_end s_0 i.toNat h
  have ha := fun (h : i.toNat < s_0.length) => sig_at (s_0, ()) hok i.toNat h
  try dsimp only [symD] at st ha
  have hsu : (i + 1).toNat = i.toNat + 1 := by omega
  repeat' (first | intro _ | apply And.intro)
  all_goals first | (with_reducible exact True.intro) | ((fail_if_success (refine lp_v (V := Unit) (fun _ => ⟨[], []⟩) (fun _ => True) (fun _ => 0) () ?_ ?_ ?_)); (try simp only [Lg.std, Alg.std, List.drop_zero, List.take_length] at *); (try refine ⟨(_, _, _), rfl, ?_, ?_⟩); (all_goals (subst hR0; (try simp only [Lg.std, Alg.std, List.drop_zero, List.take_length, F_s_l2Pack] at *); first | done | ((try generalize s_0.getD i.toNat (0, [], ()) = xa at *); (try obtain ⟨xa0, xa1, ⟨⟩⟩ := xa); (try dsimp only at *); grind [wrap8])))) | skip
def con_s_l2Pack : Con := ⟨true, g1 (pP (.pair (.sl (.pair .str (.pair (.int .i64) .unit))) .unit)) fun s => .one ⟨[Q_s_l2Pack s], [⟨(.sl (.int .u8)), (.ow .sh), F_s_l2Pack s⟩], []⟩, [], false, 0⟩
theorem ok_s_l2Pack : ConOk pg 199 con_s_l2Pack := ConOk.g1 (Enters.of (by kernel_rfl)) ct_s_l2Pack

def F_i_byteReader_signature (r : (List (Int)) × (Bool) × Unit) : (List ((List Int) × (Int) × Unit)) × Unit := ((sigRd r).1, ())
def B_i_byteReader_signature_r (r : (List (Int)) × (Bool) × Unit) : (List (Int)) × (Bool) × Unit := (sigRd r).2
def Q_i_byteReader_signature (r : (List (Int)) × (Bool) × Unit) : Prop := True
def O_i_byteReader_signature : Opt := ⟨fun i => false, fun i => (match decide (i = 3) with | true => [true, false, true, true, false, false, false, true, true, false, false, false, false, false, false, false, false, false, false, false, false, false, false, false, false, false, false, false, false, false] | false => []), fun i => (match decide (i = 6) with | true => (.take 0 (.take 2 (.take 3 (.alt 1 (.alt 4 (.take 5 (.alt 6 (.alt 7 (.take 8 (.alt 9 .done .no)) .no) .no)) .no) (.alt 4 (.take 5 (.alt 1 (.alt 6 (.alt 7 (.take 8 (.alt 9 .done .no)) .no) .no) (.alt 6 (.take 1 (.alt 7 (.take 8 (.alt 9 .done .no)) .no)) .no))) .no))))) | false => .done), fun i => none, fun i => (match decide (i = 3) with | true => true | false => false), fun i => (match decide (i = 3) with | true => [(3, some 0, (.pair .str (.pair (.int .i64) .unit)), (.pr .sh (.pr .sh .sh)))] | false => []), fun i => false, fun i => none⟩
def τ_i_byteReader_signature : Env := Env.of [(2, (.int .i64)), (3, (.int .i64)), (4, .bool), (9, .str), (27, (.sl (.int .u8))), (28, (.sl (.pair .str (.pair (.int .i64) .unit)))), (30, (.pair (.sl (.pair .str (.pair (.int .i64) .unit))) .unit)), (117, (.pair (.sl (.int .u8)) (.pair .bool .unit))), (175, (.pair .str (.pair (.int .i64) .unit)))] [(115, (.pair (.sl (.int .u8)) (.pair .bool .unit)))] []

theorem ct_i_byteReader_signature (r : (List (Int)) × (Bool) × Unit) : Ct pg 121 [.mp (.pair (.sl (.int .u8)) (.pair .bool .unit)) .sh r] ⟨[Q_i_byteReader_signature r], [⟨(.pair (.sl (.pair .str (.pair (.int .i64) .unit))) .unit), (.pr (.ow (.pr .sh (.pr .sh .sh))) .sh), F_i_byteReader_signature r⟩], [.mp (.pair (.sl (.int .u8)) (.pair .bool .unit)) .sh (B_i_byteReader_signature_r r)]⟩ := by
  refine ct_claim (O := O_i_byteReader_signature) (τ := τ_i_byteReader_signature) (EnvOk.of (by kernel_rfl) (by kernel_rfl)) (GOk.of (.cons ok_i_byteReader_take (.cons ok_i_byteReader_one .nil) : AllOk pg [(120, con_i_byteReader_take), (95, con_i_byteReader_one)])) mixed (Enters.of (by kernel_rfl)) (fn := Go.Proofs.Tryz.f121) (by kernel_rfl) rfl (by kernel_rfl) ?_
  intro hp hw
  have hq : Q_i_byteReader_signature r := hp _ (List.mem_singleton.2 rfl)
  clear hp
  change claim Lg.std Alg.std τ_i_byteReader_signature (Gam.of [(120, ⟨true, g2 (pW (.pair (.sl (.int .u8)) (.pair .bool .unit)) .sh) (pD (.int .i64)) fun r n => .one ⟨[Q_i_byteReader_take r n], [⟨(.sl (.int .u8)), .sh, F_i_byteReader_take r n⟩], [.mp (.pair (.sl (.int .u8)) (.pair .bool .unit)) .sh (B_i_byteReader_take_r r n)]⟩, [.sh], false, 0⟩), (95, ⟨true, g1 (pW (.pair (.sl (.int .u8)) (.pair .bool .unit)) .sh) fun r => .one ⟨[Q_i_byteReader_one r], [⟨(.int .i64), .sh, F_i_byteReader_one r⟩], [.mp (.pair (.sl (.int .u8)) (.pair .bool .unit)) .sh (B_i_byteReader_one_r r)]⟩, [.sh], false, 0⟩)]) O_i_byteReader_signature Go.Proofs.Tryz.f121 [.mp (.pair (.sl (.int .u8)) (.pair .bool .unit)) .sh r] ⟨[Q_i_byteReader_signature r], [⟨(.pair (.sl (.pair .str (.pair (.int .i64) .unit))) .unit), (.pr (.ow (.pr .sh (.pr .sh .sh))) .sh), F_i_byteReader_signature r⟩], [.mp (.pair (.sl (.int .u8)) (.pair .bool .unit)) .sh (B_i_byteReader_signature_r r)]⟩
  generalize hg_F_i_byteReader_take : F_i_byteReader_take = g_F_i_byteReader_take
  generalize hg_B_i_byteReader_take_r : B_i_byteReader_take_r = g_B_i_byteReader_take_r
  generalize hg_Q_i_byteReader_take : Q_i_byteReader_take = g_Q_i_byteReader_take
  generalize hg_F_i_byteReader_one : F_i_byteReader_one = g_F_i_byteReader_one
  generalize hg_B_i_byteReader_one_r : B_i_byteReader_one_r = g_B_i_byteReader_one_r
  generalize hg_Q_i_byteReader_one : Q_i_byteReader_one = g_Q_i_byteReader_one
  generalize hR0 : F_i_byteReader_signature r = R0
  generalize hB_r : B_i_byteReader_signature_r r = B_r
  generalize Q_i_byteReader_signature r = Q0
  generalize hL : Lg.std = L
  generalize hA : Alg.std = A
  cbv
  subst hL hA
  try dsimp only [Ty.den]
  obtain ⟨r_0, r_1, ⟨⟩⟩ := r
  have hby := u8s hw.1.1.2
  generalize g0 : g_B_i_byteReader_one_r (r_0, r_1, PUnit.unit) = r0 at *
  obtain ⟨x0, f0, ⟨⟩⟩ := r0
  try dsimp only
  repeat' (first | intro _ | apply And.intro)
  all_goals first | trivial | ((fail_if_success (refine lp_v (V := Unit) (fun _ => ⟨[], []⟩) (fun _ => True) (fun _ => 0) () ?_ ?_ ?_)); subst hR0 hB_r hg_F_i_byteReader_take hg_B_i_byteReader_take_r hg_Q_i_byteReader_take hg_F_i_byteReader_one hg_B_i_byteReader_one_r hg_Q_i_byteReader_one; (try simp only [Alg.std, F_i_byteReader_take, F_i_byteReader_one, B_i_byteReader_take_r, B_i_byteReader_one_r, Q_i_byteReader_take, Q_i_byteReader_one, F_i_byteReader_signature, B_i_byteReader_signature_r] at *); all_goals grind) | skip
  refine lp_v (V := (Int) × (Int) × (List Int) × (Bool) × (List ((List Int) × (Int) × Unit)) × (Nat)) (fun ((i, c, x, f, L, N) : (Int) × (Int) × (List Int) × (Bool) × (List ((List Int) × (Int) × Unit)) × (Nat)) => ⟨[.bptr 0 0, .junk, .bptr 1 0, .bptr 2 0, .junk, .junk, .junk, .dat (.int .i64) c, .dat (.int .i64) i, .junk, .junk, .junk, .junk, .junk, .junk, .junk, .junk, .junk, .junk, .junk, .junk, .junk, .junk, .junk, .junk, .junk, .junk, .junk, .junk, .junk], [some (.box [.dat (.sl (.int .u8)) x, .dat .bool f]), some (.box [.nilS]), some (.box [.ref (.pair .str (.pair (.int .i64) .unit)) 3 0 [] 0 N]), some (.row 0 (.pair .str (.pair (.int .i64) .unit)) (.pr .sh (.pr .sh .sh)) L), some (.gh [.bptr 0 0])]⟩) (fun ((i, c, x, f, L, N) : (Int) × (Int) × (List Int) × (Bool) × (List ((List Int) × (Int) × Unit)) × (Nat)) => 0 ≤ i ∧ i ≤ c ∧ c ≤ 255 ∧ N = L.length ∧ L.length ≤ i ∧ (∀ y ∈ x, 0 ≤ y ∧ y ≤ 255) ∧ sigLoop (c - i).toNat (x, f, ()) L = sigRd (r_0, r_1, ())) (fun ((i, c, x, f, L, N) : (Int) × (Int) × (List Int) × (Bool) × (List ((List Int) × (Int) × Unit)) × (Nat)) => (c - i).toNat) (0, _, _, _, _, _) rfl ?_ ?_
  · subst hR0 hB_r hg_F_i_byteReader_take hg_B_i_byteReader_take_r hg_Q_i_byteReader_take hg_F_i_byteReader_one hg_B_i_byteReader_one_r hg_Q_i_byteReader_one
    simp only [Alg.std, F_i_byteReader_take, F_i_byteReader_one, B_i_byteReader_take_r, B_i_byteReader_one_r, Q_i_byteReader_take, Q_i_byteReader_one, F_i_byteReader_signature, B_i_byteReader_signature_r] at *
    have e2 := rdOne_byte r_0 r_1 hby
    have e3 := rdNext_bytes r_0 r_1 1 x0 f0 g0 hby
    have e5 : rdOne (r_0, r_1, ()) - 0 = rdOne (r_0, r_1, ()) := by omega
    simp only [sigRd, g0]
    grind
  rintro ⟨i, c, x, f, L, N⟩ hf I hI
  replace hf : 0 ≤ i ∧ i ≤ c ∧ c ≤ 255 ∧ N = L.length ∧ L.length ≤ i ∧ (∀ y ∈ x, 0 ≤ y ∧ y ≤ 255) ∧ sigLoop (c - i).toNat (x, f, ()) L = sigRd (r_0, r_1, ()) := hf
  generalize hL : Lg.std = L
  generalize hA : Alg.std = A
  cbv
  subst hL hA
  try dsimp only [Ty.den]
  subst hI
  generalize g1 : g_B_i_byteReader_one_r (x, f, PUnit.unit) = r1 at *
  obtain ⟨x1, f1, ⟨⟩⟩ := r1
  try dsimp only
  generalize g2 : g_B_i_byteReader_take_r (x1, f1, PUnit.unit) (g_F_i_byteReader_one (x, f, PUnit.unit)) = r2 at *
  obtain ⟨x2, f2, ⟨⟩⟩ := r2
  try dsimp only
  generalize g3 : g_B_i_byteReader_one_r (x2, f2, PUnit.unit) = r3 at *
  obtain ⟨x3, f3, ⟨⟩⟩ := r3
  try dsimp only
  obtain ⟨h1, h2, h3, h4, h5, h6, h7⟩ := hf
  repeat' (first | intro _ | apply And.intro)
  all_goals first | (with_reducible exact True.intro) | ((fail_if_success (refine lp_v (V := Unit) (fun _ => ⟨[], []⟩) (fun _ => True) (fun _ => 0) () ?_ ?_ ?_)); (try simp only [Lg.std, Alg.std, List.drop_zero, List.take_length] at *); (try refine ⟨(_, _, _, _, _, _), rfl, ?_, ?_⟩); (all_goals (subst hR0 hB_r hg_F_i_byteReader_take hg_B_i_byteReader_take_r hg_Q_i_byteReader_take hg_F_i_byteReader_one hg_B_i_byteReader_one_r hg_Q_i_byteReader_one; (try simp only [Lg.std, Alg.std, List.drop_zero, List.take_length, F_i_byteReader_take, F_i_byteReader_one, B_i_byteReader_take_r, B_i_byteReader_one_r, Q_i_byteReader_take, Q_i_byteReader_one, F_i_byteReader_signature, B_i_byteReader_signature_r] at *); first | done | (have rr := sg_round (c - i).toNat x f L x1 f1 x2 f2 x3 f3 h6 g1 g2 g3; have tl := rdTake_len (x1, f1, ()) (rdOne (x, f, ())) (rdOne_byte x f h6).1; have es : (c - (i + 1)).toNat = (c - i).toNat - 1 := (by omega); have ez := sl_zero (x, f, ()) L; have ec : i = c → (c - i).toNat = 0 := (fun h => by omega); grind)))) | skip
def con_i_byteReader_signature : Con := ⟨true, g1 (pW (.pair (.sl (.int .u8)) (.pair .bool .unit)) .sh) fun r => .one ⟨[Q_i_byteReader_signature r], [⟨(.pair (.sl (.pair .str (.pair (.int .i64) .unit))) .unit), (.pr (.ow (.pr .sh (.pr .sh .sh))) .sh), F_i_byteReader_signature r⟩], [.mp (.pair (.sl (.int .u8)) (.pair .bool .unit)) .sh (B_i_byteReader_signature_r r)]⟩, [.sh], false, 0⟩
theorem ok_i_byteReader_signature : ConOk pg 121 con_i_byteReader_signature := ConOk.g1 (Enters.of (by kernel_rfl)) ct_i_byteReader_signature

def F_s_l2Read (data : List (Int)) : (List ((List Int) × (Int) × Unit)) × Unit := (l2Read data).1
def F_s_l2Read_1 (data : List (Int)) : Int := (l2Read data).2
def Q_s_l2Read (data : List (Int)) : Prop := data.length ≤ 1048576
def O_s_l2Read : Opt := ⟨fun i => false, fun i => (match decide (i = 7) with | true => [true, false, true, false, true, true, true, true, false, false, false, false, false, false, false, false, false, false, false, false, false, false, false, false, false, false, false, false, false, false, false, false, false, false, false, false, false, false, false, false, false, false, false, false, false, false, false, false, false, false, false, false, false, false, false, false, false, false, false, false, false, false, false, false, false, false, false, false, false, false, false, false, false, false, false, false, false, false] | false => []), fun i => (match decide (i = 14) with | true => (.take 0 (.take 2 (.take 3 (.take 4 (.take 5 (.take 6 (.take 7 (.take 8 (.take 9 (.take 11 (.take 12 (.take 13 (.take 14 (.take 15 (.take 16 (.alt 1 (.alt 10 (.alt 17 (.take 18 (.take 19 (.alt 20 (.alt 21 (.take 22 (.alt 23 .done .no)) .no) .no))) .no) (.alt 17 (.take 18 (.alt 10 (.take 19 (.alt 20 (.alt 21 (.take 22 (.alt 23 .done .no)) .no) .no)) .no)) .no)) (.alt 10 (.alt 1 (.alt 17 (.take 18 (.take 19 (.alt 20 (.alt 21 (.take 22 (.alt 23 .done .no)) .no) .no))) .no) (.alt 17 (.take 18 (.take 19 (.alt 1 (.alt 20 (.alt 21 (.take 22 (.alt 23 .done .no)) .no) .no) (.alt 20 (.take 1 (.alt 21 (.take 22 (.alt 23 .done .no)) .no)) .no)))) .no)) (.alt 17 (.take 18 (.alt 1 (.alt 10 (.take 19 (.alt 20 (.alt 21 (.take 22 (.alt 23 .done .no)) .no) .no)) .no) (.alt 10 (.take 19 (.alt 1 (.alt 20 (.alt 21 (.take 22 (.alt 23 .done .no)) .no) .no) (.alt 20 (.take 1 (.alt 21 (.take 22 (.alt 23 .done .no)) .no)) .no))) .no))) .no)))))))))))))))))) | false => .done), fun i => none, fun i => (match decide (i = 7) with | true => true | false => false), fun i => (match decide (i = 7) with | true => [(5, some 0, (.pair .str (.pair (.int .i64) .unit)), (.pr .sh (.pr .sh .sh)))] | false => []), fun i => false, fun i => none⟩
def τ_s_l2Read : Env := Env.of [(2, (.int .i64)), (3, (.int .i64)), (4, .bool), (5, (.int .u8)), (9, .str), (27, (.sl (.int .u8))), (28, (.sl (.pair .str (.pair (.int .i64) .unit)))), (30, (.pair (.sl (.pair .str (.pair (.int .i64) .unit))) .unit)), (175, (.pair .str (.pair (.int .i64) .unit)))] [] []

theorem ct_s_l2Read (data : List (Int)) : Ct pg 182 [.dat (.sl (.int .u8)) data] ⟨[Q_s_l2Read data], [⟨(.pair (.sl (.pair .str (.pair (.int .i64) .unit))) .unit), (.pr (.ow (.pr .sh (.pr .sh .sh))) .sh), F_s_l2Read data⟩, ⟨(.int .i64), .sh, F_s_l2Read_1 data⟩], []⟩ := by
  refine ct_claim (O := O_s_l2Read) (τ := τ_s_l2Read) (EnvOk.of (by kernel_rfl) (by kernel_rfl)) (GOk.of (.cons ok_s_SignatureFault .nil : AllOk pg [(66, con_s_SignatureFault)])) mixed (Enters.of (by kernel_rfl)) (fn := Go.Proofs.Tryz.f182) (by kernel_rfl) rfl (by kernel_rfl) ?_
  intro hp hw
  have hq : Q_s_l2Read data := hp _ (List.mem_singleton.2 rfl)
  clear hp
  change claim Lg.std Alg.std τ_s_l2Read (Gam.of [(66, ⟨true, g1 (pD (.pair (.sl (.pair .str (.pair (.int .i64) .unit))) .unit)) fun s => .one ⟨[Q_s_SignatureFault s], [⟨(.int .i64), .sh, F_s_SignatureFault s⟩], []⟩, [], false, 0⟩)]) O_s_l2Read Go.Proofs.Tryz.f182 [.dat (.sl (.int .u8)) data] ⟨[Q_s_l2Read data], [⟨(.pair (.sl (.pair .str (.pair (.int .i64) .unit))) .unit), (.pr (.ow (.pr .sh (.pr .sh .sh))) .sh), F_s_l2Read data⟩, ⟨(.int .i64), .sh, F_s_l2Read_1 data⟩], []⟩
  generalize hg_F_s_SignatureFault : F_s_SignatureFault = g_F_s_SignatureFault
  generalize hg_Q_s_SignatureFault : Q_s_SignatureFault = g_Q_s_SignatureFault
  generalize hR0 : F_s_l2Read data = R0
  generalize hR1 : F_s_l2Read_1 data = R1
  generalize Q_s_l2Read data = Q0
  generalize hL : Lg.std = L
  generalize hA : Alg.std = A
  cbv
  subst hL hA
  try dsimp only [Ty.den]
  simp only [Q_s_l2Read] at hq
  have hs0 := fun (h : data.length < 1) => (by unfold l2Read; rw [if_pos h] : l2Read data = (([], ()), 0))
  repeat' (first | intro _ | apply And.intro)
  all_goals first | trivial | ((fail_if_success (refine lp_v (V := Unit) (fun _ => ⟨[], []⟩) (fun _ => True) (fun _ => 0) () ?_ ?_ ?_)); subst hR0 hR1 hg_F_s_SignatureFault hg_Q_s_SignatureFault; (try simp only [Alg.std, F_s_SignatureFault, Q_s_SignatureFault, F_s_l2Read, F_s_l2Read_1] at *); all_goals grind) | skip
  all_goals (
    refine lp_v (V := (Int) × (Int) × (List ((List Int) × (Int) × Unit)) × (Nat)) (fun ((i, a, L, N) : (Int) × (Int) × (List ((List Int) × (Int) × Unit)) × (Nat)) => ⟨[.dat (.sl (.int .u8)) data, .junk, .bptr 0 0, .junk, .bptr 1 0, .bptr 2 0, .dat (.int .i64) a, .dat (.int .i64) i, .junk, .junk, .junk, .junk, .junk, .junk, .junk, .junk, .junk, .junk, .junk, .junk, .junk, .junk, .junk, .junk, .junk, .junk, .junk, .junk, .junk, .junk, .junk, .junk, .junk, .junk, .junk, .junk, .junk, .junk, .junk, .junk, .junk, .junk, .junk, .junk, .junk, .junk, .junk, .junk, .junk, .junk, .junk, .junk, .junk, .junk, .junk, .junk, .junk, .junk, .junk, .junk, .junk, .junk, .junk, .junk, .junk, .junk, .junk, .junk, .junk, .junk, .junk, .junk, .junk, .junk, .junk, .junk, .junk, .junk], [some (.box [.nilS]), some (.box [.nilS]), some (.box [.ref (.pair .str (.pair (.int .i64) .unit)) 3 0 [] 0 N]), some (.row 0 (.pair .str (.pair (.int .i64) .unit)) (.pr .sh (.pr .sh .sh)) L)]⟩) (fun ((i, a, L, N) : (Int) × (Int) × (List ((List Int) × (Int) × Unit)) × (Nat)) => 0 ≤ i ∧ i ≤ 7 ∧ N = L.length ∧ L.length ≤ i ∧ 1 ≤ a ∧ a ≤ data.length ∧ spLoop data (symsN data - i.toNat) a L = spLoop data (symsN data) 1 []) (fun ((i, a, L, N) : (Int) × (Int) × (List ((List Int) × (Int) × Unit)) × (Nat)) => 7 - i.toNat) (0, 1, _, _) rfl ?_ ?_
    · (simp [Alg.std] at *; omega)
    rintro ⟨i, a, L, N⟩ hf I hI
    replace hf : 0 ≤ i ∧ i ≤ 7 ∧ N = L.length ∧ L.length ≤ i ∧ 1 ≤ a ∧ a ≤ data.length ∧ spLoop data (symsN data - i.toNat) a L = spLoop data (symsN data) 1 [] := hf
    generalize hL : Lg.std = L
    generalize hA : Alg.std = A
    cbv
    subst hL hA
    try dsimp only [Ty.den]
    subst hI
    obtain ⟨h1, h2, h3, h4, h5, h6, h7⟩ := hf
    have hby := u8s hw.1.2
    have k1 := getD_byte data hby 0
    have k2 := getD_byte data hby a.toNat
    have hsn : symsN data = (min (data.getD 0 0) 7).toNat := rfl
    have st := spl_step data (symsN data - i.toNat) a L
    have ez := spl_zero data a L
    have es : symsN data - (i + 1).toNat = symsN data - i.toNat - 1 := by omega
    have e1 : (a + 1).toNat = a.toNat + 1 := by omega
    have e2 : (a + 1 + data.getD a.toNat 0).toNat = a.toNat + 1 + (data.getD a.toNat 0).toNat := by omega
    have e3 : (a + 1 + data.getD a.toNat 0).toNat - (a + 1).toNat = (data.getD a.toNat 0).toNat := by omega
    have e4 : (a + 1 + data.getD a.toNat 0 - (a + 1)).toNat = (data.getD a.toNat 0).toNat := by omega
    have hl1 : (1 : Int) ≤ (data.length : Int) := Int.le_trans h5 h6
    have hl2 : ¬ data.length < 1 := by omega
    have q1 := l2Read_none data hl2
    have q2 := l2Read_some data L a hl2
    repeat' (first | intro _ | apply And.intro)
    all_goals first | (with_reducible exact True.intro) | ((fail_if_success (refine lp_v (V := Unit) (fun _ => ⟨[], []⟩) (fun _ => True) (fun _ => 0) () ?_ ?_ ?_)); (try simp only [Lg.std, Alg.std, List.drop_zero, List.take_length] at *); (try refine ⟨(_, _, _, _), rfl, ?_, ?_⟩); (all_goals (subst hR0 hR1 hg_F_s_SignatureFault hg_Q_s_SignatureFault; (try simp only [Lg.std, Alg.std, List.drop_zero, List.take_length, F_s_SignatureFault, Q_s_SignatureFault, F_s_l2Read, F_s_l2Read_1] at *); first | done | (grind)))) | skip)
def con_s_l2Read : Con := ⟨true, g1 (pD (.sl (.int .u8))) fun data => .one ⟨[Q_s_l2Read data], [⟨(.pair (.sl (.pair .str (.pair (.int .i64) .unit))) .unit), (.pr (.ow (.pr .sh (.pr .sh .sh))) .sh), F_s_l2Read data⟩, ⟨(.int .i64), .sh, F_s_l2Read_1 data⟩], []⟩, [], false, 0⟩
theorem ok_s_l2Read : ConOk pg 182 con_s_l2Read := ConOk.g1 (Enters.of (by kernel_rfl)) ct_s_l2Read
end Go.Vee
