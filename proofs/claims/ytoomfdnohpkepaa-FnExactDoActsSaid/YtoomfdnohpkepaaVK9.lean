/-
  Contracts of functions of the program: what each returns for all arguments that its precondition lets in.
-/
import Derived.Test.YtoomfdnohpkepaaVK8
set_option linter.unusedSimpArgs false
set_option linter.unusedVariables false
set_option maxRecDepth 100000
set_option maxHeartbeats 4000000
set_option synthInstance.maxHeartbeats 4000000
set_option synthInstance.maxSize 20000
namespace Go.Vee
open Go
abbrev DiskT := List (List Int) × List PutT × Unit
abbrev zDisk : DiskT := ([], [], ())
theorem findG_range {α : Type} (p : α → Bool) : ∀ (l : List α) (k : Int), 0 ≤ k → findG p l k = -1 ∨ (k ≤ findG p l k ∧ findG p l k < k + l.length)
  | [], k, h => .inl rfl
  | x :: l, k, h => by
    by_cases hx : p x = true
    · right; simp [findG, hx]; omega
    · rcases findG_range p l (k + 1) (by omega) with h1 | h1
      · left; simp [findG, hx, h1]
      · right; simp [findG, hx]; omega
def writeD (d : DiskT) (n : Int) (data : List Int) : DiskT :=
  if 0 ≤ findG (fun x : PutT => decide (x.1 = n)) d.2.1 0 then (d.1, d.2.1.set (findG (fun x : PutT => decide (x.1 = n)) d.2.1 0).toNat ((d.2.1.getD (findG (fun x : PutT => decide (x.1 = n)) d.2.1 0).toNat putD).1, data, ()), ())
  else (d.1, d.2.1 ++ [(n, data, ())], ())
def firstNZ : List Int → Int
  | [] => 0
  | c :: l => if c ≠ 0 then c else firstNZ l
def writeFault (d : DiskT) (n : Int) (data : List Int) : Int := if ¬ (0 ≤ n ∧ n ≤ (d.1.length : Int) - 1) then 3 else if data.length ≠ 96 then 1 else 0
def writeSector (d : DiskT) (n : Int) (data : List Int) : Int × DiskT × Unit :=
  if diskFault d ≠ 0 then (diskFault d, zDisk, ()) else if writeFault d n data ≠ 0 then (writeFault d n data, zDisk, ()) else (0, writeD d n data, ())
abbrev tPut : Ty := .pair (.int .i64) (.pair (.sl (.int .u8)) .unit)
abbrev tDisk : Ty := .pair (.sl (.sl (.int .u8))) (.pair (.sl tPut) .unit)
theorem totL_append {α : Type} (f : α → Nat) (a b : List α) : totL f (a ++ b) = totL f a + totL f b := by
  induction a with
  | nil => simp [totL]
  | cons x l ih => simp [totL, ih]; omega
theorem totL_set {α : Type} (f : α → Nat) (v : α) : ∀ (a : List α) (i : Nat), totL f (a.set i v) ≤ totL f a + f v
  | [], i => by simp [totL]
  | x :: l, 0 => by simp [totL]; omega
  | x :: l, i + 1 => by have := totL_set f v l i; simp [totL]; omega
theorem totL_take {α : Type} (f : α → Nat) : ∀ (a : List α) (i : Nat), totL f (a.take i) ≤ totL f a
  | [], i => by simp
  | x :: l, 0 => by simp [totL]
  | x :: l, i + 1 => by have := totL_take f l i; simp [totL]; omega
theorem tot_disk (d : DiskT) : tot tDisk d = totL (tot (.sl (.int .u8))) d.1 + totL (tot tPut) d.2.1 := by simp [tot]
theorem tot_putv (p : PutT) : tot tPut p = p.2.1.length := by
  have := tot_int .u8 p.2.1
  simp only [tot] at this ⊢
  omega
theorem writeD_tot (d : DiskT) (n : Int) (data : List Int) : tot tDisk (writeD d n data) ≤ tot tDisk d + data.length + 1 := by
  unfold writeD
  split
  · rw [tot_disk, tot_disk]
    have := totL_set (tot tPut) ((d.2.1.getD (findG (fun x : PutT => decide (x.1 = n)) d.2.1 0).toNat putD).1, data, ()) d.2.1 (findG (fun x : PutT => decide (x.1 = n)) d.2.1 0).toNat
    rw [tot_putv] at this
    dsimp only at this ⊢
    omega
  · rw [tot_disk, tot_disk]
    dsimp only
    rw [totL_append]
    have : totL (tot tPut) [(n, data, ())] = 1 + data.length := by simp only [totL]; rw [tot_putv]; dsimp only; omega
    omega
theorem writeSector_tot (d : DiskT) (n : Int) (data : List Int) : tot tDisk (writeSector d n data).2.1 ≤ tot tDisk d + data.length + 1 := by
  unfold writeSector
  split
  · simp [tot, totL]
  · split
    · simp [tot, totL]
    · exact writeD_tot d n data
/-- A disk without fault. -/
def GoodD (d : DiskT) : Prop := (8 ≤ d.1.length ∧ d.1.length ≤ 64) ∧ (∀ i, i < d.1.length → (d.1.getD i []).length = 96) ∧ d.2.1.length ≤ d.1.length ∧ ∀ i, i < d.2.1.length → 0 ≤ (d.2.1.getD i putD).1 ∧ (d.2.1.getD i putD).1 ≤ (d.1.length : Int) - 1 ∧ (d.2.1.getD i putD).2.1.length = 96
theorem putsBad_ok (n : Int) : ∀ (l : List PutT), putsBad n l = 0 → ∀ i, i < l.length → 0 ≤ (l.getD i putD).1 ∧ (l.getD i putD).1 ≤ n - 1 ∧ (l.getD i putD).2.1.length = 96
  | [], _, i, hi => by simp at hi
  | p :: l, h, i, hi => by
    unfold putsBad at h
    split at h
    · cases h
    split at h
    · cases h
    rename_i h1 h2
    cases i with
    | zero => simp only [List.getD_cons_zero]; omega
    | succ i => simpa using putsBad_ok n l h i (by simpa using hi)
theorem diskFault_good (d : DiskT) (h : diskFault d = 0) : GoodD d := by
  unfold diskFault at h
  split at h
  · cases h
  rename_i h1
  split at h
  · cases h
  rename_i h2
  split at h
  · cases h
  rename_i h3
  split at h
  · rename_i h4; exact absurd h h4
  rename_i h4
  refine ⟨by omega, fun i hi => ?_, by omega, putsBad_ok _ _ (by simpa using h4)⟩
  have := any_false_getD (fun b : List Int => !decide (b.length = 96)) d.1 [] (by simpa using h2) i hi
  simpa using this

def F_w_eqDiskResult (a : (Int) × ((List (List (Int))) × (List ((Int) × (List (Int)) × Unit)) × Unit) × Unit) (b : (Int) × ((List (List (Int))) × (List ((Int) × (List (Int)) × Unit)) × Unit) × Unit) : Bool := decide (a = b)
def Q_w_eqDiskResult (a : (Int) × ((List (List (Int))) × (List ((Int) × (List (Int)) × Unit)) × Unit) × Unit) (b : (Int) × ((List (List (Int))) × (List ((Int) × (List (Int)) × Unit)) × Unit) × Unit) : Prop := True
def O_w_eqDiskResult : Opt := ⟨fun i => false, fun i => [], fun i => .done, fun i => none, fun i => false, fun i => []⟩
def τ_w_eqDiskResult : Env := Env.of [(2, (.int .i64)), (4, .bool), (30, (.pair (.sl (.sl (.int .u8))) (.pair (.sl (.pair (.int .i64) (.pair (.sl (.int .u8)) .unit))) .unit))), (32, (.pair (.int .i64) (.pair (.pair (.sl (.sl (.int .u8))) (.pair (.sl (.pair (.int .i64) (.pair (.sl (.int .u8)) .unit))) .unit)) .unit)))] [] []

theorem ct_w_eqDiskResult (a : (Int) × ((List (List (Int))) × (List ((Int) × (List (Int)) × Unit)) × Unit) × Unit) (b : (Int) × ((List (List (Int))) × (List ((Int) × (List (Int)) × Unit)) × Unit) × Unit) : Ct pg 19 [.dat (.pair (.int .i64) (.pair (.pair (.sl (.sl (.int .u8))) (.pair (.sl (.pair (.int .i64) (.pair (.sl (.int .u8)) .unit))) .unit)) .unit)) a, .dat (.pair (.int .i64) (.pair (.pair (.sl (.sl (.int .u8))) (.pair (.sl (.pair (.int .i64) (.pair (.sl (.int .u8)) .unit))) .unit)) .unit)) b] ⟨[Q_w_eqDiskResult a b], [⟨.bool, .sh, F_w_eqDiskResult a b⟩], []⟩ := by
  refine ct_claim (O := O_w_eqDiskResult) (τ := τ_w_eqDiskResult) (EnvOk.of (by kernel_rfl) (by kernel_rfl)) (GOk.of (.cons ok_w_eqDisk .nil : AllOk pg [(20, con_w_eqDisk)])) mixed (Enters.of (by kernel_rfl)) (fn := Go.Proofs.Try.f19) (by kernel_rfl) rfl (by kernel_rfl) ?_
  intro hp hw
  have hq : Q_w_eqDiskResult a b := hp _ (List.mem_singleton.2 rfl)
  clear hp
  change claim Lg.std Alg.std τ_w_eqDiskResult (Gam.of [(20, ⟨true, g2 (pD (.pair (.sl (.sl (.int .u8))) (.pair (.sl (.pair (.int .i64) (.pair (.sl (.int .u8)) .unit))) .unit))) (pD (.pair (.sl (.sl (.int .u8))) (.pair (.sl (.pair (.int .i64) (.pair (.sl (.int .u8)) .unit))) .unit))) fun a b => ⟨[Q_w_eqDisk a b], [⟨.bool, .sh, F_w_eqDisk a b⟩], []⟩, []⟩)]) O_w_eqDiskResult Go.Proofs.Try.f19 [.dat (.pair (.int .i64) (.pair (.pair (.sl (.sl (.int .u8))) (.pair (.sl (.pair (.int .i64) (.pair (.sl (.int .u8)) .unit))) .unit)) .unit)) a, .dat (.pair (.int .i64) (.pair (.pair (.sl (.sl (.int .u8))) (.pair (.sl (.pair (.int .i64) (.pair (.sl (.int .u8)) .unit))) .unit)) .unit)) b] ⟨[Q_w_eqDiskResult a b], [⟨.bool, .sh, F_w_eqDiskResult a b⟩], []⟩
  generalize hg_F_w_eqDisk : F_w_eqDisk = g_F_w_eqDisk
  generalize hg_Q_w_eqDisk : Q_w_eqDisk = g_Q_w_eqDisk
  generalize hR0 : F_w_eqDiskResult a b = R0
  generalize Q_w_eqDiskResult a b = Q0
  generalize hL : Lg.std = L
  generalize hA : Alg.std = A
  cbv
  subst hL hA
  try dsimp only [Ty.den]
  obtain ⟨f0, f1, ⟨⟩⟩ := a
  obtain ⟨g0, g1, ⟨⟩⟩ := b
  subst hR0 hg_F_w_eqDisk hg_Q_w_eqDisk
  simp only [Q_w_eqDiskResult] at hq
  simp only [Lg.std, Alg.std, List.drop_zero, List.take_length, F_w_eqDisk, Q_w_eqDisk, F_w_eqDiskResult]
  all_goals grind
def con_w_eqDiskResult : Con := ⟨true, g2 (pD (.pair (.int .i64) (.pair (.pair (.sl (.sl (.int .u8))) (.pair (.sl (.pair (.int .i64) (.pair (.sl (.int .u8)) .unit))) .unit)) .unit))) (pD (.pair (.int .i64) (.pair (.pair (.sl (.sl (.int .u8))) (.pair (.sl (.pair (.int .i64) (.pair (.sl (.int .u8)) .unit))) .unit)) .unit))) fun a b => ⟨[Q_w_eqDiskResult a b], [⟨.bool, .sh, F_w_eqDiskResult a b⟩], []⟩, []⟩
theorem ok_w_eqDiskResult : ConOk pg 19 con_w_eqDiskResult := ConOk.g2 (Enters.of (by kernel_rfl)) ct_w_eqDiskResult

def F_w_markDiskResult (a : (Int) × ((List (List (Int))) × (List ((Int) × (List (Int)) × Unit)) × Unit) × Unit) (k : Int) : Int := k + cnt false (.pair (.int .i64) (.pair (.pair (.sl (.sl (.int .u8))) (.pair (.sl (.pair (.int .i64) (.pair (.sl (.int .u8)) .unit))) .unit)) .unit)) a
def B_w_markDiskResult_a (a : (Int) × ((List (List (Int))) × (List ((Int) × (List (Int)) × Unit)) × Unit) × Unit) (k : Int) : (Int) × ((List (List (Int))) × (List ((Int) × (List (Int)) × Unit)) × Unit) × Unit := mk false (.pair (.int .i64) (.pair (.pair (.sl (.sl (.int .u8))) (.pair (.sl (.pair (.int .i64) (.pair (.sl (.int .u8)) .unit))) .unit)) .unit)) a k
def Q_w_markDiskResult (a : (Int) × ((List (List (Int))) × (List ((Int) × (List (Int)) × Unit)) × Unit) × Unit) (k : Int) : Prop := 0 ≤ k ∧ k + cnt false (.pair (.int .i64) (.pair (.pair (.sl (.sl (.int .u8))) (.pair (.sl (.pair (.int .i64) (.pair (.sl (.int .u8)) .unit))) .unit)) .unit)) a ≤ 4611686018427387904
def O_w_markDiskResult : Opt := ⟨fun i => false, fun i => [], fun i => .done, fun i => none, fun i => false, fun i => []⟩
def τ_w_markDiskResult : Env := Env.of [(3, (.int .i64)), (4, .bool), (30, (.pair (.sl (.sl (.int .u8))) (.pair (.sl (.pair (.int .i64) (.pair (.sl (.int .u8)) .unit))) .unit))), (32, (.pair (.int .i64) (.pair (.pair (.sl (.sl (.int .u8))) (.pair (.sl (.pair (.int .i64) (.pair (.sl (.int .u8)) .unit))) .unit)) .unit)))] [] []

theorem ct_w_markDiskResult (a : (Int) × ((List (List (Int))) × (List ((Int) × (List (Int)) × Unit)) × Unit) × Unit) (k : Int) : Ct pg 24 [.mv (.pair (.int .i64) (.pair (.pair (.sl (.sl (.int .u8))) (.pair (.sl (.pair (.int .i64) (.pair (.sl (.int .u8)) .unit))) .unit)) .unit)) (.pr .sh (.pr (.pr (.ow (.ow .sh)) (.pr (.ow (.pr .sh (.pr (.ow .sh) .sh))) .sh)) .sh)) a, .dat (.int .i64) k] ⟨[Q_w_markDiskResult a k], [⟨(.int .i64), .sh, F_w_markDiskResult a k⟩], [.mv (.pair (.int .i64) (.pair (.pair (.sl (.sl (.int .u8))) (.pair (.sl (.pair (.int .i64) (.pair (.sl (.int .u8)) .unit))) .unit)) .unit)) (.pr .sh (.pr (.pr (.ow (.ow .sh)) (.pr (.ow (.pr .sh (.pr (.ow .sh) .sh))) .sh)) .sh)) (B_w_markDiskResult_a a k)]⟩ := by
  refine ct_claim (O := O_w_markDiskResult) (τ := τ_w_markDiskResult) (EnvOk.of (by kernel_rfl) (by kernel_rfl)) (GOk.of (.cons ok_w_markDisk .nil : AllOk pg [(22, con_w_markDisk)])) mixed (Enters.of (by kernel_rfl)) (fn := Go.Proofs.Try.f24) (by kernel_rfl) rfl (by kernel_rfl) ?_
  intro hp hw
  have hq : Q_w_markDiskResult a k := hp _ (List.mem_singleton.2 rfl)
  clear hp
  change claim Lg.std Alg.std τ_w_markDiskResult (Gam.of [(22, ⟨true, g2 (pV (.pair (.sl (.sl (.int .u8))) (.pair (.sl (.pair (.int .i64) (.pair (.sl (.int .u8)) .unit))) .unit)) (.pr (.ow (.ow .sh)) (.pr (.ow (.pr .sh (.pr (.ow .sh) .sh))) .sh))) (pD (.int .i64)) fun a k => ⟨[Q_w_markDisk a k], [⟨(.int .i64), .sh, F_w_markDisk a k⟩], [.mv (.pair (.sl (.sl (.int .u8))) (.pair (.sl (.pair (.int .i64) (.pair (.sl (.int .u8)) .unit))) .unit)) (.pr (.ow (.ow .sh)) (.pr (.ow (.pr .sh (.pr (.ow .sh) .sh))) .sh)) (B_w_markDisk_a a k)]⟩, [(.pr (.ow (.ow .sh)) (.pr (.ow (.pr .sh (.pr (.ow .sh) .sh))) .sh))]⟩)]) O_w_markDiskResult Go.Proofs.Try.f24 [.mv (.pair (.int .i64) (.pair (.pair (.sl (.sl (.int .u8))) (.pair (.sl (.pair (.int .i64) (.pair (.sl (.int .u8)) .unit))) .unit)) .unit)) (.pr .sh (.pr (.pr (.ow (.ow .sh)) (.pr (.ow (.pr .sh (.pr (.ow .sh) .sh))) .sh)) .sh)) a, .dat (.int .i64) k] ⟨[Q_w_markDiskResult a k], [⟨(.int .i64), .sh, F_w_markDiskResult a k⟩], [.mv (.pair (.int .i64) (.pair (.pair (.sl (.sl (.int .u8))) (.pair (.sl (.pair (.int .i64) (.pair (.sl (.int .u8)) .unit))) .unit)) .unit)) (.pr .sh (.pr (.pr (.ow (.ow .sh)) (.pr (.ow (.pr .sh (.pr (.ow .sh) .sh))) .sh)) .sh)) (B_w_markDiskResult_a a k)]⟩
  generalize hg_F_w_markDisk : F_w_markDisk = g_F_w_markDisk
  generalize hg_B_w_markDisk_a : B_w_markDisk_a = g_B_w_markDisk_a
  generalize hg_Q_w_markDisk : Q_w_markDisk = g_Q_w_markDisk
  generalize hR0 : F_w_markDiskResult a k = R0
  generalize hB_a : B_w_markDiskResult_a a k = B_a
  generalize Q_w_markDiskResult a k = Q0
  generalize hL : Lg.std = L
  generalize hA : Alg.std = A
  cbv
  subst hL hA
  try dsimp only [Ty.den]
  obtain ⟨f0, f1, ⟨⟩⟩ := a
  simp only [Q_w_markDiskResult] at hq
  subst hR0 hB_a hg_F_w_markDisk hg_B_w_markDisk_a hg_Q_w_markDisk
  simp only [Lg.std, Alg.std, List.drop_zero, List.take_length, F_w_markDisk, B_w_markDisk_a, Q_w_markDisk, F_w_markDiskResult, B_w_markDiskResult_a, szf, tot_p, tot_u, tot_i, tot_b, tot_s, cnt_p, cnt_u, cnt_i0, cnt_b0, cnt_s0, cnt_i1, cnt_b1, cnt_s1, cnt_l, mk_p, mk_u, mk_i0, mk_b0, mk_s0, mk_i1, mk_s1, mk_l, hd_p, hd_u, hd_i0, hd_b0, hd_s0, hd_i1, hd_b1, hd_s1, hd_l] at *
  all_goals grind [mk_len]
def con_w_markDiskResult : Con := ⟨true, g2 (pV (.pair (.int .i64) (.pair (.pair (.sl (.sl (.int .u8))) (.pair (.sl (.pair (.int .i64) (.pair (.sl (.int .u8)) .unit))) .unit)) .unit)) (.pr .sh (.pr (.pr (.ow (.ow .sh)) (.pr (.ow (.pr .sh (.pr (.ow .sh) .sh))) .sh)) .sh))) (pD (.int .i64)) fun a k => ⟨[Q_w_markDiskResult a k], [⟨(.int .i64), .sh, F_w_markDiskResult a k⟩], [.mv (.pair (.int .i64) (.pair (.pair (.sl (.sl (.int .u8))) (.pair (.sl (.pair (.int .i64) (.pair (.sl (.int .u8)) .unit))) .unit)) .unit)) (.pr .sh (.pr (.pr (.ow (.ow .sh)) (.pr (.ow (.pr .sh (.pr (.ow .sh) .sh))) .sh)) .sh)) (B_w_markDiskResult_a a k)]⟩, [(.pr .sh (.pr (.pr (.ow (.ow .sh)) (.pr (.ow (.pr .sh (.pr (.ow .sh) .sh))) .sh)) .sh))]⟩
theorem ok_w_markDiskResult : ConOk pg 24 con_w_markDiskResult := ConOk.g2 (Enters.of (by kernel_rfl)) ct_w_markDiskResult

def F_w_heldDiskResult (a : (Int) × ((List (List (Int))) × (List ((Int) × (List (Int)) × Unit)) × Unit) × Unit) (k : Int) : Int := hd false (.pair (.int .i64) (.pair (.pair (.sl (.sl (.int .u8))) (.pair (.sl (.pair (.int .i64) (.pair (.sl (.int .u8)) .unit))) .unit)) .unit)) a k
def Q_w_heldDiskResult (a : (Int) × ((List (List (Int))) × (List ((Int) × (List (Int)) × Unit)) × Unit) × Unit) (k : Int) : Prop := 0 ≤ k ∧ k + cnt false (.pair (.int .i64) (.pair (.pair (.sl (.sl (.int .u8))) (.pair (.sl (.pair (.int .i64) (.pair (.sl (.int .u8)) .unit))) .unit)) .unit)) a ≤ 4611686018427387904
def O_w_heldDiskResult : Opt := ⟨fun i => false, fun i => [], fun i => .done, fun i => none, fun i => false, fun i => []⟩
def τ_w_heldDiskResult : Env := Env.of [(3, (.int .i64)), (4, .bool), (30, (.pair (.sl (.sl (.int .u8))) (.pair (.sl (.pair (.int .i64) (.pair (.sl (.int .u8)) .unit))) .unit))), (32, (.pair (.int .i64) (.pair (.pair (.sl (.sl (.int .u8))) (.pair (.sl (.pair (.int .i64) (.pair (.sl (.int .u8)) .unit))) .unit)) .unit)))] [] []

theorem ct_w_heldDiskResult (a : (Int) × ((List (List (Int))) × (List ((Int) × (List (Int)) × Unit)) × Unit) × Unit) (k : Int) : Ct pg 25 [.dat (.pair (.int .i64) (.pair (.pair (.sl (.sl (.int .u8))) (.pair (.sl (.pair (.int .i64) (.pair (.sl (.int .u8)) .unit))) .unit)) .unit)) a, .dat (.int .i64) k] ⟨[Q_w_heldDiskResult a k], [⟨(.int .i64), .sh, F_w_heldDiskResult a k⟩], []⟩ := by
  refine ct_claim (O := O_w_heldDiskResult) (τ := τ_w_heldDiskResult) (EnvOk.of (by kernel_rfl) (by kernel_rfl)) (GOk.of (.cons ok_w_heldDisk .nil : AllOk pg [(96, con_w_heldDisk)])) mixed (Enters.of (by kernel_rfl)) (fn := Go.Proofs.Try.f25) (by kernel_rfl) rfl (by kernel_rfl) ?_
  intro hp hw
  have hq : Q_w_heldDiskResult a k := hp _ (List.mem_singleton.2 rfl)
  clear hp
  change claim Lg.std Alg.std τ_w_heldDiskResult (Gam.of [(96, ⟨true, g2 (pD (.pair (.sl (.sl (.int .u8))) (.pair (.sl (.pair (.int .i64) (.pair (.sl (.int .u8)) .unit))) .unit))) (pD (.int .i64)) fun a k => ⟨[Q_w_heldDisk a k], [⟨(.int .i64), .sh, F_w_heldDisk a k⟩], []⟩, []⟩)]) O_w_heldDiskResult Go.Proofs.Try.f25 [.dat (.pair (.int .i64) (.pair (.pair (.sl (.sl (.int .u8))) (.pair (.sl (.pair (.int .i64) (.pair (.sl (.int .u8)) .unit))) .unit)) .unit)) a, .dat (.int .i64) k] ⟨[Q_w_heldDiskResult a k], [⟨(.int .i64), .sh, F_w_heldDiskResult a k⟩], []⟩
  generalize hg_F_w_heldDisk : F_w_heldDisk = g_F_w_heldDisk
  generalize hg_Q_w_heldDisk : Q_w_heldDisk = g_Q_w_heldDisk
  generalize hR0 : F_w_heldDiskResult a k = R0
  generalize Q_w_heldDiskResult a k = Q0
  generalize hL : Lg.std = L
  generalize hA : Alg.std = A
  cbv
  subst hL hA
  try dsimp only [Ty.den]
  obtain ⟨f0, f1, ⟨⟩⟩ := a
  have ho1 := fun k h => hd_or false (.pair (.sl (.sl (.int .u8))) (.pair (.sl (.pair (.int .i64) (.pair (.sl (.int .u8)) .unit))) .unit)) f1 k h
  simp only [Q_w_heldDiskResult] at hq
  subst hR0 hg_F_w_heldDisk hg_Q_w_heldDisk
  simp only [Lg.std, Alg.std, List.drop_zero, List.take_length, F_w_heldDisk, Q_w_heldDisk, F_w_heldDiskResult, szf, tot_p, tot_u, tot_i, tot_b, tot_s, cnt_p, cnt_u, cnt_i0, cnt_b0, cnt_s0, cnt_i1, cnt_b1, cnt_s1, cnt_l, mk_p, mk_u, mk_i0, mk_b0, mk_s0, mk_i1, mk_s1, mk_l, hd_p, hd_u, hd_i0, hd_b0, hd_s0, hd_i1, hd_b1, hd_s1, hd_l] at *
  all_goals grind [mk_len]
def con_w_heldDiskResult : Con := ⟨true, g2 (pD (.pair (.int .i64) (.pair (.pair (.sl (.sl (.int .u8))) (.pair (.sl (.pair (.int .i64) (.pair (.sl (.int .u8)) .unit))) .unit)) .unit))) (pD (.int .i64)) fun a k => ⟨[Q_w_heldDiskResult a k], [⟨(.int .i64), .sh, F_w_heldDiskResult a k⟩], []⟩, []⟩
theorem ok_w_heldDiskResult : ConOk pg 25 con_w_heldDiskResult := ConOk.g2 (Enters.of (by kernel_rfl)) ct_w_heldDiskResult

def F_w_toAct (a : (Int) × ((Int) × (List (Int)) × Unit) × Unit) : (Int) × ((Int) × (List (Int)) × Unit) × Unit := a
def Q_w_toAct (a : (Int) × ((Int) × (List (Int)) × Unit) × Unit) : Prop := tot (.pair (.int .i64) (.pair (.pair (.int .i64) (.pair (.sl (.int .u8)) .unit)) .unit)) a ≤ 1048576
def O_w_toAct : Opt := ⟨fun i => false, fun i => [], fun i => .done, fun i => none, fun i => false, fun i => []⟩
def τ_w_toAct : Env := Env.of [(2, (.int .i64)), (141, (.pair (.int .i64) (.pair (.sl (.int .u8)) .unit))), (143, (.pair (.int .i64) (.pair (.pair (.int .i64) (.pair (.sl (.int .u8)) .unit)) .unit))), (145, (.pair (.int .i64) (.pair (.sl (.int .u8)) .unit))), (147, (.pair (.int .i64) (.pair (.pair (.int .i64) (.pair (.sl (.int .u8)) .unit)) .unit)))] [] []

theorem ct_w_toAct (a : (Int) × ((Int) × (List (Int)) × Unit) × Unit) : Ct pg 115 [.dat (.pair (.int .i64) (.pair (.pair (.int .i64) (.pair (.sl (.int .u8)) .unit)) .unit)) a] ⟨[Q_w_toAct a], [⟨(.pair (.int .i64) (.pair (.pair (.int .i64) (.pair (.sl (.int .u8)) .unit)) .unit)), (.pr .sh (.pr (.pr .sh (.pr (.ow .sh) .sh)) .sh)), F_w_toAct a⟩], []⟩ := by
  refine ct_claim (O := O_w_toAct) (τ := τ_w_toAct) (EnvOk.of (by kernel_rfl) (by kernel_rfl)) (GOk.of (.cons ok_w_toPut .nil : AllOk pg [(146, con_w_toPut)])) mixed (Enters.of (by kernel_rfl)) (fn := Go.Proofs.Try.f115) (by kernel_rfl) rfl (by kernel_rfl) ?_
  intro hp hw
  have hq : Q_w_toAct a := hp _ (List.mem_singleton.2 rfl)
  clear hp
  change claim Lg.std Alg.std τ_w_toAct (Gam.of [(146, ⟨true, g1 (pD (.pair (.int .i64) (.pair (.sl (.int .u8)) .unit))) fun a => ⟨[Q_w_toPut a], [⟨(.pair (.int .i64) (.pair (.sl (.int .u8)) .unit)), (.pr .sh (.pr (.ow .sh) .sh)), F_w_toPut a⟩], []⟩, []⟩)]) O_w_toAct Go.Proofs.Try.f115 [.dat (.pair (.int .i64) (.pair (.pair (.int .i64) (.pair (.sl (.int .u8)) .unit)) .unit)) a] ⟨[Q_w_toAct a], [⟨(.pair (.int .i64) (.pair (.pair (.int .i64) (.pair (.sl (.int .u8)) .unit)) .unit)), (.pr .sh (.pr (.pr .sh (.pr (.ow .sh) .sh)) .sh)), F_w_toAct a⟩], []⟩
  generalize hg_F_w_toPut : F_w_toPut = g_F_w_toPut
  generalize hg_Q_w_toPut : Q_w_toPut = g_Q_w_toPut
  generalize hR0 : F_w_toAct a = R0
  generalize Q_w_toAct a = Q0
  generalize hL : Lg.std = L
  generalize hA : Alg.std = A
  cbv
  subst hL hA
  try dsimp only [Ty.den]
  obtain ⟨f0, f1, ⟨⟩⟩ := a
  simp only [Q_w_toAct] at hq
  subst hR0 hg_F_w_toPut hg_Q_w_toPut
  simp only [Lg.std, Alg.std, List.drop_zero, List.take_length, F_w_toPut, Q_w_toPut, F_w_toAct, szf, tot_p, tot_u, tot_i, tot_b, tot_s, cnt_p, cnt_u, cnt_i0, cnt_b0, cnt_s0, cnt_i1, cnt_b1, cnt_s1, cnt_l, mk_p, mk_u, mk_i0, mk_b0, mk_s0, mk_i1, mk_s1, mk_l, hd_p, hd_u, hd_i0, hd_b0, hd_s0, hd_i1, hd_b1, hd_s1, hd_l] at *
  all_goals grind [mk_len]
def con_w_toAct : Con := ⟨true, g1 (pD (.pair (.int .i64) (.pair (.pair (.int .i64) (.pair (.sl (.int .u8)) .unit)) .unit))) fun a => ⟨[Q_w_toAct a], [⟨(.pair (.int .i64) (.pair (.pair (.int .i64) (.pair (.sl (.int .u8)) .unit)) .unit)), (.pr .sh (.pr (.pr .sh (.pr (.ow .sh) .sh)) .sh)), F_w_toAct a⟩], []⟩, []⟩
theorem ok_w_toAct : ConOk pg 115 con_w_toAct := ConOk.g1 (Enters.of (by kernel_rfl)) ct_w_toAct

def F_w_eqAct (a : (Int) × ((Int) × (List (Int)) × Unit) × Unit) (b : (Int) × ((Int) × (List (Int)) × Unit) × Unit) : Bool := decide (a = b)
def Q_w_eqAct (a : (Int) × ((Int) × (List (Int)) × Unit) × Unit) (b : (Int) × ((Int) × (List (Int)) × Unit) × Unit) : Prop := True
def O_w_eqAct : Opt := ⟨fun i => false, fun i => [], fun i => .done, fun i => none, fun i => false, fun i => []⟩
def τ_w_eqAct : Env := Env.of [(2, (.int .i64)), (4, .bool), (145, (.pair (.int .i64) (.pair (.sl (.int .u8)) .unit))), (147, (.pair (.int .i64) (.pair (.pair (.int .i64) (.pair (.sl (.int .u8)) .unit)) .unit)))] [] []

theorem ct_w_eqAct (a : (Int) × ((Int) × (List (Int)) × Unit) × Unit) (b : (Int) × ((Int) × (List (Int)) × Unit) × Unit) : Ct pg 117 [.dat (.pair (.int .i64) (.pair (.pair (.int .i64) (.pair (.sl (.int .u8)) .unit)) .unit)) a, .dat (.pair (.int .i64) (.pair (.pair (.int .i64) (.pair (.sl (.int .u8)) .unit)) .unit)) b] ⟨[Q_w_eqAct a b], [⟨.bool, .sh, F_w_eqAct a b⟩], []⟩ := by
  refine ct_claim (O := O_w_eqAct) (τ := τ_w_eqAct) (EnvOk.of (by kernel_rfl) (by kernel_rfl)) (GOk.of (.cons ok_w_eqPut .nil : AllOk pg [(153, con_w_eqPut)])) mixed (Enters.of (by kernel_rfl)) (fn := Go.Proofs.Try.f117) (by kernel_rfl) rfl (by kernel_rfl) ?_
  intro hp hw
  have hq : Q_w_eqAct a b := hp _ (List.mem_singleton.2 rfl)
  clear hp
  change claim Lg.std Alg.std τ_w_eqAct (Gam.of [(153, ⟨true, g2 (pD (.pair (.int .i64) (.pair (.sl (.int .u8)) .unit))) (pD (.pair (.int .i64) (.pair (.sl (.int .u8)) .unit))) fun a b => ⟨[Q_w_eqPut a b], [⟨.bool, .sh, F_w_eqPut a b⟩], []⟩, []⟩)]) O_w_eqAct Go.Proofs.Try.f117 [.dat (.pair (.int .i64) (.pair (.pair (.int .i64) (.pair (.sl (.int .u8)) .unit)) .unit)) a, .dat (.pair (.int .i64) (.pair (.pair (.int .i64) (.pair (.sl (.int .u8)) .unit)) .unit)) b] ⟨[Q_w_eqAct a b], [⟨.bool, .sh, F_w_eqAct a b⟩], []⟩
  generalize hg_F_w_eqPut : F_w_eqPut = g_F_w_eqPut
  generalize hg_Q_w_eqPut : Q_w_eqPut = g_Q_w_eqPut
  generalize hR0 : F_w_eqAct a b = R0
  generalize Q_w_eqAct a b = Q0
  generalize hL : Lg.std = L
  generalize hA : Alg.std = A
  cbv
  subst hL hA
  try dsimp only [Ty.den]
  obtain ⟨f0, f1, ⟨⟩⟩ := a
  obtain ⟨g0, g1, ⟨⟩⟩ := b
  subst hR0 hg_F_w_eqPut hg_Q_w_eqPut
  simp only [Q_w_eqAct] at hq
  simp only [Lg.std, Alg.std, List.drop_zero, List.take_length, F_w_eqPut, Q_w_eqPut, F_w_eqAct]
  all_goals grind
def con_w_eqAct : Con := ⟨true, g2 (pD (.pair (.int .i64) (.pair (.pair (.int .i64) (.pair (.sl (.int .u8)) .unit)) .unit))) (pD (.pair (.int .i64) (.pair (.pair (.int .i64) (.pair (.sl (.int .u8)) .unit)) .unit))) fun a b => ⟨[Q_w_eqAct a b], [⟨.bool, .sh, F_w_eqAct a b⟩], []⟩, []⟩
theorem ok_w_eqAct : ConOk pg 117 con_w_eqAct := ConOk.g2 (Enters.of (by kernel_rfl)) ct_w_eqAct

def F_w_szAct (a : (Int) × ((Int) × (List (Int)) × Unit) × Unit) (left : Int) : Int := szf (tot (.pair (.int .i64) (.pair (.pair (.int .i64) (.pair (.sl (.int .u8)) .unit)) .unit)) a) left
def Q_w_szAct (a : (Int) × ((Int) × (List (Int)) × Unit) × Unit) (left : Int) : Prop := 0 ≤ left ∧ left ≤ 1048576
def O_w_szAct : Opt := ⟨fun i => false, fun i => [], fun i => .done, fun i => none, fun i => false, fun i => []⟩
def τ_w_szAct : Env := Env.of [(3, (.int .i64)), (4, .bool), (141, (.pair (.int .i64) (.pair (.sl (.int .u8)) .unit))), (143, (.pair (.int .i64) (.pair (.pair (.int .i64) (.pair (.sl (.int .u8)) .unit)) .unit)))] [] []

theorem ct_w_szAct (a : (Int) × ((Int) × (List (Int)) × Unit) × Unit) (left : Int) : Ct pg 113 [.dat (.pair (.int .i64) (.pair (.pair (.int .i64) (.pair (.sl (.int .u8)) .unit)) .unit)) a, .dat (.int .i64) left] ⟨[Q_w_szAct a left], [⟨(.int .i64), .sh, F_w_szAct a left⟩], []⟩ := by
  refine ct_claim (O := O_w_szAct) (τ := τ_w_szAct) (EnvOk.of (by kernel_rfl) (by kernel_rfl)) (GOk.of (.cons ok_w_szPut .nil : AllOk pg [(142, con_w_szPut)])) mixed (Enters.of (by kernel_rfl)) (fn := Go.Proofs.Try.f113) (by kernel_rfl) rfl (by kernel_rfl) ?_
  intro hp hw
  have hq : Q_w_szAct a left := hp _ (List.mem_singleton.2 rfl)
  clear hp
  change claim Lg.std Alg.std τ_w_szAct (Gam.of [(142, ⟨true, g2 (pD (.pair (.int .i64) (.pair (.sl (.int .u8)) .unit))) (pD (.int .i64)) fun a left => ⟨[Q_w_szPut a left], [⟨(.int .i64), .sh, F_w_szPut a left⟩], []⟩, []⟩)]) O_w_szAct Go.Proofs.Try.f113 [.dat (.pair (.int .i64) (.pair (.pair (.int .i64) (.pair (.sl (.int .u8)) .unit)) .unit)) a, .dat (.int .i64) left] ⟨[Q_w_szAct a left], [⟨(.int .i64), .sh, F_w_szAct a left⟩], []⟩
  generalize hg_F_w_szPut : F_w_szPut = g_F_w_szPut
  generalize hg_Q_w_szPut : Q_w_szPut = g_Q_w_szPut
  generalize hR0 : F_w_szAct a left = R0
  generalize Q_w_szAct a left = Q0
  generalize hL : Lg.std = L
  generalize hA : Alg.std = A
  cbv
  subst hL hA
  try dsimp only [Ty.den]
  obtain ⟨f0, f1, ⟨⟩⟩ := a
  simp only [Q_w_szAct] at hq
  subst hR0 hg_F_w_szPut hg_Q_w_szPut
  simp only [Lg.std, Alg.std, List.drop_zero, List.take_length, F_w_szPut, Q_w_szPut, F_w_szAct, szf, tot_p, tot_u, tot_i, tot_b, tot_s, cnt_p, cnt_u, cnt_i0, cnt_b0, cnt_s0, cnt_i1, cnt_b1, cnt_s1, cnt_l, mk_p, mk_u, mk_i0, mk_b0, mk_s0, mk_i1, mk_s1, mk_l, hd_p, hd_u, hd_i0, hd_b0, hd_s0, hd_i1, hd_b1, hd_s1, hd_l] at *
  all_goals grind [mk_len]
def con_w_szAct : Con := ⟨true, g2 (pD (.pair (.int .i64) (.pair (.pair (.int .i64) (.pair (.sl (.int .u8)) .unit)) .unit))) (pD (.int .i64)) fun a left => ⟨[Q_w_szAct a left], [⟨(.int .i64), .sh, F_w_szAct a left⟩], []⟩, []⟩
theorem ok_w_szAct : ConOk pg 113 con_w_szAct := ConOk.g2 (Enters.of (by kernel_rfl)) ct_w_szAct

def F_w_szActS (a : List ((Int) × ((Int) × (List (Int)) × Unit) × Unit)) (left : Int) : Int := szf (tot (.sl (.pair (.int .i64) (.pair (.pair (.int .i64) (.pair (.sl (.int .u8)) .unit)) .unit))) a) left
def Q_w_szActS (a : List ((Int) × ((Int) × (List (Int)) × Unit) × Unit)) (left : Int) : Prop := 0 ≤ left ∧ left ≤ 1048576
def O_w_szActS : Opt := ⟨fun i => false, fun i => (match decide (i = 5) with | true => [true, true, false, false, false, true, false, false, false, false, false, false, false, false, false, false, false, false, false, false, false, false, false, false, false, false, false] | false => []), fun i => .done, fun i => none, fun i => false, fun i => []⟩
def τ_w_szActS : Env := Env.of [(3, (.int .i64)), (4, .bool), (68, (.sl (.pair (.int .i64) (.pair (.pair (.int .i64) (.pair (.sl (.int .u8)) .unit)) .unit)))), (143, (.pair (.int .i64) (.pair (.pair (.int .i64) (.pair (.sl (.int .u8)) .unit)) .unit)))] [] []

theorem ct_w_szActS (a : List ((Int) × ((Int) × (List (Int)) × Unit) × Unit)) (left : Int) : Ct pg 45 [.dat (.sl (.pair (.int .i64) (.pair (.pair (.int .i64) (.pair (.sl (.int .u8)) .unit)) .unit))) a, .dat (.int .i64) left] ⟨[Q_w_szActS a left], [⟨(.int .i64), .sh, F_w_szActS a left⟩], []⟩ := by
  refine ct_claim (O := O_w_szActS) (τ := τ_w_szActS) (EnvOk.of (by kernel_rfl) (by kernel_rfl)) (GOk.of (.cons ok_w_szAct .nil : AllOk pg [(113, con_w_szAct)])) mixed (Enters.of (by kernel_rfl)) (fn := Go.Proofs.Try.f45) (by kernel_rfl) rfl (by kernel_rfl) ?_
  intro hp hw
  have hq : Q_w_szActS a left := hp _ (List.mem_singleton.2 rfl)
  clear hp
  change claim Lg.std Alg.std τ_w_szActS (Gam.of [(113, ⟨true, g2 (pD (.pair (.int .i64) (.pair (.pair (.int .i64) (.pair (.sl (.int .u8)) .unit)) .unit))) (pD (.int .i64)) fun a left => ⟨[Q_w_szAct a left], [⟨(.int .i64), .sh, F_w_szAct a left⟩], []⟩, []⟩)]) O_w_szActS Go.Proofs.Try.f45 [.dat (.sl (.pair (.int .i64) (.pair (.pair (.int .i64) (.pair (.sl (.int .u8)) .unit)) .unit))) a, .dat (.int .i64) left] ⟨[Q_w_szActS a left], [⟨(.int .i64), .sh, F_w_szActS a left⟩], []⟩
  generalize hg_F_w_szAct : F_w_szAct = g_F_w_szAct
  generalize hg_Q_w_szAct : Q_w_szAct = g_Q_w_szAct
  generalize hR0 : F_w_szActS a left = R0
  generalize Q_w_szActS a left = Q0
  generalize hL : Lg.std = L
  generalize hA : Alg.std = A
  cbv
  subst hL hA
  try dsimp only [Ty.den]
  simp only [Q_w_szActS] at hq
  have hl : a.length ≤ 9223372036854775807 := hw.1.1
  have hle := tot_len (.pair (.int .i64) (.pair (.pair (.int .i64) (.pair (.sl (.int .u8)) .unit)) .unit)) a
  refine ⟨by simp only [Alg.std]; omega, fun hlt => ?_, fun hge => ?_⟩
  · subst hR0 hg_F_w_szAct hg_Q_w_szAct
    simp only [Lg.std, Alg.std, List.drop_zero, List.take_length, F_w_szAct, Q_w_szAct, F_w_szActS, szf, decide_eq_true_eq] at *
    grind
  refine lp_v (V := (Int) × (Int)) (fun ((i, l) : (Int) × (Int)) => ⟨[.dat (.sl (.pair (.int .i64) (.pair (.pair (.int .i64) (.pair (.sl (.int .u8)) .unit)) .unit))) a, .dat (.int .i64) l, .junk, .junk, .junk, .dat (.int .i64) i, .junk, .junk, .junk, .junk, .junk, .junk, .junk, .junk, .junk, .junk, .junk, .junk, .junk, .junk, .junk, .junk, .junk, .junk, .junk, .junk, .junk], []⟩) (fun ((i, l) : (Int) × (Int)) => 0 ≤ i ∧ i ≤ a.length ∧ 0 ≤ l ∧ l ≤ 1048576 ∧ left - (tot (.sl (.pair (.int .i64) (.pair (.pair (.int .i64) (.pair (.sl (.int .u8)) .unit)) .unit))) a : Int) = l - (tot (.sl (.pair (.int .i64) (.pair (.pair (.int .i64) (.pair (.sl (.int .u8)) .unit)) .unit))) (a.drop i.toNat : List ((Int) × ((Int) × (List (Int)) × Unit) × Unit)) : Int) + (a.length - i)) (fun ((i, l) : (Int) × (Int)) => a.length - i.toNat) (0, _) rfl ?_ ?_
  · simp [Alg.std] at hge ⊢; omega
  rintro ⟨i, l⟩ hf I hI
  replace hf : 0 ≤ i ∧ i ≤ a.length ∧ 0 ≤ l ∧ l ≤ 1048576 ∧ left - (tot (.sl (.pair (.int .i64) (.pair (.pair (.int .i64) (.pair (.sl (.int .u8)) .unit)) .unit))) a : Int) = l - (tot (.sl (.pair (.int .i64) (.pair (.pair (.int .i64) (.pair (.sl (.int .u8)) .unit)) .unit))) (a.drop i.toNat : List ((Int) × ((Int) × (List (Int)) × Unit) × Unit)) : Int) + (a.length - i) := hf
  generalize hL : Lg.std = L
  generalize hA : Alg.std = A
  cbv
  subst hL hA
  try dsimp only [Ty.den]
  subst hI
  simp only [Lg.std, Alg.std, List.drop_zero, List.take_length]
  obtain ⟨h1, h2, h3, h4, h5⟩ := hf
  have hs := fun (h : i.toNat < a.length) => tot_split (.pair (.int .i64) (.pair (.pair (.int .i64) (.pair (.sl (.int .u8)) .unit)) .unit)) a ((0, (0, [], PUnit.unit), PUnit.unit) : (Int) × ((Int) × (List (Int)) × Unit) × Unit) i.toNat h
  have hl2 := tot_len (.pair (.int .i64) (.pair (.pair (.int .i64) (.pair (.sl (.int .u8)) .unit)) .unit)) (a.drop (i.toNat + 1))
  have hl3 : (a.drop (i.toNat + 1)).length = a.length - (i.toNat + 1) := List.length_drop
  have hn := tot_nil (.pair (.int .i64) (.pair (.pair (.int .i64) (.pair (.sl (.int .u8)) .unit)) .unit))
  have hdc := fun (h : i.toNat < a.length) => drop_cons a ((0, (0, [], PUnit.unit), PUnit.unit) : (Int) × ((Int) × (List (Int)) × Unit) × Unit) i.toNat h
  have he := fun (h : a.length ≤ i.toNat) => drop_nil a i.toNat h
  repeat' (first | intro _ | apply And.intro)
  all_goals (try refine ⟨(_, _), rfl, ?_, ?_⟩)
  all_goals subst hR0 hg_F_w_szAct hg_Q_w_szAct
  all_goals (try simp only [F_w_szAct, Q_w_szAct, F_w_szActS] at *)
  all_goals grind [szf]
def con_w_szActS : Con := ⟨true, g2 (pD (.sl (.pair (.int .i64) (.pair (.pair (.int .i64) (.pair (.sl (.int .u8)) .unit)) .unit)))) (pD (.int .i64)) fun a left => ⟨[Q_w_szActS a left], [⟨(.int .i64), .sh, F_w_szActS a left⟩], []⟩, []⟩
theorem ok_w_szActS : ConOk pg 45 con_w_szActS := ConOk.g2 (Enters.of (by kernel_rfl)) ct_w_szActS

def F_w_toActS (a : List ((Int) × ((Int) × (List (Int)) × Unit) × Unit)) : List ((Int) × ((Int) × (List (Int)) × Unit) × Unit) := a
def Q_w_toActS (a : List ((Int) × ((Int) × (List (Int)) × Unit) × Unit)) : Prop := tot (.sl (.pair (.int .i64) (.pair (.pair (.int .i64) (.pair (.sl (.int .u8)) .unit)) .unit))) a ≤ 1048576
def O_w_toActS : Opt := ⟨fun i => false, fun i => (match decide (i = 3) with | true => [true, false, false, true, true, false, false, false, false, false, false, false, false, false, false, false, false, false, false, false, false, false, false] | false => []), fun i => .done, fun i => none, fun i => false, fun i => []⟩
def τ_w_toActS : Env := Env.of [(2, (.int .i64)), (3, (.int .i64)), (4, .bool), (68, (.sl (.pair (.int .i64) (.pair (.pair (.int .i64) (.pair (.sl (.int .u8)) .unit)) .unit)))), (71, (.sl (.pair (.int .i64) (.pair (.pair (.int .i64) (.pair (.sl (.int .u8)) .unit)) .unit)))), (143, (.pair (.int .i64) (.pair (.pair (.int .i64) (.pair (.sl (.int .u8)) .unit)) .unit))), (147, (.pair (.int .i64) (.pair (.pair (.int .i64) (.pair (.sl (.int .u8)) .unit)) .unit)))] [] []

theorem ct_w_toActS (a : List ((Int) × ((Int) × (List (Int)) × Unit) × Unit)) : Ct pg 47 [.dat (.sl (.pair (.int .i64) (.pair (.pair (.int .i64) (.pair (.sl (.int .u8)) .unit)) .unit))) a] ⟨[Q_w_toActS a], [⟨(.sl (.pair (.int .i64) (.pair (.pair (.int .i64) (.pair (.sl (.int .u8)) .unit)) .unit))), (.ow (.pr .sh (.pr (.pr .sh (.pr (.ow .sh) .sh)) .sh))), F_w_toActS a⟩], []⟩ := by
  refine ct_claim (O := O_w_toActS) (τ := τ_w_toActS) (EnvOk.of (by kernel_rfl) (by kernel_rfl)) (GOk.of (.cons ok_w_toAct .nil : AllOk pg [(115, con_w_toAct)])) mixed (Enters.of (by kernel_rfl)) (fn := Go.Proofs.Try.f47) (by kernel_rfl) rfl (by kernel_rfl) ?_
  intro hp hw
  have hq : Q_w_toActS a := hp _ (List.mem_singleton.2 rfl)
  clear hp
  change claim Lg.std Alg.std τ_w_toActS (Gam.of [(115, ⟨true, g1 (pD (.pair (.int .i64) (.pair (.pair (.int .i64) (.pair (.sl (.int .u8)) .unit)) .unit))) fun a => ⟨[Q_w_toAct a], [⟨(.pair (.int .i64) (.pair (.pair (.int .i64) (.pair (.sl (.int .u8)) .unit)) .unit)), (.pr .sh (.pr (.pr .sh (.pr (.ow .sh) .sh)) .sh)), F_w_toAct a⟩], []⟩, []⟩)]) O_w_toActS Go.Proofs.Try.f47 [.dat (.sl (.pair (.int .i64) (.pair (.pair (.int .i64) (.pair (.sl (.int .u8)) .unit)) .unit))) a] ⟨[Q_w_toActS a], [⟨(.sl (.pair (.int .i64) (.pair (.pair (.int .i64) (.pair (.sl (.int .u8)) .unit)) .unit))), (.ow (.pr .sh (.pr (.pr .sh (.pr (.ow .sh) .sh)) .sh))), F_w_toActS a⟩], []⟩
  generalize hg_F_w_toAct : F_w_toAct = g_F_w_toAct
  generalize hg_Q_w_toAct : Q_w_toAct = g_Q_w_toAct
  generalize hR0 : F_w_toActS a = R0
  generalize Q_w_toActS a = Q0
  generalize hL : Lg.std = L
  generalize hA : Alg.std = A
  cbv
  subst hL hA
  try dsimp only [Ty.den]
  simp only [Q_w_toActS] at hq
  have hle := tot_len (.pair (.int .i64) (.pair (.pair (.int .i64) (.pair (.sl (.int .u8)) .unit)) .unit)) a
  refine ⟨trivial, by simp only [Alg.std]; omega, ?_⟩
  refine lp_v (V := (Int) × (Nat) × (List ((Int) × ((Int) × (List (Int)) × Unit) × Unit))) (fun ((i, N, xs) : (Int) × (Nat) × (List ((Int) × ((Int) × (List (Int)) × Unit) × Unit))) => ⟨[.dat (.sl (.pair (.int .i64) (.pair (.pair (.int .i64) (.pair (.sl (.int .u8)) .unit)) .unit))) a, .junk, .junk, .ref (.pair (.int .i64) (.pair (.pair (.int .i64) (.pair (.sl (.int .u8)) .unit)) .unit)) 0 0 [] 0 N, .dat (.int .i64) i, .junk, .junk, .junk, .junk, .junk, .junk, .junk, .junk, .junk, .junk, .junk, .junk, .junk, .junk, .junk, .junk, .junk, .junk], [some (.row 0 (.pair (.int .i64) (.pair (.pair (.int .i64) (.pair (.sl (.int .u8)) .unit)) .unit)) (.pr .sh (.pr (.pr .sh (.pr (.ow .sh) .sh)) .sh)) xs)]⟩) (fun ((i, N, xs) : (Int) × (Nat) × (List ((Int) × ((Int) × (List (Int)) × Unit) × Unit))) => N = a.length ∧ 0 ≤ i ∧ i ≤ a.length ∧ xs = a.take i.toNat ++ List.replicate (a.length - i.toNat) ((0, (0, [], PUnit.unit), PUnit.unit) : (Int) × ((Int) × (List (Int)) × Unit) × Unit)) (fun ((i, N, xs) : (Int) × (Nat) × (List ((Int) × ((Int) × (List (Int)) × Unit) × Unit))) => a.length - i.toNat) (0, _, _) rfl ?_ ?_
  · simp [Alg.std]
  rintro ⟨i, N, xs⟩ hf I hI
  replace hf : N = a.length ∧ 0 ≤ i ∧ i ≤ a.length ∧ xs = a.take i.toNat ++ List.replicate (a.length - i.toNat) ((0, (0, [], PUnit.unit), PUnit.unit) : (Int) × ((Int) × (List (Int)) × Unit) × Unit) := hf
  generalize hL : Lg.std = L
  generalize hA : Alg.std = A
  cbv
  subst hL hA
  try dsimp only [Ty.den]
  subst hI
  simp only [Lg.std, Alg.std, List.drop_zero, List.take_length]
  obtain ⟨h1, h2, h3, h4⟩ := hf
  have hk := fun (h : i.toNat < a.length) => copy_step a ((0, (0, [], PUnit.unit), PUnit.unit) : (Int) × ((Int) × (List (Int)) × Unit) × Unit) i.toNat h
  have hl : xs.length = a.length := by rw [h4]; simp; omega
  have ha := fun (h : i.toNat < a.length) => tot_at (.pair (.int .i64) (.pair (.pair (.int .i64) (.pair (.sl (.int .u8)) .unit)) .unit)) a ((0, (0, [], PUnit.unit), PUnit.unit) : (Int) × ((Int) × (List (Int)) × Unit) × Unit) i.toNat h
  repeat' (first | intro _ | apply And.intro)
  all_goals (try refine ⟨(_, _, _), rfl, ?_, ?_⟩)
  all_goals subst hR0 hg_F_w_toAct hg_Q_w_toAct
  all_goals (try simp only [F_w_toAct, Q_w_toAct, F_w_toActS] at *)
  all_goals grind
def con_w_toActS : Con := ⟨true, g1 (pD (.sl (.pair (.int .i64) (.pair (.pair (.int .i64) (.pair (.sl (.int .u8)) .unit)) .unit)))) fun a => ⟨[Q_w_toActS a], [⟨(.sl (.pair (.int .i64) (.pair (.pair (.int .i64) (.pair (.sl (.int .u8)) .unit)) .unit))), (.ow (.pr .sh (.pr (.pr .sh (.pr (.ow .sh) .sh)) .sh))), F_w_toActS a⟩], []⟩, []⟩
theorem ok_w_toActS : ConOk pg 47 con_w_toActS := ConOk.g1 (Enters.of (by kernel_rfl)) ct_w_toActS

def F_w_eqActS (a : List ((Int) × ((Int) × (List (Int)) × Unit) × Unit)) (b : List ((Int) × ((Int) × (List (Int)) × Unit) × Unit)) : Bool := decide (a = b)
def Q_w_eqActS (a : List ((Int) × ((Int) × (List (Int)) × Unit) × Unit)) (b : List ((Int) × ((Int) × (List (Int)) × Unit) × Unit)) : Prop := True
def O_w_eqActS : Opt := ⟨fun i => (match decide (i = 6) with | true => true | false => false), fun i => (match decide (i = 4) with | true => [true, true, false, false, false, true, false, false, false, false, false, false, false, false, false, false, false, false, false, false, false, false, false, false, false, false, false] | false => []), fun i => .done, fun i => none, fun i => false, fun i => []⟩
def τ_w_eqActS : Env := Env.of [(3, (.int .i64)), (4, .bool), (71, (.sl (.pair (.int .i64) (.pair (.pair (.int .i64) (.pair (.sl (.int .u8)) .unit)) .unit)))), (147, (.pair (.int .i64) (.pair (.pair (.int .i64) (.pair (.sl (.int .u8)) .unit)) .unit)))] [] []

theorem ct_w_eqActS (a : List ((Int) × ((Int) × (List (Int)) × Unit) × Unit)) (b : List ((Int) × ((Int) × (List (Int)) × Unit) × Unit)) : Ct pg 49 [.dat (.sl (.pair (.int .i64) (.pair (.pair (.int .i64) (.pair (.sl (.int .u8)) .unit)) .unit))) a, .dat (.sl (.pair (.int .i64) (.pair (.pair (.int .i64) (.pair (.sl (.int .u8)) .unit)) .unit))) b] ⟨[Q_w_eqActS a b], [⟨.bool, .sh, F_w_eqActS a b⟩], []⟩ := by
  refine ct_claim (O := O_w_eqActS) (τ := τ_w_eqActS) (EnvOk.of (by kernel_rfl) (by kernel_rfl)) (GOk.of (.cons ok_w_eqAct .nil : AllOk pg [(117, con_w_eqAct)])) mixed (Enters.of (by kernel_rfl)) (fn := Go.Proofs.Try.f49) (by kernel_rfl) rfl (by kernel_rfl) ?_
  intro hp hw
  have hq : Q_w_eqActS a b := hp _ (List.mem_singleton.2 rfl)
  clear hp
  change claim Lg.std Alg.std τ_w_eqActS (Gam.of [(117, ⟨true, g2 (pD (.pair (.int .i64) (.pair (.pair (.int .i64) (.pair (.sl (.int .u8)) .unit)) .unit))) (pD (.pair (.int .i64) (.pair (.pair (.int .i64) (.pair (.sl (.int .u8)) .unit)) .unit))) fun a b => ⟨[Q_w_eqAct a b], [⟨.bool, .sh, F_w_eqAct a b⟩], []⟩, []⟩)]) O_w_eqActS Go.Proofs.Try.f49 [.dat (.sl (.pair (.int .i64) (.pair (.pair (.int .i64) (.pair (.sl (.int .u8)) .unit)) .unit))) a, .dat (.sl (.pair (.int .i64) (.pair (.pair (.int .i64) (.pair (.sl (.int .u8)) .unit)) .unit))) b] ⟨[Q_w_eqActS a b], [⟨.bool, .sh, F_w_eqActS a b⟩], []⟩
  generalize hg_F_w_eqAct : F_w_eqAct = g_F_w_eqAct
  generalize hg_Q_w_eqAct : Q_w_eqAct = g_Q_w_eqAct
  generalize hR0 : F_w_eqActS a b = R0
  generalize Q_w_eqActS a b = Q0
  generalize hL : Lg.std = L
  generalize hA : Alg.std = A
  cbv
  subst hL hA
  try dsimp only [Ty.den]
  refine ⟨fun hne => ?_, fun heq => ?_⟩
  · subst hR0 hg_F_w_eqAct hg_Q_w_eqAct
    simp only [Alg.std, F_w_eqAct, Q_w_eqAct, F_w_eqActS] at *
    grind
  refine lp_v (V := (Int)) (fun (i : Int) => ⟨[.dat (.sl (.pair (.int .i64) (.pair (.pair (.int .i64) (.pair (.sl (.int .u8)) .unit)) .unit))) a, .dat (.sl (.pair (.int .i64) (.pair (.pair (.int .i64) (.pair (.sl (.int .u8)) .unit)) .unit))) b, .junk, .junk, .junk, .dat (.int .i64) i, .junk, .junk, .junk, .junk, .junk, .junk, .junk, .junk, .junk, .junk, .junk, .junk, .junk, .junk, .junk, .junk, .junk, .junk, .junk, .junk, .junk], []⟩) (fun (i : Int) => a.length = b.length ∧ 0 ≤ i ∧ i ≤ a.length ∧ decide (a = b) = decide (a.drop i.toNat = b.drop i.toNat)) (fun (i : Int) => a.length - i.toNat) (0) rfl ?_ ?_
  · simp [Alg.std] at heq ⊢; omega
  rintro i hf I hI
  replace hf : a.length = b.length ∧ 0 ≤ i ∧ i ≤ a.length ∧ decide (a = b) = decide (a.drop i.toNat = b.drop i.toNat) := hf
  generalize hL : Lg.std = L
  generalize hA : Alg.std = A
  cbv
  subst hL hA
  try dsimp only [Ty.den]
  subst hI
  simp only [Lg.std, Alg.std, List.drop_zero, List.take_length]
  obtain ⟨h1, h2, h3, h4⟩ := hf
  have hl := hw.1.1
  have hdc := fun (h : i.toNat < a.length) => drop_cons a ((0, (0, [], PUnit.unit), PUnit.unit) : (Int) × ((Int) × (List (Int)) × Unit) × Unit) i.toNat h
  have he := fun (h : a.length ≤ i.toNat) => drop_nil a i.toNat h
  have hdc2 := fun (h : i.toNat < b.length) => drop_cons b ((0, (0, [], PUnit.unit), PUnit.unit) : (Int) × ((Int) × (List (Int)) × Unit) × Unit) i.toNat h
  have he2 := fun (h : b.length ≤ i.toNat) => drop_nil b i.toNat h
  repeat' (first | intro _ | apply And.intro)
  all_goals (try refine ⟨_, rfl, ?_, ?_⟩)
  all_goals subst hR0 hg_F_w_eqAct hg_Q_w_eqAct
  all_goals (try simp only [F_w_eqAct, Q_w_eqAct, F_w_eqActS] at *)
  all_goals grind
def con_w_eqActS : Con := ⟨true, g2 (pD (.sl (.pair (.int .i64) (.pair (.pair (.int .i64) (.pair (.sl (.int .u8)) .unit)) .unit)))) (pD (.sl (.pair (.int .i64) (.pair (.pair (.int .i64) (.pair (.sl (.int .u8)) .unit)) .unit)))) fun a b => ⟨[Q_w_eqActS a b], [⟨.bool, .sh, F_w_eqActS a b⟩], []⟩, []⟩
theorem ok_w_eqActS : ConOk pg 49 con_w_eqActS := ConOk.g2 (Enters.of (by kernel_rfl)) ct_w_eqActS
end Go.Vee
