/-
  Contracts of functions of the program: what each returns for all arguments that its precondition lets in.
-/
import Derived.Test.YtoomfdnohpkepaaVK18
set_option linter.unusedSimpArgs false
set_option linter.unusedVariables false
set_option maxRecDepth 100000
set_option maxHeartbeats 4000000
set_option synthInstance.maxHeartbeats 4000000
set_option synthInstance.maxSize 20000
namespace Go.Vee
open Go
def readD (d : DiskT) (n : Int) : List Int := if 0 ≤ findG (fun x : PutT => decide (x.1 = n)) d.2.1 0 then (d.2.1.getD (findG (fun x : PutT => decide (x.1 = n)) d.2.1 0).toNat putD).2.1 else d.1.getD n.toNat []
theorem readD_len {d : DiskT} {k : Nat} (h : GoodW d k) (n : Int) (hn : 0 ≤ n ∧ n ≤ (d.1.length : Int) - 1) : (readD d n).length = 96 := by
  have hr := findG_range (fun x : PutT => decide (x.1 = n)) d.2.1 0 (by omega)
  unfold readD
  split
  · exact (h.2.2.2 _ (by omega)).2.2
  · exact h.2.1 _ (by omega)
def pageAt (d : DiskT) (id : Int) : Int × (Int × Int × List Int × Unit) := if ¬ (2 ≤ id ∧ id ≤ (d.1.length : Int) - 1) then (3, zPage) else l15Read (readD d id) id
def nodeAt (d : DiskT) (id : Int) : Int × NodeT × Unit :=
  if (pageAt d id).1 ≠ 0 then ((pageAt d id).1, zNode, ()) else readNode (pageAt d id).2.1 (pageAt d id).2.2.2.1
def nodeAtD (d : DiskT) (id : Int) : Int × NodeT × Unit := if diskFault d ≠ 0 then (diskFault d, zNode, ()) else nodeAt d id
theorem l15Read_body (data : List Int) (id : Int) : (l15Read data id).2.2.2.1.length ≤ data.length := by
  unfold l15Read rdPage
  repeat' split
  all_goals (simp only [zPage, List.length_nil, List.length_take, List.length_drop]; omega)
theorem pageAt_body {d : DiskT} {k : Nat} (h : GoodW d k) (id : Int) : (pageAt d id).2.2.2.1.length ≤ 96 := by
  unfold pageAt
  split
  · simp [zPage]
  · rename_i hn
    have h1 := readD_len h id (by omega)
    have := l15Read_body (readD d id) id
    omega
theorem l15Read_zero (data : List Int) (id : Int) : (l15Read data id).1 = 0 ∨ (l15Read data id).2 = zPage := by
  unfold l15Read
  repeat' split
  all_goals simp
theorem nodeAtD_cnt (d : DiskT) (id : Int) : cnt false (.sl (.sl (.int .u8))) (nodeAtD d id).2.1.2.1 ≤ 64 ∧ (nodeAtD d id).2.1.2.2.1.length ≤ 4 ∧ (nodeAtD d id).2.1.2.2.2.1.length ≤ 5 := by
  have hz : cnt false (.sl (.sl (.int .u8))) ([] : List (List Int)) ≤ 64 := by simp [cnt, cntL]
  unfold nodeAtD
  split
  · exact ⟨hz, by simp, by simp⟩
  · unfold nodeAt
    split
    · exact ⟨hz, by simp, by simp⟩
    · exact readNode_cnt _ _

def F_s_l14Read (d : (List (List (Int))) × (List ((Int) × (List (Int)) × Unit)) × Unit) (n : Int) : List (Int) := readD d n
def Q_s_l14Read (d : (List (List (Int))) × (List ((Int) × (List (Int)) × Unit)) × Unit) (n : Int) : Prop := 0 ≤ n ∧ n ≤ (d.1.length : Int) - 1
def O_s_l14Read : Opt := ⟨fun i => false, fun i => [], fun i => .done, fun i => none, fun i => false, fun i => []⟩
def τ_s_l14Read : Env := Env.of [(2, (.int .i64)), (3, (.int .i64)), (4, .bool), (22, (.sl (.sl (.int .u8)))), (26, (.sl (.int .u8))), (28, (.sl (.pair (.int .i64) (.pair (.sl (.int .u8)) .unit)))), (30, (.pair (.sl (.sl (.int .u8))) (.pair (.sl (.pair (.int .i64) (.pair (.sl (.int .u8)) .unit))) .unit))), (145, (.pair (.int .i64) (.pair (.sl (.int .u8)) .unit)))] [(114, (.pair (.sl (.sl (.int .u8))) (.pair (.sl (.pair (.int .i64) (.pair (.sl (.int .u8)) .unit))) .unit)))] []

theorem ct_s_l14Read (d : (List (List (Int))) × (List ((Int) × (List (Int)) × Unit)) × Unit) (n : Int) : Ct pg 166 [.dptr (.pair (.sl (.sl (.int .u8))) (.pair (.sl (.pair (.int .i64) (.pair (.sl (.int .u8)) .unit))) .unit)) d, .dat (.int .i64) n] ⟨[Q_s_l14Read d n], [⟨(.sl (.int .u8)), .sh, F_s_l14Read d n⟩], []⟩ := by
  refine ct_claim (O := O_s_l14Read) (τ := τ_s_l14Read) (EnvOk.of (by kernel_rfl) (by kernel_rfl)) (GOk.of (.cons ok_s_l14Waits .nil : AllOk pg [(145, con_s_l14Waits)])) mixed (Enters.of (by kernel_rfl)) (fn := Go.Proofs.Try.f166) (by kernel_rfl) rfl (by kernel_rfl) ?_
  intro hp hw
  have hq : Q_s_l14Read d n := hp _ (List.mem_singleton.2 rfl)
  clear hp
  change claim Lg.std Alg.std τ_s_l14Read (Gam.of [(145, ⟨true, g2 (pP (.pair (.sl (.sl (.int .u8))) (.pair (.sl (.pair (.int .i64) (.pair (.sl (.int .u8)) .unit))) .unit))) (pD (.int .i64)) fun d n => ⟨[Q_s_l14Waits d n], [⟨(.int .i64), .sh, F_s_l14Waits d n⟩], []⟩, []⟩)]) O_s_l14Read Go.Proofs.Try.f166 [.dptr (.pair (.sl (.sl (.int .u8))) (.pair (.sl (.pair (.int .i64) (.pair (.sl (.int .u8)) .unit))) .unit)) d, .dat (.int .i64) n] ⟨[Q_s_l14Read d n], [⟨(.sl (.int .u8)), .sh, F_s_l14Read d n⟩], []⟩
  generalize hg_F_s_l14Waits : F_s_l14Waits = g_F_s_l14Waits
  generalize hg_Q_s_l14Waits : Q_s_l14Waits = g_Q_s_l14Waits
  generalize hR0 : F_s_l14Read d n = R0
  generalize Q_s_l14Read d n = Q0
  generalize hL : Lg.std = L
  generalize hA : Alg.std = A
  cbv
  subst hL hA
  try dsimp only [Ty.den]
  obtain ⟨d_0, d_1, ⟨⟩⟩ := d
  have hr := findG_range (fun x : PutT => decide (x.1 = n)) d_1 0 (by omega)
  subst hR0 hg_F_s_l14Waits hg_Q_s_l14Waits
  simp only [Q_s_l14Read] at hq
  simp only [Lg.std, Alg.std, List.drop_zero, List.take_length, F_s_l14Waits, Q_s_l14Waits, F_s_l14Read, readD, putD] at *
  try simp only [true_and, and_true, false_implies, implies_true, imp_self]
  generalize findG (fun x : PutT => decide (x.1 = n)) d_1 0 = k at *
  repeat' (first | intro _ | apply And.intro)
  all_goals grind
def con_s_l14Read : Con := ⟨true, g2 (pP (.pair (.sl (.sl (.int .u8))) (.pair (.sl (.pair (.int .i64) (.pair (.sl (.int .u8)) .unit))) .unit))) (pD (.int .i64)) fun d n => ⟨[Q_s_l14Read d n], [⟨(.sl (.int .u8)), .sh, F_s_l14Read d n⟩], []⟩, []⟩
theorem ok_s_l14Read : ConOk pg 166 con_s_l14Read := ConOk.g2 (Enters.of (by kernel_rfl)) ct_s_l14Read

def F_i_Disk_read (d : (List (List (Int))) × (List ((Int) × (List (Int)) × Unit)) × Unit) (n : Int) : List (Int) := readD d n
def Q_i_Disk_read (d : (List (List (Int))) × (List ((Int) × (List (Int)) × Unit)) × Unit) (n : Int) : Prop := 0 ≤ n ∧ n ≤ (d.1.length : Int) - 1
def O_i_Disk_read : Opt := ⟨fun i => false, fun i => [], fun i => .done, fun i => none, fun i => false, fun i => []⟩
def τ_i_Disk_read : Env := Env.of [(2, (.int .i64)), (3, (.int .i64)), (4, .bool), (22, (.sl (.sl (.int .u8)))), (26, (.sl (.int .u8))), (28, (.sl (.pair (.int .i64) (.pair (.sl (.int .u8)) .unit)))), (30, (.pair (.sl (.sl (.int .u8))) (.pair (.sl (.pair (.int .i64) (.pair (.sl (.int .u8)) .unit))) .unit))), (145, (.pair (.int .i64) (.pair (.sl (.int .u8)) .unit)))] [] []

theorem ct_i_Disk_read (d : (List (List (Int))) × (List ((Int) × (List (Int)) × Unit)) × Unit) (n : Int) : Ct pg 169 [.dat (.pair (.sl (.sl (.int .u8))) (.pair (.sl (.pair (.int .i64) (.pair (.sl (.int .u8)) .unit))) .unit)) d, .dat (.int .i64) n] ⟨[Q_i_Disk_read d n], [⟨(.sl (.int .u8)), .sh, F_i_Disk_read d n⟩], []⟩ := by
  refine ct_claim (O := O_i_Disk_read) (τ := τ_i_Disk_read) (EnvOk.of (by kernel_rfl) (by kernel_rfl)) (GOk.of (.cons ok_i_Disk_putFor .nil : AllOk pg [(150, con_i_Disk_putFor)])) mixed (Enters.of (by kernel_rfl)) (fn := Go.Proofs.Try.f169) (by kernel_rfl) rfl (by kernel_rfl) ?_
  intro hp hw
  have hq : Q_i_Disk_read d n := hp _ (List.mem_singleton.2 rfl)
  clear hp
  change claim Lg.std Alg.std τ_i_Disk_read (Gam.of [(150, ⟨true, g2 (pD (.pair (.sl (.sl (.int .u8))) (.pair (.sl (.pair (.int .i64) (.pair (.sl (.int .u8)) .unit))) .unit))) (pD (.int .i64)) fun d n => ⟨[Q_i_Disk_putFor d n], [⟨(.int .i64), .sh, F_i_Disk_putFor d n⟩], []⟩, []⟩)]) O_i_Disk_read Go.Proofs.Try.f169 [.dat (.pair (.sl (.sl (.int .u8))) (.pair (.sl (.pair (.int .i64) (.pair (.sl (.int .u8)) .unit))) .unit)) d, .dat (.int .i64) n] ⟨[Q_i_Disk_read d n], [⟨(.sl (.int .u8)), .sh, F_i_Disk_read d n⟩], []⟩
  generalize hg_F_i_Disk_putFor : F_i_Disk_putFor = g_F_i_Disk_putFor
  generalize hg_Q_i_Disk_putFor : Q_i_Disk_putFor = g_Q_i_Disk_putFor
  generalize hR0 : F_i_Disk_read d n = R0
  generalize Q_i_Disk_read d n = Q0
  generalize hL : Lg.std = L
  generalize hA : Alg.std = A
  cbv
  subst hL hA
  try dsimp only [Ty.den]
  obtain ⟨d_0, d_1, ⟨⟩⟩ := d
  have hr := findG_range (fun x : PutT => decide (x.1 = n)) d_1 0 (by omega)
  subst hR0 hg_F_i_Disk_putFor hg_Q_i_Disk_putFor
  simp only [Q_i_Disk_read] at hq
  simp only [Lg.std, Alg.std, List.drop_zero, List.take_length, F_i_Disk_putFor, Q_i_Disk_putFor, F_i_Disk_read, readD, putD] at *
  try simp only [true_and, and_true, false_implies, implies_true, imp_self]
  generalize findG (fun x : PutT => decide (x.1 = n)) d_1 0 = k at *
  repeat' (first | intro _ | apply And.intro)
  all_goals grind
def con_i_Disk_read : Con := ⟨true, g2 (pD (.pair (.sl (.sl (.int .u8))) (.pair (.sl (.pair (.int .i64) (.pair (.sl (.int .u8)) .unit))) .unit))) (pD (.int .i64)) fun d n => ⟨[Q_i_Disk_read d n], [⟨(.sl (.int .u8)), .sh, F_i_Disk_read d n⟩], []⟩, []⟩
theorem ok_i_Disk_read : ConOk pg 169 con_i_Disk_read := ConOk.g2 (Enters.of (by kernel_rfl)) ct_i_Disk_read

def F_i_Disk_pageAt (d : (List (List (Int))) × (List ((Int) × (List (Int)) × Unit)) × Unit) (id : Int) : (Int) × (Int) × (List (Int)) × Unit := (pageAt d id).2
def F_i_Disk_pageAt_1 (d : (List (List (Int))) × (List ((Int) × (List (Int)) × Unit)) × Unit) (id : Int) : Int := (pageAt d id).1
def Q_i_Disk_pageAt (d : (List (List (Int))) × (List ((Int) × (List (Int)) × Unit)) × Unit) (id : Int) : Prop := GoodW d 64
def O_i_Disk_pageAt : Opt := ⟨fun i => false, fun i => [], fun i => (match decide (i = 4) with | true => (.take 0 (.take 2 (.alt 1 (.alt 3 (.alt 4 (.take 5 .done) .no) (.alt 4 (.alt 3 (.take 5 .done) .no) .no)) (.alt 3 (.alt 1 (.alt 4 (.take 5 .done) .no) .no) .no)))) | false => .done), fun i => (match decide (i = 4) with | true => some [false, false, false, false, true, true, false, false, false, false, false, false, false, false, false, false, false, false, false, false, false, false, false, false, false] | false => none), fun i => false, fun i => []⟩
def τ_i_Disk_pageAt : Env := Env.of [(2, (.int .i64)), (4, .bool), (5, (.int .u8)), (26, (.sl (.int .u8))), (30, (.pair (.sl (.sl (.int .u8))) (.pair (.sl (.pair (.int .i64) (.pair (.sl (.int .u8)) .unit))) .unit))), (105, (.pair (.int .i64) (.pair (.int .i64) (.pair (.sl (.int .u8)) .unit)))), (188, (.pair (.int .i64) (.pair (.pair (.int .i64) (.pair (.int .i64) (.pair (.sl (.int .u8)) .unit))) .unit)))] [] []

theorem ct_i_Disk_pageAt (d : (List (List (Int))) × (List ((Int) × (List (Int)) × Unit)) × Unit) (id : Int) : Ct pg 124 [.dat (.pair (.sl (.sl (.int .u8))) (.pair (.sl (.pair (.int .i64) (.pair (.sl (.int .u8)) .unit))) .unit)) d, .dat (.int .i64) id] ⟨[Q_i_Disk_pageAt d id], [⟨(.pair (.int .i64) (.pair (.int .i64) (.pair (.sl (.int .u8)) .unit))), (.pr .sh (.pr .sh (.pr (.ow .sh) .sh))), F_i_Disk_pageAt d id⟩, ⟨(.int .i64), .sh, F_i_Disk_pageAt_1 d id⟩], []⟩ := by
  refine ct_claim (O := O_i_Disk_pageAt) (τ := τ_i_Disk_pageAt) (EnvOk.of (by kernel_rfl) (by kernel_rfl)) (GOk.of (.cons ok_i_ReadPage (.cons ok_i_Disk_has (.cons ok_i_Disk_read .nil)) : AllOk pg [(168, con_i_ReadPage), (122, con_i_Disk_has), (169, con_i_Disk_read)])) mixed (Enters.of (by kernel_rfl)) (fn := Go.Proofs.Try.f124) (by kernel_rfl) rfl (by kernel_rfl) ?_
  intro hp hw
  have hq : Q_i_Disk_pageAt d id := hp _ (List.mem_singleton.2 rfl)
  clear hp
  change claim Lg.std Alg.std τ_i_Disk_pageAt (Gam.of [(168, ⟨true, g2 (pD (.sl (.int .u8))) (pD (.int .i64)) fun data id => ⟨[Q_i_ReadPage data id], [⟨(.pair (.int .i64) (.pair (.pair (.int .i64) (.pair (.int .i64) (.pair (.sl (.int .u8)) .unit))) .unit)), (.pr .sh (.pr (.pr .sh (.pr .sh (.pr (.ow .sh) .sh))) .sh)), F_i_ReadPage data id⟩], []⟩, []⟩), (122, ⟨true, g2 (pD (.pair (.sl (.sl (.int .u8))) (.pair (.sl (.pair (.int .i64) (.pair (.sl (.int .u8)) .unit))) .unit))) (pD (.int .i64)) fun d n => ⟨[Q_i_Disk_has d n], [⟨.bool, .sh, F_i_Disk_has d n⟩], []⟩, []⟩), (169, ⟨true, g2 (pD (.pair (.sl (.sl (.int .u8))) (.pair (.sl (.pair (.int .i64) (.pair (.sl (.int .u8)) .unit))) .unit))) (pD (.int .i64)) fun d n => ⟨[Q_i_Disk_read d n], [⟨(.sl (.int .u8)), .sh, F_i_Disk_read d n⟩], []⟩, []⟩)]) O_i_Disk_pageAt Go.Proofs.Try.f124 [.dat (.pair (.sl (.sl (.int .u8))) (.pair (.sl (.pair (.int .i64) (.pair (.sl (.int .u8)) .unit))) .unit)) d, .dat (.int .i64) id] ⟨[Q_i_Disk_pageAt d id], [⟨(.pair (.int .i64) (.pair (.int .i64) (.pair (.sl (.int .u8)) .unit))), (.pr .sh (.pr .sh (.pr (.ow .sh) .sh))), F_i_Disk_pageAt d id⟩, ⟨(.int .i64), .sh, F_i_Disk_pageAt_1 d id⟩], []⟩
  generalize hg_F_i_ReadPage : F_i_ReadPage = g_F_i_ReadPage
  generalize hg_Q_i_ReadPage : Q_i_ReadPage = g_Q_i_ReadPage
  generalize hg_F_i_Disk_has : F_i_Disk_has = g_F_i_Disk_has
  generalize hg_Q_i_Disk_has : Q_i_Disk_has = g_Q_i_Disk_has
  generalize hg_F_i_Disk_read : F_i_Disk_read = g_F_i_Disk_read
  generalize hg_Q_i_Disk_read : Q_i_Disk_read = g_Q_i_Disk_read
  generalize hR0 : F_i_Disk_pageAt d id = R0
  generalize hR1 : F_i_Disk_pageAt_1 d id = R1
  generalize Q_i_Disk_pageAt d id = Q0
  generalize hL : Lg.std = L
  generalize hA : Alg.std = A
  cbv
  subst hL hA
  try dsimp only [Ty.den]
  obtain ⟨d_0, d_1, ⟨⟩⟩ := d
  have hrl := readD_len (d := (d_0, d_1, PUnit.unit)) (k := 64) hq id
  have hl8 : d_0.length ≤ 64 := hq.1.2
  have hzp := l15Read_zero (readD (d_0, d_1, PUnit.unit) id) id
  subst hR0 hR1 hg_F_i_ReadPage hg_Q_i_ReadPage hg_F_i_Disk_has hg_Q_i_Disk_has hg_F_i_Disk_read hg_Q_i_Disk_read
  simp only [Q_i_Disk_pageAt] at hq
  simp only [Lg.std, Alg.std, List.drop_zero, List.take_length, F_i_ReadPage, F_i_Disk_has, F_i_Disk_read, Q_i_ReadPage, Q_i_Disk_has, Q_i_Disk_read, F_i_Disk_pageAt, F_i_Disk_pageAt_1, pageAt, readPage, zPage] at *
  try simp only [true_and, and_true, false_implies, implies_true, imp_self]
  repeat' (first | intro _ | apply And.intro)
  all_goals grind
def con_i_Disk_pageAt : Con := ⟨true, g2 (pD (.pair (.sl (.sl (.int .u8))) (.pair (.sl (.pair (.int .i64) (.pair (.sl (.int .u8)) .unit))) .unit))) (pD (.int .i64)) fun d id => ⟨[Q_i_Disk_pageAt d id], [⟨(.pair (.int .i64) (.pair (.int .i64) (.pair (.sl (.int .u8)) .unit))), (.pr .sh (.pr .sh (.pr (.ow .sh) .sh))), F_i_Disk_pageAt d id⟩, ⟨(.int .i64), .sh, F_i_Disk_pageAt_1 d id⟩], []⟩, []⟩
theorem ok_i_Disk_pageAt : ConOk pg 124 con_i_Disk_pageAt := ConOk.g2 (Enters.of (by kernel_rfl)) ct_i_Disk_pageAt

def F_i_Disk_nodeAt (d : (List (List (Int))) × (List ((Int) × (List (Int)) × Unit)) × Unit) (id : Int) : (Bool) × (List (List (Int))) × (List (Int)) × (List (Int)) × Unit := (nodeAt d id).2.1
def F_i_Disk_nodeAt_1 (d : (List (List (Int))) × (List ((Int) × (List (Int)) × Unit)) × Unit) (id : Int) : Int := (nodeAt d id).1
def Q_i_Disk_nodeAt (d : (List (List (Int))) × (List ((Int) × (List (Int)) × Unit)) × Unit) (id : Int) : Prop := GoodW d 64
def O_i_Disk_nodeAt : Opt := ⟨fun i => false, fun i => [], fun i => (match decide (i = 5) with | true => (.take 0 (.take 2 (.alt 1 (.alt 3 (.alt 4 (.take 5 .done) .no) (.alt 4 (.alt 3 (.take 5 .done) .no) .no)) (.alt 3 (.alt 1 (.alt 4 (.take 5 .done) .no) .no) .no)))) | false => .done), fun i => (match decide (i = 5) with | true => some [false, false, false, false, true, true, false, false, false, false, false, false, false, false, false, false, false, false, false, false, false, false, false, false, false, false, false, false] | false => none), fun i => false, fun i => []⟩
def τ_i_Disk_nodeAt : Env := Env.of [(2, (.int .i64)), (4, .bool), (5, (.int .u8)), (26, (.sl (.int .u8))), (30, (.pair (.sl (.sl (.int .u8))) (.pair (.sl (.pair (.int .i64) (.pair (.sl (.int .u8)) .unit))) .unit))), (88, (.pair .bool (.pair (.sl (.sl (.int .u8))) (.pair (.sl (.int .i64)) (.pair (.sl (.int .i64)) .unit))))), (90, (.pair (.int .i64) (.pair (.pair .bool (.pair (.sl (.sl (.int .u8))) (.pair (.sl (.int .i64)) (.pair (.sl (.int .i64)) .unit)))) .unit))), (105, (.pair (.int .i64) (.pair (.int .i64) (.pair (.sl (.int .u8)) .unit))))] [] []

theorem ct_i_Disk_nodeAt (d : (List (List (Int))) × (List ((Int) × (List (Int)) × Unit)) × Unit) (id : Int) : Ct pg 127 [.dat (.pair (.sl (.sl (.int .u8))) (.pair (.sl (.pair (.int .i64) (.pair (.sl (.int .u8)) .unit))) .unit)) d, .dat (.int .i64) id] ⟨[Q_i_Disk_nodeAt d id], [⟨(.pair .bool (.pair (.sl (.sl (.int .u8))) (.pair (.sl (.int .i64)) (.pair (.sl (.int .i64)) .unit)))), (.pr .sh (.pr (.ow (.ow .sh)) (.pr (.ow .sh) (.pr (.ow .sh) .sh)))), F_i_Disk_nodeAt d id⟩, ⟨(.int .i64), .sh, F_i_Disk_nodeAt_1 d id⟩], []⟩ := by
  refine ct_claim (O := O_i_Disk_nodeAt) (τ := τ_i_Disk_nodeAt) (EnvOk.of (by kernel_rfl) (by kernel_rfl)) (GOk.of (.cons ok_i_ReadNode (.cons ok_i_Disk_pageAt .nil) : AllOk pg [(171, con_i_ReadNode), (124, con_i_Disk_pageAt)])) mixed (Enters.of (by kernel_rfl)) (fn := Go.Proofs.Try.f127) (by kernel_rfl) rfl (by kernel_rfl) ?_
  intro hp hw
  have hq : Q_i_Disk_nodeAt d id := hp _ (List.mem_singleton.2 rfl)
  clear hp
  change claim Lg.std Alg.std τ_i_Disk_nodeAt (Gam.of [(171, ⟨true, g2 (pD (.int .i64)) (pD (.sl (.int .u8))) fun kind body => ⟨[Q_i_ReadNode kind body], [⟨(.pair (.int .i64) (.pair (.pair .bool (.pair (.sl (.sl (.int .u8))) (.pair (.sl (.int .i64)) (.pair (.sl (.int .i64)) .unit)))) .unit)), (.pr .sh (.pr (.pr .sh (.pr (.ow (.ow .sh)) (.pr (.ow .sh) (.pr (.ow .sh) .sh)))) .sh)), F_i_ReadNode kind body⟩], []⟩, []⟩), (124, ⟨true, g2 (pD (.pair (.sl (.sl (.int .u8))) (.pair (.sl (.pair (.int .i64) (.pair (.sl (.int .u8)) .unit))) .unit))) (pD (.int .i64)) fun d id => ⟨[Q_i_Disk_pageAt d id], [⟨(.pair (.int .i64) (.pair (.int .i64) (.pair (.sl (.int .u8)) .unit))), (.pr .sh (.pr .sh (.pr (.ow .sh) .sh))), F_i_Disk_pageAt d id⟩, ⟨(.int .i64), .sh, F_i_Disk_pageAt_1 d id⟩], []⟩, []⟩)]) O_i_Disk_nodeAt Go.Proofs.Try.f127 [.dat (.pair (.sl (.sl (.int .u8))) (.pair (.sl (.pair (.int .i64) (.pair (.sl (.int .u8)) .unit))) .unit)) d, .dat (.int .i64) id] ⟨[Q_i_Disk_nodeAt d id], [⟨(.pair .bool (.pair (.sl (.sl (.int .u8))) (.pair (.sl (.int .i64)) (.pair (.sl (.int .i64)) .unit)))), (.pr .sh (.pr (.ow (.ow .sh)) (.pr (.ow .sh) (.pr (.ow .sh) .sh)))), F_i_Disk_nodeAt d id⟩, ⟨(.int .i64), .sh, F_i_Disk_nodeAt_1 d id⟩], []⟩
  generalize hg_F_i_ReadNode : F_i_ReadNode = g_F_i_ReadNode
  generalize hg_Q_i_ReadNode : Q_i_ReadNode = g_Q_i_ReadNode
  generalize hg_F_i_Disk_pageAt : F_i_Disk_pageAt = g_F_i_Disk_pageAt
  generalize hg_F_i_Disk_pageAt_1 : F_i_Disk_pageAt_1 = g_F_i_Disk_pageAt_1
  generalize hg_Q_i_Disk_pageAt : Q_i_Disk_pageAt = g_Q_i_Disk_pageAt
  generalize hR0 : F_i_Disk_nodeAt d id = R0
  generalize hR1 : F_i_Disk_nodeAt_1 d id = R1
  generalize Q_i_Disk_nodeAt d id = Q0
  generalize hL : Lg.std = L
  generalize hA : Alg.std = A
  cbv
  subst hL hA
  try dsimp only [Ty.den]
  obtain ⟨d_0, d_1, ⟨⟩⟩ := d
  have hrl := readD_len (d := (d_0, d_1, PUnit.unit)) (k := 64) hq id
  have hl8 : d_0.length ≤ 64 := hq.1.2
  have hpb := pageAt_body (d := (d_0, d_1, PUnit.unit)) (k := 64) hq id
  subst hR0 hR1 hg_F_i_ReadNode hg_Q_i_ReadNode hg_F_i_Disk_pageAt hg_F_i_Disk_pageAt_1 hg_Q_i_Disk_pageAt
  simp only [Q_i_Disk_nodeAt] at hq
  simp only [Lg.std, Alg.std, List.drop_zero, List.take_length, F_i_ReadNode, F_i_Disk_pageAt, F_i_Disk_pageAt_1, Q_i_ReadNode, Q_i_Disk_pageAt, F_i_Disk_nodeAt, F_i_Disk_nodeAt_1, nodeAt, pageAt, zPage, zNode] at *
  try simp only [true_and, and_true, false_implies, implies_true, imp_self]
  generalize hG : GoodW (d_0, d_1, PUnit.unit) 64 = G at *
  repeat' (first | intro _ | apply And.intro)
  all_goals grind
def con_i_Disk_nodeAt : Con := ⟨true, g2 (pD (.pair (.sl (.sl (.int .u8))) (.pair (.sl (.pair (.int .i64) (.pair (.sl (.int .u8)) .unit))) .unit))) (pD (.int .i64)) fun d id => ⟨[Q_i_Disk_nodeAt d id], [⟨(.pair .bool (.pair (.sl (.sl (.int .u8))) (.pair (.sl (.int .i64)) (.pair (.sl (.int .i64)) .unit)))), (.pr .sh (.pr (.ow (.ow .sh)) (.pr (.ow .sh) (.pr (.ow .sh) .sh)))), F_i_Disk_nodeAt d id⟩, ⟨(.int .i64), .sh, F_i_Disk_nodeAt_1 d id⟩], []⟩, []⟩
theorem ok_i_Disk_nodeAt : ConOk pg 127 con_i_Disk_nodeAt := ConOk.g2 (Enters.of (by kernel_rfl)) ct_i_Disk_nodeAt

def F_s_l15At (d : (List (List (Int))) × (List ((Int) × (List (Int)) × Unit)) × Unit) (id : Int) : (Bool) × (List (List (Int))) × (List (Int)) × (List (Int)) × Unit := (nodeAt d id).2.1
def F_s_l15At_1 (d : (List (List (Int))) × (List ((Int) × (List (Int)) × Unit)) × Unit) (id : Int) : Int := (nodeAt d id).1
def Q_s_l15At (d : (List (List (Int))) × (List ((Int) × (List (Int)) × Unit)) × Unit) (id : Int) : Prop := GoodW d 64
def O_s_l15At : Opt := ⟨fun i => false, fun i => [], fun i => (match decide (i = 7) with | true => (.take 0 (.take 2 (.alt 1 (.alt 3 (.alt 4 (.take 5 .done) .no) (.alt 4 (.alt 3 (.take 5 .done) .no) .no)) (.alt 3 (.alt 1 (.alt 4 (.take 5 .done) .no) .no) .no)))) | false => .done), fun i => (match decide (i = 7) with | true => some [false, false, false, false, true, true, false, false, false, false, false, false, false, false, false, false, false, false, false, false, false, false, false, false, false, false, false, false, false, false, false, false, false, false, false, false, false, false, false, false] | false => none), fun i => false, fun i => []⟩
def τ_s_l15At : Env := Env.of [(2, (.int .i64)), (3, (.int .i64)), (4, .bool), (5, (.int .u8)), (22, (.sl (.sl (.int .u8)))), (26, (.sl (.int .u8))), (30, (.pair (.sl (.sl (.int .u8))) (.pair (.sl (.pair (.int .i64) (.pair (.sl (.int .u8)) .unit))) .unit))), (88, (.pair .bool (.pair (.sl (.sl (.int .u8))) (.pair (.sl (.int .i64)) (.pair (.sl (.int .i64)) .unit))))), (90, (.pair (.int .i64) (.pair (.pair .bool (.pair (.sl (.sl (.int .u8))) (.pair (.sl (.int .i64)) (.pair (.sl (.int .i64)) .unit)))) .unit))), (105, (.pair (.int .i64) (.pair (.int .i64) (.pair (.sl (.int .u8)) .unit))))] [(114, (.pair (.sl (.sl (.int .u8))) (.pair (.sl (.pair (.int .i64) (.pair (.sl (.int .u8)) .unit))) .unit)))] []

theorem ct_s_l15At (d : (List (List (Int))) × (List ((Int) × (List (Int)) × Unit)) × Unit) (id : Int) : Ct pg 126 [.dptr (.pair (.sl (.sl (.int .u8))) (.pair (.sl (.pair (.int .i64) (.pair (.sl (.int .u8)) .unit))) .unit)) d, .dat (.int .i64) id] ⟨[Q_s_l15At d id], [⟨(.pair .bool (.pair (.sl (.sl (.int .u8))) (.pair (.sl (.int .i64)) (.pair (.sl (.int .i64)) .unit)))), (.pr .sh (.pr (.ow (.ow .sh)) (.pr (.ow .sh) (.pr (.ow .sh) .sh)))), F_s_l15At d id⟩, ⟨(.int .i64), .sh, F_s_l15At_1 d id⟩], []⟩ := by
  refine ct_claim (O := O_s_l15At) (τ := τ_s_l15At) (EnvOk.of (by kernel_rfl) (by kernel_rfl)) (GOk.of (.cons ok_s_l1In (.cons ok_s_l15Read (.cons ok_s_ReadNode (.cons ok_s_l14Read .nil))) : AllOk pg [(143, con_s_l1In), (165, con_s_l15Read), (170, con_s_ReadNode), (166, con_s_l14Read)])) mixed (Enters.of (by kernel_rfl)) (fn := Go.Proofs.Try.f126) (by kernel_rfl) rfl (by kernel_rfl) ?_
  intro hp hw
  have hq : Q_s_l15At d id := hp _ (List.mem_singleton.2 rfl)
  clear hp
  change claim Lg.std Alg.std τ_s_l15At (Gam.of [(143, ⟨true, g3 (pD (.int .i64)) (pD (.int .i64)) (pD (.int .i64)) fun n lo hi => ⟨[Q_s_l1In n lo hi], [⟨.bool, .sh, F_s_l1In n lo hi⟩], []⟩, []⟩), (165, ⟨true, g2 (pD (.sl (.int .u8))) (pD (.int .i64)) fun data id => ⟨[Q_s_l15Read data id], [⟨(.pair (.int .i64) (.pair (.int .i64) (.pair (.sl (.int .u8)) .unit))), (.pr .sh (.pr .sh (.pr (.ow .sh) .sh))), F_s_l15Read data id⟩, ⟨(.int .i64), .sh, F_s_l15Read_1 data id⟩], []⟩, []⟩), (170, ⟨true, g2 (pD (.int .i64)) (pD (.sl (.int .u8))) fun kind body => ⟨[Q_s_ReadNode kind body], [⟨(.pair (.int .i64) (.pair (.pair .bool (.pair (.sl (.sl (.int .u8))) (.pair (.sl (.int .i64)) (.pair (.sl (.int .i64)) .unit)))) .unit)), (.pr .sh (.pr (.pr .sh (.pr (.ow (.ow .sh)) (.pr (.ow .sh) (.pr (.ow .sh) .sh)))) .sh)), F_s_ReadNode kind body⟩], []⟩, []⟩), (166, ⟨true, g2 (pP (.pair (.sl (.sl (.int .u8))) (.pair (.sl (.pair (.int .i64) (.pair (.sl (.int .u8)) .unit))) .unit))) (pD (.int .i64)) fun d n => ⟨[Q_s_l14Read d n], [⟨(.sl (.int .u8)), .sh, F_s_l14Read d n⟩], []⟩, []⟩)]) O_s_l15At Go.Proofs.Try.f126 [.dptr (.pair (.sl (.sl (.int .u8))) (.pair (.sl (.pair (.int .i64) (.pair (.sl (.int .u8)) .unit))) .unit)) d, .dat (.int .i64) id] ⟨[Q_s_l15At d id], [⟨(.pair .bool (.pair (.sl (.sl (.int .u8))) (.pair (.sl (.int .i64)) (.pair (.sl (.int .i64)) .unit)))), (.pr .sh (.pr (.ow (.ow .sh)) (.pr (.ow .sh) (.pr (.ow .sh) .sh)))), F_s_l15At d id⟩, ⟨(.int .i64), .sh, F_s_l15At_1 d id⟩], []⟩
  generalize hg_F_s_l1In : F_s_l1In = g_F_s_l1In
  generalize hg_Q_s_l1In : Q_s_l1In = g_Q_s_l1In
  generalize hg_F_s_l15Read : F_s_l15Read = g_F_s_l15Read
  generalize hg_F_s_l15Read_1 : F_s_l15Read_1 = g_F_s_l15Read_1
  generalize hg_Q_s_l15Read : Q_s_l15Read = g_Q_s_l15Read
  generalize hg_F_s_ReadNode : F_s_ReadNode = g_F_s_ReadNode
  generalize hg_Q_s_ReadNode : Q_s_ReadNode = g_Q_s_ReadNode
  generalize hg_F_s_l14Read : F_s_l14Read = g_F_s_l14Read
  generalize hg_Q_s_l14Read : Q_s_l14Read = g_Q_s_l14Read
  generalize hR0 : F_s_l15At d id = R0
  generalize hR1 : F_s_l15At_1 d id = R1
  generalize Q_s_l15At d id = Q0
  generalize hL : Lg.std = L
  generalize hA : Alg.std = A
  cbv
  subst hL hA
  try dsimp only [Ty.den]
  obtain ⟨d_0, d_1, ⟨⟩⟩ := d
  have hrl := readD_len (d := (d_0, d_1, PUnit.unit)) (k := 64) hq id
  have hl8 : d_0.length ≤ 64 := hq.1.2
  have hpb := pageAt_body (d := (d_0, d_1, PUnit.unit)) (k := 64) hq id
  subst hR0 hR1 hg_F_s_l1In hg_Q_s_l1In hg_F_s_l15Read hg_F_s_l15Read_1 hg_Q_s_l15Read hg_F_s_ReadNode hg_Q_s_ReadNode hg_F_s_l14Read hg_Q_s_l14Read
  simp only [Q_s_l15At] at hq
  simp only [Lg.std, Alg.std, List.drop_zero, List.take_length, F_s_l1In, F_s_l15Read, F_s_ReadNode, F_s_l14Read, F_s_l15Read_1, Q_s_l1In, Q_s_l15Read, Q_s_ReadNode, Q_s_l14Read, F_s_l15At, F_s_l15At_1, nodeAt, pageAt, zPage, zNode] at *
  try simp only [true_and, and_true, false_implies, implies_true, imp_self]
  generalize hG : GoodW (d_0, d_1, PUnit.unit) 64 = G at *
  repeat' (first | intro _ | apply And.intro)
  all_goals grind
def con_s_l15At : Con := ⟨true, g2 (pP (.pair (.sl (.sl (.int .u8))) (.pair (.sl (.pair (.int .i64) (.pair (.sl (.int .u8)) .unit))) .unit))) (pD (.int .i64)) fun d id => ⟨[Q_s_l15At d id], [⟨(.pair .bool (.pair (.sl (.sl (.int .u8))) (.pair (.sl (.int .i64)) (.pair (.sl (.int .i64)) .unit)))), (.pr .sh (.pr (.ow (.ow .sh)) (.pr (.ow .sh) (.pr (.ow .sh) .sh)))), F_s_l15At d id⟩, ⟨(.int .i64), .sh, F_s_l15At_1 d id⟩], []⟩, []⟩
theorem ok_s_l15At : ConOk pg 126 con_s_l15At := ConOk.g2 (Enters.of (by kernel_rfl)) ct_s_l15At

def F_s_NodeAt (d : (List (List (Int))) × (List ((Int) × (List (Int)) × Unit)) × Unit) (id : Int) : (Int) × ((Bool) × (List (List (Int))) × (List (Int)) × (List (Int)) × Unit) × Unit := nodeAtD d id
def Q_s_NodeAt (d : (List (List (Int))) × (List ((Int) × (List (Int)) × Unit)) × Unit) (id : Int) : Prop := True
def O_s_NodeAt : Opt := ⟨fun i => false, fun i => [], fun i => .done, fun i => none, fun i => false, fun i => []⟩
def τ_s_NodeAt : Env := Env.of [(2, (.int .i64)), (4, .bool), (30, (.pair (.sl (.sl (.int .u8))) (.pair (.sl (.pair (.int .i64) (.pair (.sl (.int .u8)) .unit))) .unit))), (88, (.pair .bool (.pair (.sl (.sl (.int .u8))) (.pair (.sl (.int .i64)) (.pair (.sl (.int .i64)) .unit))))), (90, (.pair (.int .i64) (.pair (.pair .bool (.pair (.sl (.sl (.int .u8))) (.pair (.sl (.int .i64)) (.pair (.sl (.int .i64)) .unit)))) .unit)))] [(114, (.pair (.sl (.sl (.int .u8))) (.pair (.sl (.pair (.int .i64) (.pair (.sl (.int .u8)) .unit))) .unit)))] []

theorem ct_s_NodeAt (d : (List (List (Int))) × (List ((Int) × (List (Int)) × Unit)) × Unit) (id : Int) : Ct pg 61 [.dat (.pair (.sl (.sl (.int .u8))) (.pair (.sl (.pair (.int .i64) (.pair (.sl (.int .u8)) .unit))) .unit)) d, .dat (.int .i64) id] ⟨[Q_s_NodeAt d id], [⟨(.pair (.int .i64) (.pair (.pair .bool (.pair (.sl (.sl (.int .u8))) (.pair (.sl (.int .i64)) (.pair (.sl (.int .i64)) .unit)))) .unit)), (.pr .sh (.pr (.pr .sh (.pr (.ow (.ow .sh)) (.pr (.ow .sh) (.pr (.ow .sh) .sh)))) .sh)), F_s_NodeAt d id⟩], []⟩ := by
  refine ct_claim (O := O_s_NodeAt) (τ := τ_s_NodeAt) (EnvOk.of (by kernel_rfl) (by kernel_rfl)) (GOk.of (.cons ok_s_DiskFault (.cons ok_s_l15At .nil) : AllOk pg [(81, con_s_DiskFault), (126, con_s_l15At)])) mixed (Enters.of (by kernel_rfl)) (fn := Go.Proofs.Try.f61) (by kernel_rfl) rfl (by kernel_rfl) ?_
  intro hp hw
  have hq : Q_s_NodeAt d id := hp _ (List.mem_singleton.2 rfl)
  clear hp
  change claim Lg.std Alg.std τ_s_NodeAt (Gam.of [(81, ⟨true, g1 (pD (.pair (.sl (.sl (.int .u8))) (.pair (.sl (.pair (.int .i64) (.pair (.sl (.int .u8)) .unit))) .unit))) fun d => ⟨[Q_s_DiskFault d], [⟨(.int .i64), .sh, F_s_DiskFault d⟩], []⟩, []⟩), (126, ⟨true, g2 (pP (.pair (.sl (.sl (.int .u8))) (.pair (.sl (.pair (.int .i64) (.pair (.sl (.int .u8)) .unit))) .unit))) (pD (.int .i64)) fun d id => ⟨[Q_s_l15At d id], [⟨(.pair .bool (.pair (.sl (.sl (.int .u8))) (.pair (.sl (.int .i64)) (.pair (.sl (.int .i64)) .unit)))), (.pr .sh (.pr (.ow (.ow .sh)) (.pr (.ow .sh) (.pr (.ow .sh) .sh)))), F_s_l15At d id⟩, ⟨(.int .i64), .sh, F_s_l15At_1 d id⟩], []⟩, []⟩)]) O_s_NodeAt Go.Proofs.Try.f61 [.dat (.pair (.sl (.sl (.int .u8))) (.pair (.sl (.pair (.int .i64) (.pair (.sl (.int .u8)) .unit))) .unit)) d, .dat (.int .i64) id] ⟨[Q_s_NodeAt d id], [⟨(.pair (.int .i64) (.pair (.pair .bool (.pair (.sl (.sl (.int .u8))) (.pair (.sl (.int .i64)) (.pair (.sl (.int .i64)) .unit)))) .unit)), (.pr .sh (.pr (.pr .sh (.pr (.ow (.ow .sh)) (.pr (.ow .sh) (.pr (.ow .sh) .sh)))) .sh)), F_s_NodeAt d id⟩], []⟩
  generalize hg_F_s_DiskFault : F_s_DiskFault = g_F_s_DiskFault
  generalize hg_Q_s_DiskFault : Q_s_DiskFault = g_Q_s_DiskFault
  generalize hg_F_s_l15At : F_s_l15At = g_F_s_l15At
  generalize hg_F_s_l15At_1 : F_s_l15At_1 = g_F_s_l15At_1
  generalize hg_Q_s_l15At : Q_s_l15At = g_Q_s_l15At
  generalize hR0 : F_s_NodeAt d id = R0
  generalize Q_s_NodeAt d id = Q0
  generalize hL : Lg.std = L
  generalize hA : Alg.std = A
  cbv
  subst hL hA
  try dsimp only [Ty.den]
  obtain ⟨d_0, d_1, ⟨⟩⟩ := d
  have hgd := fun h => (diskFault_good (d_0, d_1, PUnit.unit) h).w
  subst hR0 hg_F_s_DiskFault hg_Q_s_DiskFault hg_F_s_l15At hg_F_s_l15At_1 hg_Q_s_l15At
  simp only [Lg.std, Alg.std, List.drop_zero, List.take_length, F_s_DiskFault, F_s_l15At, F_s_l15At_1, Q_s_DiskFault, Q_s_l15At, F_s_NodeAt, nodeAtD] at *
  try simp only [true_and, and_true, false_implies, implies_true, imp_self]
  generalize hG : GoodW (d_0, d_1, PUnit.unit) 64 = G at *
  repeat' (first | intro _ | apply And.intro)
  all_goals grind
def con_s_NodeAt : Con := ⟨true, g2 (pD (.pair (.sl (.sl (.int .u8))) (.pair (.sl (.pair (.int .i64) (.pair (.sl (.int .u8)) .unit))) .unit))) (pD (.int .i64)) fun d id => ⟨[Q_s_NodeAt d id], [⟨(.pair (.int .i64) (.pair (.pair .bool (.pair (.sl (.sl (.int .u8))) (.pair (.sl (.int .i64)) (.pair (.sl (.int .i64)) .unit)))) .unit)), (.pr .sh (.pr (.pr .sh (.pr (.ow (.ow .sh)) (.pr (.ow .sh) (.pr (.ow .sh) .sh)))) .sh)), F_s_NodeAt d id⟩], []⟩, []⟩
theorem ok_s_NodeAt : ConOk pg 61 con_s_NodeAt := ConOk.g2 (Enters.of (by kernel_rfl)) ct_s_NodeAt

def F_i_NodeAt (d : (List (List (Int))) × (List ((Int) × (List (Int)) × Unit)) × Unit) (id : Int) : (Int) × ((Bool) × (List (List (Int))) × (List (Int)) × (List (Int)) × Unit) × Unit := nodeAtD d id
def Q_i_NodeAt (d : (List (List (Int))) × (List ((Int) × (List (Int)) × Unit)) × Unit) (id : Int) : Prop := True
def O_i_NodeAt : Opt := ⟨fun i => false, fun i => [], fun i => .done, fun i => none, fun i => false, fun i => []⟩
def τ_i_NodeAt : Env := Env.of [(2, (.int .i64)), (4, .bool), (30, (.pair (.sl (.sl (.int .u8))) (.pair (.sl (.pair (.int .i64) (.pair (.sl (.int .u8)) .unit))) .unit))), (88, (.pair .bool (.pair (.sl (.sl (.int .u8))) (.pair (.sl (.int .i64)) (.pair (.sl (.int .i64)) .unit))))), (90, (.pair (.int .i64) (.pair (.pair .bool (.pair (.sl (.sl (.int .u8))) (.pair (.sl (.int .i64)) (.pair (.sl (.int .i64)) .unit)))) .unit)))] [] []

theorem ct_i_NodeAt (d : (List (List (Int))) × (List ((Int) × (List (Int)) × Unit)) × Unit) (id : Int) : Ct pg 62 [.dat (.pair (.sl (.sl (.int .u8))) (.pair (.sl (.pair (.int .i64) (.pair (.sl (.int .u8)) .unit))) .unit)) d, .dat (.int .i64) id] ⟨[Q_i_NodeAt d id], [⟨(.pair (.int .i64) (.pair (.pair .bool (.pair (.sl (.sl (.int .u8))) (.pair (.sl (.int .i64)) (.pair (.sl (.int .i64)) .unit)))) .unit)), (.pr .sh (.pr (.pr .sh (.pr (.ow (.ow .sh)) (.pr (.ow .sh) (.pr (.ow .sh) .sh)))) .sh)), F_i_NodeAt d id⟩], []⟩ := by
  refine ct_claim (O := O_i_NodeAt) (τ := τ_i_NodeAt) (EnvOk.of (by kernel_rfl) (by kernel_rfl)) (GOk.of (.cons ok_i_DiskFault (.cons ok_i_Disk_nodeAt .nil) : AllOk pg [(88, con_i_DiskFault), (127, con_i_Disk_nodeAt)])) mixed (Enters.of (by kernel_rfl)) (fn := Go.Proofs.Try.f62) (by kernel_rfl) rfl (by kernel_rfl) ?_
  intro hp hw
  have hq : Q_i_NodeAt d id := hp _ (List.mem_singleton.2 rfl)
  clear hp
  change claim Lg.std Alg.std τ_i_NodeAt (Gam.of [(88, ⟨true, g1 (pD (.pair (.sl (.sl (.int .u8))) (.pair (.sl (.pair (.int .i64) (.pair (.sl (.int .u8)) .unit))) .unit))) fun d => ⟨[Q_i_DiskFault d], [⟨(.int .i64), .sh, F_i_DiskFault d⟩], []⟩, []⟩), (127, ⟨true, g2 (pD (.pair (.sl (.sl (.int .u8))) (.pair (.sl (.pair (.int .i64) (.pair (.sl (.int .u8)) .unit))) .unit))) (pD (.int .i64)) fun d id => ⟨[Q_i_Disk_nodeAt d id], [⟨(.pair .bool (.pair (.sl (.sl (.int .u8))) (.pair (.sl (.int .i64)) (.pair (.sl (.int .i64)) .unit)))), (.pr .sh (.pr (.ow (.ow .sh)) (.pr (.ow .sh) (.pr (.ow .sh) .sh)))), F_i_Disk_nodeAt d id⟩, ⟨(.int .i64), .sh, F_i_Disk_nodeAt_1 d id⟩], []⟩, []⟩)]) O_i_NodeAt Go.Proofs.Try.f62 [.dat (.pair (.sl (.sl (.int .u8))) (.pair (.sl (.pair (.int .i64) (.pair (.sl (.int .u8)) .unit))) .unit)) d, .dat (.int .i64) id] ⟨[Q_i_NodeAt d id], [⟨(.pair (.int .i64) (.pair (.pair .bool (.pair (.sl (.sl (.int .u8))) (.pair (.sl (.int .i64)) (.pair (.sl (.int .i64)) .unit)))) .unit)), (.pr .sh (.pr (.pr .sh (.pr (.ow (.ow .sh)) (.pr (.ow .sh) (.pr (.ow .sh) .sh)))) .sh)), F_i_NodeAt d id⟩], []⟩
  generalize hg_F_i_DiskFault : F_i_DiskFault = g_F_i_DiskFault
  generalize hg_Q_i_DiskFault : Q_i_DiskFault = g_Q_i_DiskFault
  generalize hg_F_i_Disk_nodeAt : F_i_Disk_nodeAt = g_F_i_Disk_nodeAt
  generalize hg_F_i_Disk_nodeAt_1 : F_i_Disk_nodeAt_1 = g_F_i_Disk_nodeAt_1
  generalize hg_Q_i_Disk_nodeAt : Q_i_Disk_nodeAt = g_Q_i_Disk_nodeAt
  generalize hR0 : F_i_NodeAt d id = R0
  generalize Q_i_NodeAt d id = Q0
  generalize hL : Lg.std = L
  generalize hA : Alg.std = A
  cbv
  subst hL hA
  try dsimp only [Ty.den]
  obtain ⟨d_0, d_1, ⟨⟩⟩ := d
  have hgd := fun h => (diskFault_good (d_0, d_1, PUnit.unit) h).w
  subst hR0 hg_F_i_DiskFault hg_Q_i_DiskFault hg_F_i_Disk_nodeAt hg_F_i_Disk_nodeAt_1 hg_Q_i_Disk_nodeAt
  simp only [Lg.std, Alg.std, List.drop_zero, List.take_length, F_i_DiskFault, F_i_Disk_nodeAt, F_i_Disk_nodeAt_1, Q_i_DiskFault, Q_i_Disk_nodeAt, F_i_NodeAt, nodeAtD] at *
  try simp only [true_and, and_true, false_implies, implies_true, imp_self]
  generalize hG : GoodW (d_0, d_1, PUnit.unit) 64 = G at *
  repeat' (first | intro _ | apply And.intro)
  all_goals grind
def con_i_NodeAt : Con := ⟨true, g2 (pD (.pair (.sl (.sl (.int .u8))) (.pair (.sl (.pair (.int .i64) (.pair (.sl (.int .u8)) .unit))) .unit))) (pD (.int .i64)) fun d id => ⟨[Q_i_NodeAt d id], [⟨(.pair (.int .i64) (.pair (.pair .bool (.pair (.sl (.sl (.int .u8))) (.pair (.sl (.int .i64)) (.pair (.sl (.int .i64)) .unit)))) .unit)), (.pr .sh (.pr (.pr .sh (.pr (.ow (.ow .sh)) (.pr (.ow .sh) (.pr (.ow .sh) .sh)))) .sh)), F_i_NodeAt d id⟩], []⟩, []⟩
theorem ok_i_NodeAt : ConOk pg 62 con_i_NodeAt := ConOk.g2 (Enters.of (by kernel_rfl)) ct_i_NodeAt

def F_w_FnExactNodeAt (d : (List (List (Int))) × (List ((Int) × (List (Int)) × Unit)) × Unit) (i : Int) : Bool := true
def Q_w_FnExactNodeAt (d : (List (List (Int))) × (List ((Int) × (List (Int)) × Unit)) × Unit) (i : Int) : Prop := True
def O_w_FnExactNodeAt : Opt := ⟨fun i => false, fun i => [], fun i => (match decide (i = 10) with | true => (.alt 0 (.alt 1 (.alt 2 (.alt 3 (.take 4 .done) .no) .no) .no) (.alt 1 (.alt 0 (.alt 2 (.alt 3 (.take 4 .done) .no) .no) (.alt 2 (.alt 0 (.alt 3 (.take 4 .done) .no) .no) .no)) .no)) | false => .done), fun i => (match decide (i = 10) with | true => some [false, true, true, false, false, false, true, true, true, false, false, false, false, false, false, false, false, false, false, false, false, false, false, false, false, false, false, false, false, false, false, false, false, false, false, true, false, false, false, false, false, false, false, false, false, false, false, false, false, false, false, false, false, false, false, false, false, false, false, false, false, false, false, false, false, false, false, false, false, false, false, false, false, false] | false => none), fun i => false, fun i => []⟩
def τ_w_FnExactNodeAt : Env := Env.of [(2, (.int .i64)), (3, (.int .i64)), (4, .bool), (25, (.pair (.sl (.sl (.int .u8))) (.pair (.sl (.pair (.int .i64) (.pair (.sl (.int .u8)) .unit))) .unit))), (30, (.pair (.sl (.sl (.int .u8))) (.pair (.sl (.pair (.int .i64) (.pair (.sl (.int .u8)) .unit))) .unit))), (90, (.pair (.int .i64) (.pair (.pair .bool (.pair (.sl (.sl (.int .u8))) (.pair (.sl (.int .i64)) (.pair (.sl (.int .i64)) .unit)))) .unit)))] [] []

theorem ct_w_FnExactNodeAt (d : (List (List (Int))) × (List ((Int) × (List (Int)) × Unit)) × Unit) (i : Int) : Ct pg 10 [.dat (.pair (.sl (.sl (.int .u8))) (.pair (.sl (.pair (.int .i64) (.pair (.sl (.int .u8)) .unit))) .unit)) d, .dat (.int .i64) i] ⟨[Q_w_FnExactNodeAt d i], [⟨.bool, .sh, F_w_FnExactNodeAt d i⟩], []⟩ := by
  refine ct_claim (O := O_w_FnExactNodeAt) (τ := τ_w_FnExactNodeAt) (EnvOk.of (by kernel_rfl) (by kernel_rfl)) (GOk.of (.cons ok_w_toDisk (.cons ok_w_eqDisk (.cons ok_w_szDisk (.cons ok_w_markDisk (.cons ok_w_eqNodeResult (.cons ok_w_markNodeResult (.cons ok_w_heldNodeResult (.cons ok_s_NodeAt (.cons ok_i_NodeAt .nil)))))))) : AllOk pg [(16, con_w_toDisk), (20, con_w_eqDisk), (14, con_w_szDisk), (22, con_w_markDisk), (63, con_w_eqNodeResult), (64, con_w_markNodeResult), (65, con_w_heldNodeResult), (61, con_s_NodeAt), (62, con_i_NodeAt)])) mixed (Enters.of (by kernel_rfl)) (fn := Go.Proofs.Try.f10) (by kernel_rfl) rfl (by kernel_rfl) ?_
  intro hp hw
  have hq : Q_w_FnExactNodeAt d i := hp _ (List.mem_singleton.2 rfl)
  clear hp
  change claim Lg.std Alg.std τ_w_FnExactNodeAt (Gam.of [(16, ⟨true, g1 (pD (.pair (.sl (.sl (.int .u8))) (.pair (.sl (.pair (.int .i64) (.pair (.sl (.int .u8)) .unit))) .unit))) fun a => ⟨[Q_w_toDisk a], [⟨(.pair (.sl (.sl (.int .u8))) (.pair (.sl (.pair (.int .i64) (.pair (.sl (.int .u8)) .unit))) .unit)), (.pr (.ow (.ow .sh)) (.pr (.ow (.pr .sh (.pr (.ow .sh) .sh))) .sh)), F_w_toDisk a⟩], []⟩, []⟩), (20, ⟨true, g2 (pD (.pair (.sl (.sl (.int .u8))) (.pair (.sl (.pair (.int .i64) (.pair (.sl (.int .u8)) .unit))) .unit))) (pD (.pair (.sl (.sl (.int .u8))) (.pair (.sl (.pair (.int .i64) (.pair (.sl (.int .u8)) .unit))) .unit))) fun a b => ⟨[Q_w_eqDisk a b], [⟨.bool, .sh, F_w_eqDisk a b⟩], []⟩, []⟩), (14, ⟨true, g2 (pD (.pair (.sl (.sl (.int .u8))) (.pair (.sl (.pair (.int .i64) (.pair (.sl (.int .u8)) .unit))) .unit))) (pD (.int .i64)) fun a left => ⟨[Q_w_szDisk a left], [⟨(.int .i64), .sh, F_w_szDisk a left⟩], []⟩, []⟩), (22, ⟨true, g2 (pV (.pair (.sl (.sl (.int .u8))) (.pair (.sl (.pair (.int .i64) (.pair (.sl (.int .u8)) .unit))) .unit)) (.pr (.ow (.ow .sh)) (.pr (.ow (.pr .sh (.pr (.ow .sh) .sh))) .sh))) (pD (.int .i64)) fun a k => ⟨[Q_w_markDisk a k], [⟨(.int .i64), .sh, F_w_markDisk a k⟩], [.mv (.pair (.sl (.sl (.int .u8))) (.pair (.sl (.pair (.int .i64) (.pair (.sl (.int .u8)) .unit))) .unit)) (.pr (.ow (.ow .sh)) (.pr (.ow (.pr .sh (.pr (.ow .sh) .sh))) .sh)) (B_w_markDisk_a a k)]⟩, [(.pr (.ow (.ow .sh)) (.pr (.ow (.pr .sh (.pr (.ow .sh) .sh))) .sh))]⟩), (63, ⟨true, g2 (pD (.pair (.int .i64) (.pair (.pair .bool (.pair (.sl (.sl (.int .u8))) (.pair (.sl (.int .i64)) (.pair (.sl (.int .i64)) .unit)))) .unit))) (pD (.pair (.int .i64) (.pair (.pair .bool (.pair (.sl (.sl (.int .u8))) (.pair (.sl (.int .i64)) (.pair (.sl (.int .i64)) .unit)))) .unit))) fun a b => ⟨[Q_w_eqNodeResult a b], [⟨.bool, .sh, F_w_eqNodeResult a b⟩], []⟩, []⟩), (64, ⟨true, g2 (pV (.pair (.int .i64) (.pair (.pair .bool (.pair (.sl (.sl (.int .u8))) (.pair (.sl (.int .i64)) (.pair (.sl (.int .i64)) .unit)))) .unit)) (.pr .sh (.pr (.pr .sh (.pr (.ow (.ow .sh)) (.pr (.ow .sh) (.pr (.ow .sh) .sh)))) .sh))) (pD (.int .i64)) fun a k => ⟨[Q_w_markNodeResult a k], [⟨(.int .i64), .sh, F_w_markNodeResult a k⟩], [.mv (.pair (.int .i64) (.pair (.pair .bool (.pair (.sl (.sl (.int .u8))) (.pair (.sl (.int .i64)) (.pair (.sl (.int .i64)) .unit)))) .unit)) (.pr .sh (.pr (.pr .sh (.pr (.ow (.ow .sh)) (.pr (.ow .sh) (.pr (.ow .sh) .sh)))) .sh)) (B_w_markNodeResult_a a k)]⟩, [(.pr .sh (.pr (.pr .sh (.pr (.ow (.ow .sh)) (.pr (.ow .sh) (.pr (.ow .sh) .sh)))) .sh))]⟩), (65, ⟨true, g2 (pD (.pair (.int .i64) (.pair (.pair .bool (.pair (.sl (.sl (.int .u8))) (.pair (.sl (.int .i64)) (.pair (.sl (.int .i64)) .unit)))) .unit))) (pD (.int .i64)) fun a k => ⟨[Q_w_heldNodeResult a k], [⟨(.int .i64), .sh, F_w_heldNodeResult a k⟩], []⟩, []⟩), (61, ⟨true, g2 (pD (.pair (.sl (.sl (.int .u8))) (.pair (.sl (.pair (.int .i64) (.pair (.sl (.int .u8)) .unit))) .unit))) (pD (.int .i64)) fun d id => ⟨[Q_s_NodeAt d id], [⟨(.pair (.int .i64) (.pair (.pair .bool (.pair (.sl (.sl (.int .u8))) (.pair (.sl (.int .i64)) (.pair (.sl (.int .i64)) .unit)))) .unit)), (.pr .sh (.pr (.pr .sh (.pr (.ow (.ow .sh)) (.pr (.ow .sh) (.pr (.ow .sh) .sh)))) .sh)), F_s_NodeAt d id⟩], []⟩, []⟩), (62, ⟨true, g2 (pD (.pair (.sl (.sl (.int .u8))) (.pair (.sl (.pair (.int .i64) (.pair (.sl (.int .u8)) .unit))) .unit))) (pD (.int .i64)) fun d id => ⟨[Q_i_NodeAt d id], [⟨(.pair (.int .i64) (.pair (.pair .bool (.pair (.sl (.sl (.int .u8))) (.pair (.sl (.int .i64)) (.pair (.sl (.int .i64)) .unit)))) .unit)), (.pr .sh (.pr (.pr .sh (.pr (.ow (.ow .sh)) (.pr (.ow .sh) (.pr (.ow .sh) .sh)))) .sh)), F_i_NodeAt d id⟩], []⟩, []⟩)]) O_w_FnExactNodeAt Go.Proofs.Try.f10 [.dat (.pair (.sl (.sl (.int .u8))) (.pair (.sl (.pair (.int .i64) (.pair (.sl (.int .u8)) .unit))) .unit)) d, .dat (.int .i64) i] ⟨[Q_w_FnExactNodeAt d i], [⟨.bool, .sh, F_w_FnExactNodeAt d i⟩], []⟩
  generalize hg_F_w_toDisk : F_w_toDisk = g_F_w_toDisk
  generalize hg_Q_w_toDisk : Q_w_toDisk = g_Q_w_toDisk
  generalize hg_F_w_eqDisk : F_w_eqDisk = g_F_w_eqDisk
  generalize hg_Q_w_eqDisk : Q_w_eqDisk = g_Q_w_eqDisk
  generalize hg_F_w_szDisk : F_w_szDisk = g_F_w_szDisk
  generalize hg_Q_w_szDisk : Q_w_szDisk = g_Q_w_szDisk
  generalize hg_F_w_markDisk : F_w_markDisk = g_F_w_markDisk
  generalize hg_B_w_markDisk_a : B_w_markDisk_a = g_B_w_markDisk_a
  generalize hg_Q_w_markDisk : Q_w_markDisk = g_Q_w_markDisk
  generalize hg_F_w_eqNodeResult : F_w_eqNodeResult = g_F_w_eqNodeResult
  generalize hg_Q_w_eqNodeResult : Q_w_eqNodeResult = g_Q_w_eqNodeResult
  generalize hg_F_w_markNodeResult : F_w_markNodeResult = g_F_w_markNodeResult
  generalize hg_B_w_markNodeResult_a : B_w_markNodeResult_a = g_B_w_markNodeResult_a
  generalize hg_Q_w_markNodeResult : Q_w_markNodeResult = g_Q_w_markNodeResult
  generalize hg_F_w_heldNodeResult : F_w_heldNodeResult = g_F_w_heldNodeResult
  generalize hg_Q_w_heldNodeResult : Q_w_heldNodeResult = g_Q_w_heldNodeResult
  generalize hg_F_s_NodeAt : F_s_NodeAt = g_F_s_NodeAt
  generalize hg_Q_s_NodeAt : Q_s_NodeAt = g_Q_s_NodeAt
  generalize hg_F_i_NodeAt : F_i_NodeAt = g_F_i_NodeAt
  generalize hg_Q_i_NodeAt : Q_i_NodeAt = g_Q_i_NodeAt
  generalize hR0 : F_w_FnExactNodeAt d i = R0
  generalize Q_w_FnExactNodeAt d i = Q0
  generalize hL : Lg.std = L
  generalize hA : Alg.std = A
  cbv
  subst hL hA
  try dsimp only [Ty.den]
  obtain ⟨d_0, d_1, ⟨⟩⟩ := d
  have hct_d := cnt_tot (.pair (.sl (.sl (.int .u8))) (.pair (.sl (.pair (.int .i64) (.pair (.sl (.int .u8)) .unit))) .unit)) (d_0, d_1, PUnit.unit) (by decide)
  have hcn := nodeAtD_cnt (d_0, d_1, PUnit.unit) i
  have hc0 : cnt false (.pair (.int .i64) (.pair (.pair .bool (.pair (.sl (.sl (.int .u8))) (.pair (.sl (.int .i64)) (.pair (.sl (.int .i64)) .unit)))) .unit)) (nodeAtD (d_0, d_1, PUnit.unit) i) ≤ 100 := by
    simp only [szf, tot_p, tot_u, tot_i, tot_b, tot_s, cnt_p, cnt_u, cnt_i0, cnt_b0, cnt_s0, cnt_i1, cnt_b1, cnt_s1, cnt_l, mk_p, mk_u, mk_i0, mk_b0, mk_s0, mk_i1, mk_s1, mk_l, hd_p, hd_u, hd_i0, hd_b0, hd_s0, hd_i1, hd_b1, hd_s1, hd_l, cnt_int]
    omega
  subst hR0 hg_F_w_toDisk hg_Q_w_toDisk hg_F_w_eqDisk hg_Q_w_eqDisk hg_F_w_szDisk hg_Q_w_szDisk hg_F_w_markDisk hg_B_w_markDisk_a hg_Q_w_markDisk hg_F_w_eqNodeResult hg_Q_w_eqNodeResult hg_F_w_markNodeResult hg_B_w_markNodeResult_a hg_Q_w_markNodeResult hg_F_w_heldNodeResult hg_Q_w_heldNodeResult hg_F_s_NodeAt hg_Q_s_NodeAt hg_F_i_NodeAt hg_Q_i_NodeAt
  simp only [Lg.std, Alg.std, List.drop_zero, List.take_length, F_w_toDisk, F_w_eqDisk, F_w_szDisk, F_w_markDisk, F_w_eqNodeResult, F_w_markNodeResult, F_w_heldNodeResult, F_s_NodeAt, F_i_NodeAt, B_w_markDisk_a, B_w_markNodeResult_a, Q_w_toDisk, Q_w_eqDisk, Q_w_szDisk, Q_w_markDisk, Q_w_eqNodeResult, Q_w_markNodeResult, Q_w_heldNodeResult, Q_s_NodeAt, Q_i_NodeAt, F_w_FnExactNodeAt]
  generalize hW : (nodeAtD (d_0, d_1, PUnit.unit) i : (Int) × ((Bool) × (List (List (Int))) × (List (Int)) × (List (Int)) × Unit) × Unit) = w at *
  clear hW
  obtain ⟨w_0, ⟨w_1_0, w_1_1, w_1_2, w_1_3, ⟨⟩⟩, ⟨⟩⟩ := w
  try dsimp only at *
  have hm := hd_mk false (.pair (.int .i64) (.pair (.pair .bool (.pair (.sl (.sl (.int .u8))) (.pair (.sl (.int .i64)) (.pair (.sl (.int .i64)) .unit)))) .unit)) (w_0, (w_1_0, w_1_1, w_1_2, w_1_3, PUnit.unit), PUnit.unit) 1 (by omega)

  have mt_w_1_1 := fun k => mk_take false (.sl (.int .u8)) w_1_1 k
  dsimp only [Ty.den] at mt_w_1_1
  have mt_w_1_2 := fun k => mk_take false (.int .i64) w_1_2 k
  dsimp only [Ty.den] at mt_w_1_2
  have mt_w_1_3 := fun k => mk_take false (.int .i64) w_1_3 k
  dsimp only [Ty.den] at mt_w_1_3
  simp only [tot_p, tot_u, tot_i, tot_b, tot_s, cnt_p, cnt_u, cnt_i0, cnt_b0, cnt_s0, cnt_i1, cnt_b1, cnt_s1, cnt_l, mk_p, mk_u, mk_i0, mk_b0, mk_s0, mk_i1, mk_s1, mk_l, hd_p, hd_u, hd_i0, hd_b0, hd_s0, hd_i1, hd_b1, hd_s1, hd_l, mt_w_1_1, mt_w_1_2, mt_w_1_3] at *
  repeat' (first | intro _ | apply And.intro)
  all_goals grind [szf, cnt_mk, hd_mk]
def con_w_FnExactNodeAt : Con := ⟨true, g2 (pD (.pair (.sl (.sl (.int .u8))) (.pair (.sl (.pair (.int .i64) (.pair (.sl (.int .u8)) .unit))) .unit))) (pD (.int .i64)) fun d i => ⟨[Q_w_FnExactNodeAt d i], [⟨.bool, .sh, F_w_FnExactNodeAt d i⟩], []⟩, []⟩
theorem ok_w_FnExactNodeAt : ConOk pg 10 con_w_FnExactNodeAt := ConOk.g2 (Enters.of (by kernel_rfl)) ct_w_FnExactNodeAt
end Go.Vee
