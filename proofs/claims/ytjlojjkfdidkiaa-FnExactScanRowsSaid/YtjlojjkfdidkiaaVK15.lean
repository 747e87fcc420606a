/-
  Contracts of functions of the program: what each returns for all arguments that its precondition lets in.
-/
import Derived.Test.YtjlojjkfdidkiaaVK14
set_option linter.unusedSimpArgs false
set_option linter.unusedVariables false
set_option maxRecDepth 100000
set_option maxHeartbeats 4000000
set_option synthInstance.maxHeartbeats 4000000
set_option synthInstance.maxSize 20000000
namespace Go.Vee
open Go
def readD (d : DiskT) (n : Int) : List Int := if 0 ≤ findG (fun x : PutT => decide (x.1 = n)) d.2.1 0 then (d.2.1.getD (findG (fun x : PutT => decide (x.1 = n)) d.2.1 0).toNat putD).2.1 else d.1.getD n.toNat []
theorem readD_len {d : DiskT} {k : Nat} (h : GoodW d k) (n : Int) (hn : 0 ≤ n ∧ n ≤ (d.1.length : Int) - 1) : (readD d n).length = 96 := by
  have hr := findG_range (fun x : PutT => decide (x.1 = n)) d.2.1 0 (by omega)
  unfold readD
  split
  · exact (h.2.2.2 _ (by omega)).2.2
  · exact h.2.1 _ (by omega)
def pageAt (d : DiskT) (id : Int) : Int × (Int × Int × List Int × Unit) := if ¬ (2 ≤ id ∧ id ≤ (d.1.length : Int) - 1) then (3, zPage) else l15Read (readD d id) id
def nodeAt (d : DiskT) (id : Int) : Int × NodeT × Unit :=
  if (pageAt d id).1 ≠ 0 then ((pageAt d id).1, zNode, ()) else readNode (pageAt d id).2.1 (pageAt d id).2.2.2.1
theorem l15Read_body (data : List Int) (id : Int) : (l15Read data id).2.2.2.1.length ≤ data.length := by
  unfold l15Read rdPage
  repeat' split
  all_goals (simp only [zPage, List.length_nil, List.length_take, List.length_drop]; omega)
theorem pageAt_body {d : DiskT} {k : Nat} (h : GoodW d k) (id : Int) : (pageAt d id).2.2.2.1.length ≤ 96 := by
  unfold pageAt
  split
  · simp [zPage]
  · rename_i hn
    have h1 := readD_len h id (by omega)
    have := l15Read_body (readD d id) id
    omega
theorem l15Read_zero (data : List Int) (id : Int) : (l15Read data id).1 = 0 ∨ (l15Read data id).2 = zPage := by
  unfold l15Read
  repeat' split
  all_goals simp

def F_s_l14Read (d : (List (List (Int))) × (List ((Int) × (List (Int)) × Unit)) × Unit) (n : Int) : List (Int) := readD d n
def Q_s_l14Read (d : (List (List (Int))) × (List ((Int) × (List (Int)) × Unit)) × Unit) (n : Int) : Prop := 0 ≤ n ∧ n ≤ (d.1.length : Int) - 1
def O_s_l14Read : Opt := ⟨fun i => false, fun i => [], fun i => .done, fun i => none, fun i => false, fun i => [], fun i => false, fun i => none, fun i => none⟩
def τ_s_l14Read : Env := Env.of [(2, (.int .i64)), (3, (.int .i64)), (4, .bool), (22, (.sl (.sl (.int .u8)))), (28, (.sl (.pair (.int .i64) (.pair (.sl (.int .u8)) .unit)))), (30, (.pair (.sl (.sl (.int .u8))) (.pair (.sl (.pair (.int .i64) (.pair (.sl (.int .u8)) .unit))) .unit))), (34, (.sl (.int .u8))), (120, (.pair (.int .i64) (.pair (.sl (.int .u8)) .unit)))] [(80, (.pair (.sl (.sl (.int .u8))) (.pair (.sl (.pair (.int .i64) (.pair (.sl (.int .u8)) .unit))) .unit)))] []

theorem ct_s_l14Read (d : (List (List (Int))) × (List ((Int) × (List (Int)) × Unit)) × Unit) (n : Int) : Ct pg 134 [.dptr (.pair (.sl (.sl (.int .u8))) (.pair (.sl (.pair (.int .i64) (.pair (.sl (.int .u8)) .unit))) .unit)) d, .dat (.int .i64) n] ⟨[Q_s_l14Read d n], [⟨(.sl (.int .u8)), .sh, F_s_l14Read d n⟩], []⟩ := by
  refine ct_claim (O := O_s_l14Read) (τ := τ_s_l14Read) (EnvOk.of (by kernel_rfl) (by kernel_rfl)) (GOk.of (.cons ok_s_l14Waits .nil : AllOk pg [(132, con_s_l14Waits)])) mixed (Enters.of (by kernel_rfl)) (fn := Go.Proofs.Try.f134) (by kernel_rfl) rfl (by kernel_rfl) ?_
  intro hp hw
  have hq : Q_s_l14Read d n := hp _ (List.mem_singleton.2 rfl)
  clear hp
  change claim Lg.std Alg.std τ_s_l14Read (Gam.of [(132, con_s_l14Waits)]) O_s_l14Read Go.Proofs.Try.f134 [.dptr (.pair (.sl (.sl (.int .u8))) (.pair (.sl (.pair (.int .i64) (.pair (.sl (.int .u8)) .unit))) .unit)) d, .dat (.int .i64) n] ⟨[Q_s_l14Read d n], [⟨(.sl (.int .u8)), .sh, F_s_l14Read d n⟩], []⟩
  delta con_s_l14Waits
  generalize hg_F_s_l14Waits : F_s_l14Waits = g_F_s_l14Waits
  generalize hg_Q_s_l14Waits : Q_s_l14Waits = g_Q_s_l14Waits
  generalize hR0 : F_s_l14Read d n = R0
  generalize Q_s_l14Read d n = Q0
  generalize hL : Lg.std = L
  generalize hA : Alg.std = A
  cbv
  subst hL hA
  try dsimp only [Ty.den]
  obtain ⟨d_0, d_1, ⟨⟩⟩ := d
  have hr := findG_range (fun x : PutT => decide (x.1 = n)) d_1 0 (by omega)
  subst hR0 hg_F_s_l14Waits hg_Q_s_l14Waits
  simp only [Q_s_l14Read] at hq
  simp only [Lg.std, Alg.std, List.drop_zero, List.take_length, F_s_l14Waits, Q_s_l14Waits, F_s_l14Read, readD, putD] at *
  try simp only [true_and, and_true, false_implies, implies_true, imp_self]
  generalize findG (fun x : PutT => decide (x.1 = n)) d_1 0 = k at *
  repeat' (first | intro _ | apply And.intro)
  all_goals grind
def con_s_l14Read : Con := ⟨true, g2 (pP (.pair (.sl (.sl (.int .u8))) (.pair (.sl (.pair (.int .i64) (.pair (.sl (.int .u8)) .unit))) .unit))) (pD (.int .i64)) fun d n => .one ⟨[Q_s_l14Read d n], [⟨(.sl (.int .u8)), .sh, F_s_l14Read d n⟩], []⟩, [], false, 0⟩
theorem ok_s_l14Read : ConOk pg 134 con_s_l14Read := ConOk.g2 (Enters.of (by kernel_rfl)) ct_s_l14Read

def F_i_Disk_read (d : (List (List (Int))) × (List ((Int) × (List (Int)) × Unit)) × Unit) (n : Int) : List (Int) := readD d n
def Q_i_Disk_read (d : (List (List (Int))) × (List ((Int) × (List (Int)) × Unit)) × Unit) (n : Int) : Prop := 0 ≤ n ∧ n ≤ (d.1.length : Int) - 1
def O_i_Disk_read : Opt := ⟨fun i => false, fun i => [], fun i => .done, fun i => none, fun i => false, fun i => [], fun i => false, fun i => none, fun i => none⟩
def τ_i_Disk_read : Env := Env.of [(2, (.int .i64)), (3, (.int .i64)), (4, .bool), (22, (.sl (.sl (.int .u8)))), (28, (.sl (.pair (.int .i64) (.pair (.sl (.int .u8)) .unit)))), (30, (.pair (.sl (.sl (.int .u8))) (.pair (.sl (.pair (.int .i64) (.pair (.sl (.int .u8)) .unit))) .unit))), (34, (.sl (.int .u8))), (120, (.pair (.int .i64) (.pair (.sl (.int .u8)) .unit)))] [] []

theorem ct_i_Disk_read (d : (List (List (Int))) × (List ((Int) × (List (Int)) × Unit)) × Unit) (n : Int) : Ct pg 143 [.dat (.pair (.sl (.sl (.int .u8))) (.pair (.sl (.pair (.int .i64) (.pair (.sl (.int .u8)) .unit))) .unit)) d, .dat (.int .i64) n] ⟨[Q_i_Disk_read d n], [⟨(.sl (.int .u8)), .sh, F_i_Disk_read d n⟩], []⟩ := by
  refine ct_claim (O := O_i_Disk_read) (τ := τ_i_Disk_read) (EnvOk.of (by kernel_rfl) (by kernel_rfl)) (GOk.of (.cons ok_i_Disk_putFor .nil : AllOk pg [(104, con_i_Disk_putFor)])) mixed (Enters.of (by kernel_rfl)) (fn := Go.Proofs.Try.f143) (by kernel_rfl) rfl (by kernel_rfl) ?_
  intro hp hw
  have hq : Q_i_Disk_read d n := hp _ (List.mem_singleton.2 rfl)
  clear hp
  change claim Lg.std Alg.std τ_i_Disk_read (Gam.of [(104, con_i_Disk_putFor)]) O_i_Disk_read Go.Proofs.Try.f143 [.dat (.pair (.sl (.sl (.int .u8))) (.pair (.sl (.pair (.int .i64) (.pair (.sl (.int .u8)) .unit))) .unit)) d, .dat (.int .i64) n] ⟨[Q_i_Disk_read d n], [⟨(.sl (.int .u8)), .sh, F_i_Disk_read d n⟩], []⟩
  delta con_i_Disk_putFor
  generalize hg_F_i_Disk_putFor : F_i_Disk_putFor = g_F_i_Disk_putFor
  generalize hg_Q_i_Disk_putFor : Q_i_Disk_putFor = g_Q_i_Disk_putFor
  generalize hR0 : F_i_Disk_read d n = R0
  generalize Q_i_Disk_read d n = Q0
  generalize hL : Lg.std = L
  generalize hA : Alg.std = A
  cbv
  subst hL hA
  try dsimp only [Ty.den]
  obtain ⟨d_0, d_1, ⟨⟩⟩ := d
  have hr := findG_range (fun x : PutT => decide (x.1 = n)) d_1 0 (by omega)
  subst hR0 hg_F_i_Disk_putFor hg_Q_i_Disk_putFor
  simp only [Q_i_Disk_read] at hq
  simp only [Lg.std, Alg.std, List.drop_zero, List.take_length, F_i_Disk_putFor, Q_i_Disk_putFor, F_i_Disk_read, readD, putD] at *
  try simp only [true_and, and_true, false_implies, implies_true, imp_self]
  generalize findG (fun x : PutT => decide (x.1 = n)) d_1 0 = k at *
  repeat' (first | intro _ | apply And.intro)
  all_goals grind
def con_i_Disk_read : Con := ⟨true, g2 (pD (.pair (.sl (.sl (.int .u8))) (.pair (.sl (.pair (.int .i64) (.pair (.sl (.int .u8)) .unit))) .unit))) (pD (.int .i64)) fun d n => .one ⟨[Q_i_Disk_read d n], [⟨(.sl (.int .u8)), .sh, F_i_Disk_read d n⟩], []⟩, [], false, 0⟩
theorem ok_i_Disk_read : ConOk pg 143 con_i_Disk_read := ConOk.g2 (Enters.of (by kernel_rfl)) ct_i_Disk_read

def F_i_Disk_pageAt (d : (List (List (Int))) × (List ((Int) × (List (Int)) × Unit)) × Unit) (id : Int) : (Int) × (Int) × (List (Int)) × Unit := (pageAt d id).2
def F_i_Disk_pageAt_1 (d : (List (List (Int))) × (List ((Int) × (List (Int)) × Unit)) × Unit) (id : Int) : Int := (pageAt d id).1
def Q_i_Disk_pageAt (d : (List (List (Int))) × (List ((Int) × (List (Int)) × Unit)) × Unit) (id : Int) : Prop := GoodW d 64
def O_i_Disk_pageAt : Opt := ⟨fun i => false, fun i => [], fun i => (match decide (i = 4) with | true => (.take 0 (.take 1 (.take 2 (.alt 3 (.alt 4 (.take 5 .done) .no) (.alt 4 (.take 3 (.take 5 .done)) .no))))) | false => .done), fun i => (match decide (i = 4) with | true => some [false, false, false, false, true, true, false, false, false, false, false, false, false, false, false, false, false, false, false, false, false, false, false, false, false] | false => none), fun i => false, fun i => [], fun i => false, fun i => none, fun i => none⟩
def τ_i_Disk_pageAt : Env := Env.of [(2, (.int .i64)), (4, .bool), (5, (.int .u8)), (30, (.pair (.sl (.sl (.int .u8))) (.pair (.sl (.pair (.int .i64) (.pair (.sl (.int .u8)) .unit))) .unit))), (34, (.sl (.int .u8))), (54, (.pair (.int .i64) (.pair (.int .i64) (.pair (.sl (.int .u8)) .unit)))), (62, (.pair (.int .i64) (.pair (.pair (.int .i64) (.pair (.int .i64) (.pair (.sl (.int .u8)) .unit))) .unit)))] [] []

theorem ct_i_Disk_pageAt (d : (List (List (Int))) × (List ((Int) × (List (Int)) × Unit)) × Unit) (id : Int) : Ct pg 140 [.dat (.pair (.sl (.sl (.int .u8))) (.pair (.sl (.pair (.int .i64) (.pair (.sl (.int .u8)) .unit))) .unit)) d, .dat (.int .i64) id] ⟨[Q_i_Disk_pageAt d id], [⟨(.pair (.int .i64) (.pair (.int .i64) (.pair (.sl (.int .u8)) .unit))), (.pr .sh (.pr .sh (.pr (.ow .sh) .sh))), F_i_Disk_pageAt d id⟩, ⟨(.int .i64), .sh, F_i_Disk_pageAt_1 d id⟩], []⟩ := by
  refine ct_claim (O := O_i_Disk_pageAt) (τ := τ_i_Disk_pageAt) (EnvOk.of (by kernel_rfl) (by kernel_rfl)) (GOk.of (.cons ok_i_ReadPage (.cons ok_i_Disk_has (.cons ok_i_Disk_read .nil)) : AllOk pg [(32, con_i_ReadPage), (103, con_i_Disk_has), (143, con_i_Disk_read)])) mixed (Enters.of (by kernel_rfl)) (fn := Go.Proofs.Try.f140) (by kernel_rfl) rfl (by kernel_rfl) ?_
  intro hp hw
  have hq : Q_i_Disk_pageAt d id := hp _ (List.mem_singleton.2 rfl)
  clear hp
  change claim Lg.std Alg.std τ_i_Disk_pageAt (Gam.of [(32, con_i_ReadPage), (103, con_i_Disk_has), (143, con_i_Disk_read)]) O_i_Disk_pageAt Go.Proofs.Try.f140 [.dat (.pair (.sl (.sl (.int .u8))) (.pair (.sl (.pair (.int .i64) (.pair (.sl (.int .u8)) .unit))) .unit)) d, .dat (.int .i64) id] ⟨[Q_i_Disk_pageAt d id], [⟨(.pair (.int .i64) (.pair (.int .i64) (.pair (.sl (.int .u8)) .unit))), (.pr .sh (.pr .sh (.pr (.ow .sh) .sh))), F_i_Disk_pageAt d id⟩, ⟨(.int .i64), .sh, F_i_Disk_pageAt_1 d id⟩], []⟩
  delta con_i_ReadPage con_i_Disk_has con_i_Disk_read
  generalize hg_F_i_ReadPage : F_i_ReadPage = g_F_i_ReadPage
  generalize hg_Q_i_ReadPage : Q_i_ReadPage = g_Q_i_ReadPage
  generalize hg_F_i_Disk_has : F_i_Disk_has = g_F_i_Disk_has
  generalize hg_Q_i_Disk_has : Q_i_Disk_has = g_Q_i_Disk_has
  generalize hg_F_i_Disk_read : F_i_Disk_read = g_F_i_Disk_read
  generalize hg_Q_i_Disk_read : Q_i_Disk_read = g_Q_i_Disk_read
  generalize hR0 : F_i_Disk_pageAt d id = R0
  generalize hR1 : F_i_Disk_pageAt_1 d id = R1
  generalize Q_i_Disk_pageAt d id = Q0
  generalize hL : Lg.std = L
  generalize hA : Alg.std = A
  cbv
  subst hL hA
  try dsimp only [Ty.den]
  obtain ⟨d_0, d_1, ⟨⟩⟩ := d
  have hrl := readD_len (d := (d_0, d_1, PUnit.unit)) (k := 64) hq id
  have hl8 : d_0.length ≤ 64 := hq.1.2
  have hzp := l15Read_zero (readD (d_0, d_1, PUnit.unit) id) id
  subst hR0 hR1 hg_F_i_ReadPage hg_Q_i_ReadPage hg_F_i_Disk_has hg_Q_i_Disk_has hg_F_i_Disk_read hg_Q_i_Disk_read
  simp only [Q_i_Disk_pageAt] at hq
  simp only [Lg.std, Alg.std, List.drop_zero, List.take_length, F_i_ReadPage, F_i_Disk_has, F_i_Disk_read, Q_i_ReadPage, Q_i_Disk_has, Q_i_Disk_read, F_i_Disk_pageAt, F_i_Disk_pageAt_1, pageAt, readPage, zPage] at *
  try simp only [true_and, and_true, false_implies, implies_true, imp_self]
  repeat' (first | intro _ | apply And.intro)
  all_goals grind
def con_i_Disk_pageAt : Con := ⟨true, g2 (pD (.pair (.sl (.sl (.int .u8))) (.pair (.sl (.pair (.int .i64) (.pair (.sl (.int .u8)) .unit))) .unit))) (pD (.int .i64)) fun d id => .one ⟨[Q_i_Disk_pageAt d id], [⟨(.pair (.int .i64) (.pair (.int .i64) (.pair (.sl (.int .u8)) .unit))), (.pr .sh (.pr .sh (.pr (.ow .sh) .sh))), F_i_Disk_pageAt d id⟩, ⟨(.int .i64), .sh, F_i_Disk_pageAt_1 d id⟩], []⟩, [], false, 0⟩
theorem ok_i_Disk_pageAt : ConOk pg 140 con_i_Disk_pageAt := ConOk.g2 (Enters.of (by kernel_rfl)) ct_i_Disk_pageAt

def F_i_Disk_nodeAt (d : (List (List (Int))) × (List ((Int) × (List (Int)) × Unit)) × Unit) (id : Int) : (Bool) × (List (List (Int))) × (List (Int)) × (List (Int)) × Unit := (nodeAt d id).2.1
def F_i_Disk_nodeAt_1 (d : (List (List (Int))) × (List ((Int) × (List (Int)) × Unit)) × Unit) (id : Int) : Int := (nodeAt d id).1
def Q_i_Disk_nodeAt (d : (List (List (Int))) × (List ((Int) × (List (Int)) × Unit)) × Unit) (id : Int) : Prop := GoodW d 64
def O_i_Disk_nodeAt : Opt := ⟨fun i => false, fun i => [], fun i => (match decide (i = 5) with | true => (.take 0 (.take 1 (.take 2 (.alt 3 (.alt 4 (.take 5 .done) .no) (.alt 4 (.take 3 (.take 5 .done)) .no))))) | false => .done), fun i => (match decide (i = 5) with | true => some [false, false, false, false, true, true, false, false, false, false, false, false, false, false, false, false, false, false, false, false, false, false, false, false, false, false, false, false] | false => none), fun i => false, fun i => [], fun i => false, fun i => none, fun i => none⟩
def τ_i_Disk_nodeAt : Env := Env.of [(2, (.int .i64)), (4, .bool), (5, (.int .u8)), (30, (.pair (.sl (.sl (.int .u8))) (.pair (.sl (.pair (.int .i64) (.pair (.sl (.int .u8)) .unit))) .unit))), (34, (.sl (.int .u8))), (54, (.pair (.int .i64) (.pair (.int .i64) (.pair (.sl (.int .u8)) .unit)))), (156, (.pair .bool (.pair (.sl (.sl (.int .u8))) (.pair (.sl (.int .i64)) (.pair (.sl (.int .i64)) .unit))))), (167, (.pair (.int .i64) (.pair (.pair .bool (.pair (.sl (.sl (.int .u8))) (.pair (.sl (.int .i64)) (.pair (.sl (.int .i64)) .unit)))) .unit)))] [] []

theorem ct_i_Disk_nodeAt (d : (List (List (Int))) × (List ((Int) × (List (Int)) × Unit)) × Unit) (id : Int) : Ct pg 137 [.dat (.pair (.sl (.sl (.int .u8))) (.pair (.sl (.pair (.int .i64) (.pair (.sl (.int .u8)) .unit))) .unit)) d, .dat (.int .i64) id] ⟨[Q_i_Disk_nodeAt d id], [⟨(.pair .bool (.pair (.sl (.sl (.int .u8))) (.pair (.sl (.int .i64)) (.pair (.sl (.int .i64)) .unit)))), (.pr .sh (.pr (.ow (.ow .sh)) (.pr (.ow .sh) (.pr (.ow .sh) .sh)))), F_i_Disk_nodeAt d id⟩, ⟨(.int .i64), .sh, F_i_Disk_nodeAt_1 d id⟩], []⟩ := by
  refine ct_claim (O := O_i_Disk_nodeAt) (τ := τ_i_Disk_nodeAt) (EnvOk.of (by kernel_rfl) (by kernel_rfl)) (GOk.of (.cons ok_i_ReadNode (.cons ok_i_Disk_pageAt .nil) : AllOk pg [(141, con_i_ReadNode), (140, con_i_Disk_pageAt)])) mixed (Enters.of (by kernel_rfl)) (fn := Go.Proofs.Try.f137) (by kernel_rfl) rfl (by kernel_rfl) ?_
  intro hp hw
  have hq : Q_i_Disk_nodeAt d id := hp _ (List.mem_singleton.2 rfl)
  clear hp
  change claim Lg.std Alg.std τ_i_Disk_nodeAt (Gam.of [(141, con_i_ReadNode), (140, con_i_Disk_pageAt)]) O_i_Disk_nodeAt Go.Proofs.Try.f137 [.dat (.pair (.sl (.sl (.int .u8))) (.pair (.sl (.pair (.int .i64) (.pair (.sl (.int .u8)) .unit))) .unit)) d, .dat (.int .i64) id] ⟨[Q_i_Disk_nodeAt d id], [⟨(.pair .bool (.pair (.sl (.sl (.int .u8))) (.pair (.sl (.int .i64)) (.pair (.sl (.int .i64)) .unit)))), (.pr .sh (.pr (.ow (.ow .sh)) (.pr (.ow .sh) (.pr (.ow .sh) .sh)))), F_i_Disk_nodeAt d id⟩, ⟨(.int .i64), .sh, F_i_Disk_nodeAt_1 d id⟩], []⟩
  delta con_i_ReadNode con_i_Disk_pageAt
  generalize hg_F_i_ReadNode : F_i_ReadNode = g_F_i_ReadNode
  generalize hg_Q_i_ReadNode : Q_i_ReadNode = g_Q_i_ReadNode
  generalize hg_F_i_Disk_pageAt : F_i_Disk_pageAt = g_F_i_Disk_pageAt
  generalize hg_F_i_Disk_pageAt_1 : F_i_Disk_pageAt_1 = g_F_i_Disk_pageAt_1
  generalize hg_Q_i_Disk_pageAt : Q_i_Disk_pageAt = g_Q_i_Disk_pageAt
  generalize hR0 : F_i_Disk_nodeAt d id = R0
  generalize hR1 : F_i_Disk_nodeAt_1 d id = R1
  generalize Q_i_Disk_nodeAt d id = Q0
  generalize hL : Lg.std = L
  generalize hA : Alg.std = A
  cbv
  subst hL hA
  try dsimp only [Ty.den]
  obtain ⟨d_0, d_1, ⟨⟩⟩ := d
  have hrl := readD_len (d := (d_0, d_1, PUnit.unit)) (k := 64) hq id
  have hl8 : d_0.length ≤ 64 := hq.1.2
  have hpb := pageAt_body (d := (d_0, d_1, PUnit.unit)) (k := 64) hq id
  subst hR0 hR1 hg_F_i_ReadNode hg_Q_i_ReadNode hg_F_i_Disk_pageAt hg_F_i_Disk_pageAt_1 hg_Q_i_Disk_pageAt
  simp only [Q_i_Disk_nodeAt] at hq
  simp only [Lg.std, Alg.std, List.drop_zero, List.take_length, F_i_ReadNode, F_i_Disk_pageAt, F_i_Disk_pageAt_1, Q_i_ReadNode, Q_i_Disk_pageAt, F_i_Disk_nodeAt, F_i_Disk_nodeAt_1, nodeAt, pageAt, zPage, zNode] at *
  try simp only [true_and, and_true, false_implies, implies_true, imp_self]
  generalize hG : GoodW (d_0, d_1, PUnit.unit) 64 = G at *
  repeat' (first | intro _ | apply And.intro)
  all_goals grind
def con_i_Disk_nodeAt : Con := ⟨true, g2 (pD (.pair (.sl (.sl (.int .u8))) (.pair (.sl (.pair (.int .i64) (.pair (.sl (.int .u8)) .unit))) .unit))) (pD (.int .i64)) fun d id => .one ⟨[Q_i_Disk_nodeAt d id], [⟨(.pair .bool (.pair (.sl (.sl (.int .u8))) (.pair (.sl (.int .i64)) (.pair (.sl (.int .i64)) .unit)))), (.pr .sh (.pr (.ow (.ow .sh)) (.pr (.ow .sh) (.pr (.ow .sh) .sh)))), F_i_Disk_nodeAt d id⟩, ⟨(.int .i64), .sh, F_i_Disk_nodeAt_1 d id⟩], []⟩, [], false, 0⟩
theorem ok_i_Disk_nodeAt : ConOk pg 137 con_i_Disk_nodeAt := ConOk.g2 (Enters.of (by kernel_rfl)) ct_i_Disk_nodeAt

def F_s_l15At (d : (List (List (Int))) × (List ((Int) × (List (Int)) × Unit)) × Unit) (id : Int) : (Bool) × (List (List (Int))) × (List (Int)) × (List (Int)) × Unit := (nodeAt d id).2.1
def F_s_l15At_1 (d : (List (List (Int))) × (List ((Int) × (List (Int)) × Unit)) × Unit) (id : Int) : Int := (nodeAt d id).1
def Q_s_l15At (d : (List (List (Int))) × (List ((Int) × (List (Int)) × Unit)) × Unit) (id : Int) : Prop := GoodW d 64
def O_s_l15At : Opt := ⟨fun i => false, fun i => [], fun i => (match decide (i = 7) with | true => (.take 0 (.take 1 (.take 2 (.alt 3 (.alt 4 (.take 5 .done) .no) (.alt 4 (.take 3 (.take 5 .done)) .no))))) | false => .done), fun i => (match decide (i = 7) with | true => some [false, false, false, false, true, true, false, false, false, false, false, false, false, false, false, false, false, false, false, false, false, false, false, false, false, false, false, false, false, false, false, false, false, false, false, false, false, false, false, false] | false => none), fun i => false, fun i => [], fun i => false, fun i => none, fun i => none⟩
def τ_s_l15At : Env := Env.of [(2, (.int .i64)), (3, (.int .i64)), (4, .bool), (5, (.int .u8)), (22, (.sl (.sl (.int .u8)))), (30, (.pair (.sl (.sl (.int .u8))) (.pair (.sl (.pair (.int .i64) (.pair (.sl (.int .u8)) .unit))) .unit))), (34, (.sl (.int .u8))), (54, (.pair (.int .i64) (.pair (.int .i64) (.pair (.sl (.int .u8)) .unit)))), (156, (.pair .bool (.pair (.sl (.sl (.int .u8))) (.pair (.sl (.int .i64)) (.pair (.sl (.int .i64)) .unit))))), (167, (.pair (.int .i64) (.pair (.pair .bool (.pair (.sl (.sl (.int .u8))) (.pair (.sl (.int .i64)) (.pair (.sl (.int .i64)) .unit)))) .unit)))] [(80, (.pair (.sl (.sl (.int .u8))) (.pair (.sl (.pair (.int .i64) (.pair (.sl (.int .u8)) .unit))) .unit)))] []

theorem ct_s_l15At (d : (List (List (Int))) × (List ((Int) × (List (Int)) × Unit)) × Unit) (id : Int) : Ct pg 127 [.dptr (.pair (.sl (.sl (.int .u8))) (.pair (.sl (.pair (.int .i64) (.pair (.sl (.int .u8)) .unit))) .unit)) d, .dat (.int .i64) id] ⟨[Q_s_l15At d id], [⟨(.pair .bool (.pair (.sl (.sl (.int .u8))) (.pair (.sl (.int .i64)) (.pair (.sl (.int .i64)) .unit)))), (.pr .sh (.pr (.ow (.ow .sh)) (.pr (.ow .sh) (.pr (.ow .sh) .sh)))), F_s_l15At d id⟩, ⟨(.int .i64), .sh, F_s_l15At_1 d id⟩], []⟩ := by
  refine ct_claim (O := O_s_l15At) (τ := τ_s_l15At) (EnvOk.of (by kernel_rfl) (by kernel_rfl)) (GOk.of (.cons ok_s_l1In (.cons ok_s_l15Read (.cons ok_s_ReadNode (.cons ok_s_l14Read .nil))) : AllOk pg [(65, con_s_l1In), (86, con_s_l15Read), (135, con_s_ReadNode), (134, con_s_l14Read)])) mixed (Enters.of (by kernel_rfl)) (fn := Go.Proofs.Try.f127) (by kernel_rfl) rfl (by kernel_rfl) ?_
  intro hp hw
  have hq : Q_s_l15At d id := hp _ (List.mem_singleton.2 rfl)
  clear hp
  change claim Lg.std Alg.std τ_s_l15At (Gam.of [(65, con_s_l1In), (86, con_s_l15Read), (135, con_s_ReadNode), (134, con_s_l14Read)]) O_s_l15At Go.Proofs.Try.f127 [.dptr (.pair (.sl (.sl (.int .u8))) (.pair (.sl (.pair (.int .i64) (.pair (.sl (.int .u8)) .unit))) .unit)) d, .dat (.int .i64) id] ⟨[Q_s_l15At d id], [⟨(.pair .bool (.pair (.sl (.sl (.int .u8))) (.pair (.sl (.int .i64)) (.pair (.sl (.int .i64)) .unit)))), (.pr .sh (.pr (.ow (.ow .sh)) (.pr (.ow .sh) (.pr (.ow .sh) .sh)))), F_s_l15At d id⟩, ⟨(.int .i64), .sh, F_s_l15At_1 d id⟩], []⟩
  delta con_s_l1In con_s_l15Read con_s_ReadNode con_s_l14Read
  generalize hg_F_s_l1In : F_s_l1In = g_F_s_l1In
  generalize hg_Q_s_l1In : Q_s_l1In = g_Q_s_l1In
  generalize hg_F_s_l15Read : F_s_l15Read = g_F_s_l15Read
  generalize hg_F_s_l15Read_1 : F_s_l15Read_1 = g_F_s_l15Read_1
  generalize hg_Q_s_l15Read : Q_s_l15Read = g_Q_s_l15Read
  generalize hg_F_s_ReadNode : F_s_ReadNode = g_F_s_ReadNode
  generalize hg_Q_s_ReadNode : Q_s_ReadNode = g_Q_s_ReadNode
  generalize hg_F_s_l14Read : F_s_l14Read = g_F_s_l14Read
  generalize hg_Q_s_l14Read : Q_s_l14Read = g_Q_s_l14Read
  generalize hR0 : F_s_l15At d id = R0
  generalize hR1 : F_s_l15At_1 d id = R1
  generalize Q_s_l15At d id = Q0
  generalize hL : Lg.std = L
  generalize hA : Alg.std = A
  cbv
  subst hL hA
  try dsimp only [Ty.den]
  obtain ⟨d_0, d_1, ⟨⟩⟩ := d
  have hrl := readD_len (d := (d_0, d_1, PUnit.unit)) (k := 64) hq id
  have hl8 : d_0.length ≤ 64 := hq.1.2
  have hpb := pageAt_body (d := (d_0, d_1, PUnit.unit)) (k := 64) hq id
  subst hR0 hR1 hg_F_s_l1In hg_Q_s_l1In hg_F_s_l15Read hg_F_s_l15Read_1 hg_Q_s_l15Read hg_F_s_ReadNode hg_Q_s_ReadNode hg_F_s_l14Read hg_Q_s_l14Read
  simp only [Q_s_l15At] at hq
  simp only [Lg.std, Alg.std, List.drop_zero, List.take_length, F_s_l1In, F_s_l15Read, F_s_ReadNode, F_s_l14Read, F_s_l15Read_1, Q_s_l1In, Q_s_l15Read, Q_s_ReadNode, Q_s_l14Read, F_s_l15At, F_s_l15At_1, nodeAt, pageAt, zPage, zNode] at *
  try simp only [true_and, and_true, false_implies, implies_true, imp_self]
  generalize hG : GoodW (d_0, d_1, PUnit.unit) 64 = G at *
  repeat' (first | intro _ | apply And.intro)
  all_goals grind
def con_s_l15At : Con := ⟨true, g2 (pP (.pair (.sl (.sl (.int .u8))) (.pair (.sl (.pair (.int .i64) (.pair (.sl (.int .u8)) .unit))) .unit))) (pD (.int .i64)) fun d id => .one ⟨[Q_s_l15At d id], [⟨(.pair .bool (.pair (.sl (.sl (.int .u8))) (.pair (.sl (.int .i64)) (.pair (.sl (.int .i64)) .unit)))), (.pr .sh (.pr (.ow (.ow .sh)) (.pr (.ow .sh) (.pr (.ow .sh) .sh)))), F_s_l15At d id⟩, ⟨(.int .i64), .sh, F_s_l15At_1 d id⟩], []⟩, [], false, 0⟩
theorem ok_s_l15At : ConOk pg 127 con_s_l15At := ConOk.g2 (Enters.of (by kernel_rfl)) ct_s_l15At
end Go.Vee
