/-
  Contracts of functions of the program: what each returns for all arguments that its precondition lets in.
-/
import Derived.Test.YtkbnbjdkdlooiaaDoorVK17
set_option linter.unusedSimpArgs false
set_option linter.unusedVariables false
set_option maxRecDepth 100000
set_option maxHeartbeats 4000000
set_option synthInstance.maxHeartbeats 4000000
set_option synthInstance.maxSize 20000
namespace Go.Vee
open Go
def readD (d : DiskT) (n : Int) : List Int := if 0 ≤ findG (fun x : PutT => decide (x.1 = n)) d.2.1 0 then (d.2.1.getD (findG (fun x : PutT => decide (x.1 = n)) d.2.1 0).toNat putD).2.1 else d.1.getD n.toNat []
theorem readD_len {d : DiskT} {k : Nat} (h : GoodW d k) (n : Int) (hn : 0 ≤ n ∧ n ≤ (d.1.length : Int) - 1) : (readD d n).length = 96 := by
  have hr := findG_range (fun x : PutT => decide (x.1 = n)) d.2.1 0 (by omega)
  unfold readD
  split
  · exact (h.2.2.2 _ (by omega)).2.2
  · exact h.2.1 _ (by omega)
def pageAt (d : DiskT) (id : Int) : Int × (Int × Int × List Int × Unit) := if ¬ (2 ≤ id ∧ id ≤ (d.1.length : Int) - 1) then (3, zPage) else l15Read (readD d id) id
def nodeAt (d : DiskT) (id : Int) : Int × NodeT × Unit :=
  if (pageAt d id).1 ≠ 0 then ((pageAt d id).1, zNode, ()) else readNode (pageAt d id).2.1 (pageAt d id).2.2.2.1
def nodeAtD (d : DiskT) (id : Int) : Int × NodeT × Unit := if diskFault d ≠ 0 then (diskFault d, zNode, ()) else nodeAt d id
theorem l15Read_body (data : List Int) (id : Int) : (l15Read data id).2.2.2.1.length ≤ data.length := by
  unfold l15Read rdPage
  repeat' split
  all_goals (simp only [zPage, List.length_nil, List.length_take, List.length_drop]; omega)
theorem pageAt_body {d : DiskT} {k : Nat} (h : GoodW d k) (id : Int) : (pageAt d id).2.2.2.1.length ≤ 96 := by
  unfold pageAt
  split
  · simp [zPage]
  · rename_i hn
    have h1 := readD_len h id (by omega)
    have := l15Read_body (readD d id) id
    omega
theorem l15Read_zero (data : List Int) (id : Int) : (l15Read data id).1 = 0 ∨ (l15Read data id).2 = zPage := by
  unfold l15Read
  repeat' split
  all_goals simp
theorem nodeAtD_cnt (d : DiskT) (id : Int) : cnt false (.sl (.sl (.int .u8))) (nodeAtD d id).2.1.2.1 ≤ 64 ∧ (nodeAtD d id).2.1.2.2.1.length ≤ 4 ∧ (nodeAtD d id).2.1.2.2.2.1.length ≤ 5 := by
  have hz : cnt false (.sl (.sl (.int .u8))) ([] : List (List Int)) ≤ 64 := by simp [cnt, cntL]
  unfold nodeAtD
  split
  · exact ⟨hz, by simp, by simp⟩
  · unfold nodeAt
    split
    · exact ⟨hz, by simp, by simp⟩
    · exact readNode_cnt _ _
end Go.Vee
