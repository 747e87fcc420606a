/-
  Contracts of functions of the program: what each returns for all arguments that its precondition lets in.
-/
import Derived.Test.YtkbnbjdkdlooiaaDoorVK19
set_option linter.unusedSimpArgs false
set_option linter.unusedVariables false
set_option maxRecDepth 100000
set_option maxHeartbeats 4000000
set_option synthInstance.maxHeartbeats 4000000
set_option synthInstance.maxSize 20000
namespace Go.Vee
open Go
abbrev ActTy := Int × PutT × Unit
def actW (p : PutT) : ActTy := (1, p, ())
abbrev actF : ActTy := (2, putD, ())
def actsOf (l : List PutT) : List ActTy := l.map actW ++ [actF]
def draftActs (d : DraftT) : Int × List ActTy × Unit := if draftFault d ≠ 0 then (draftFault d, [], ()) else (0, actsOf d.1.2.1, ())
theorem drop_at {α : Type} {zs l : List α} {i : Nat} (d : α) (h : zs.drop i = l.drop i) : zs.getD i d = l.getD i d := by
  have h1 : (zs.drop i)[0]? = (l.drop i)[0]? := by rw [h]
  simpa [List.getD_eq_getElem?_getD] using congrArg (fun o => o.getD d) h1
theorem drop_next {α : Type} {zs l : List α} {i : Nat} (v : α) (h : zs.drop i = l.drop i) : (zs.set i v).drop (i + 1) = l.drop (i + 1) := by
  have h1 : (zs.drop i).drop 1 = (l.drop i).drop 1 := by rw [h]
  rw [List.drop_set_of_lt (by omega)]
  simpa [List.drop_drop] using h1
theorem drop_next' {α : Type} {zs l : List α} {i : Nat} (h : zs.drop i = l.drop i) : zs.drop (i + 1) = l.drop (i + 1) := by
  have h1 : (zs.drop i).drop 1 = (l.drop i).drop 1 := by rw [h]
  simpa [List.drop_drop] using h1
theorem take_map {α β : Type} (f : α → β) (l : List α) (d : α) (i : Nat) (h : i < l.length) : (l.take (i + 1)).map f = (l.take i).map f ++ [f (l.getD i d)] := by
  rw [List.take_add_one, List.getElem?_eq_getElem h, List.map_append]; simp only [Option.toList_some, List.map_cons, List.map_nil, List.getD_eq_getElem?_getD, List.getElem?_eq_getElem h, Option.getD_some]
theorem draftFault_96 (d : DraftT) (h : draftFault d = 0) : ∀ i, i < d.1.2.1.length → (d.1.2.1.getD i putD).2.1.length = 96 := fun i hi => ((diskFault_good d.1 (draftFault_disk d h)).w.2.2.2 i hi).2.2
theorem actsOf_tot (l : List PutT) (n : Nat) (hl : l.length ≤ n) (h : ∀ i, i < l.length → (l.getD i putD).2.1.length = 96) : tot (.sl (.pair (.int .i64) (.pair (.pair (.int .i64) (.pair (.sl (.int .u8)) .unit)) .unit))) (actsOf l) ≤ 97 * (n + 1) := by
  have e := totL_each (tot (.pair (.int .i64) (.pair (.pair (.int .i64) (.pair (.sl (.int .u8)) .unit)) .unit))) 96 actF (actsOf l) (fun i hi => by
    simp only [actsOf, List.length_append, List.length_map, List.length_singleton] at hi
    by_cases hlt : i < l.length
    · have e1 : (actsOf l).getD i actF = actW (l.getD i putD) := by
        simp only [actsOf, List.getD_eq_getElem?_getD]
        rw [List.getElem?_append_left (by simpa using hlt)]
        simp [List.getElem?_eq_getElem hlt]
      rw [e1]
      have := h i hlt
      simp only [actW, tot_p, tot_u, tot_i, tot_int]; omega
    · have e1 : (actsOf l).getD i actF = actF := by
        have : i = l.length := by omega
        subst this
        simp [actsOf, List.getD_eq_getElem?_getD]
      rw [e1]
      simp [tot_p, tot_u, tot_i, tot_int])
  have hlen : (actsOf l).length = l.length + 1 := by simp [actsOf]
  show totL (tot (.pair (.int .i64) (.pair (.pair (.int .i64) (.pair (.sl (.int .u8)) .unit)) .unit))) (actsOf l) ≤ _
  rw [hlen] at e
  omega
theorem draftActs_cnt (d : DraftT) : cnt false (.pair (.int .i64) (.pair (.sl (.pair (.int .i64) (.pair (.pair (.int .i64) (.pair (.sl (.int .u8)) .unit)) .unit))) .unit)) (draftActs d) ≤ 500000 := by
  have hc := cnt_tot (.pair (.int .i64) (.pair (.sl (.pair (.int .i64) (.pair (.pair (.int .i64) (.pair (.sl (.int .u8)) .unit)) .unit))) .unit)) (draftActs d) (by decide)
  have ht : tot (.pair (.int .i64) (.pair (.sl (.pair (.int .i64) (.pair (.pair (.int .i64) (.pair (.sl (.int .u8)) .unit)) .unit))) .unit)) (draftActs d) ≤ 6305 := by
    unfold draftActs
    split
    · simp [tot, totL]
    · rename_i h
      have h0 : draftFault d = 0 := by simpa using h
      have hg := (diskFault_good d.1 (draftFault_disk d h0)).w
      have := actsOf_tot d.1.2.1 64 hg.2.2.1 (draftFault_96 d h0)
      simp only [tot_p, tot_u, tot_i]
      omega
  omega
end Go.Vee
