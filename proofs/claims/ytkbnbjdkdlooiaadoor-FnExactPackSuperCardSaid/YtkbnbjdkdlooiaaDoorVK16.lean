/-
  Contracts of functions of the program: what each returns for all arguments that its precondition lets in.
-/
import Derived.Test.YtkbnbjdkdlooiaaDoorVK15
set_option linter.unusedSimpArgs false
set_option linter.unusedVariables false
set_option maxRecDepth 100000
set_option maxHeartbeats 4000000
set_option synthInstance.maxHeartbeats 4000000
set_option synthInstance.maxSize 20000
namespace Go.Vee
open Go
abbrev zDraft : DraftT := (zDisk, [], [], ())
def startDraft (d : DiskT) (kept : List Int) : Int × DraftT × Unit := if draftFault (d, kept, [], ()) ≠ 0 then (draftFault (d, kept, [], ()), zDraft, ()) else (0, (d, kept, [], ()), ())
def freeL (k t : List Int) : Nat → Int → List Int
  | 0, _ => []
  | m + 1, n => if k.contains n = false ∧ t.contains n = false then n :: freeL k t m (n + 1) else freeL k t m (n + 1)
def freeOf (d : DraftT) : List Int := freeL d.2.1 d.2.2.1 (d.1.1.length - 2) 2
def freeIn (d : DraftT) : Int × List Int × Unit := if draftFault d ≠ 0 then (draftFault d, [], ()) else (0, freeOf d, ())
theorem freeL_step (k t : List Int) (L : Nat) (n : Int) (h0 : 0 ≤ n) (h : n < L) : freeL k t (L - n.toNat) n = if k.contains n = false ∧ t.contains n = false then n :: freeL k t (L - (n.toNat + 1)) (n + 1) else freeL k t (L - (n.toNat + 1)) (n + 1) := by
  have : L - n.toNat = (L - (n.toNat + 1)) + 1 := by omega
  rw [this]; rfl
theorem freeL_end (k t : List Int) (L : Nat) (n : Int) (h : (L : Int) ≤ n) : freeL k t (L - n.toNat) n = [] := by
  have : L - n.toNat = 0 := by omega
  rw [this]; rfl
theorem freeL_len (k t : List Int) : ∀ (m : Nat) (n : Int), (freeL k t m n).length ≤ m
  | 0, n => by simp [freeL]
  | m + 1, n => by
    have := freeL_len k t m (n + 1)
    unfold freeL
    split
    · simp; omega
    · omega
theorem draftFault_disk (d : DraftT) (h : draftFault d = 0) : diskFault d.1 = 0 := by
  unfold draftFault at h
  split at h
  · rename_i e; exact absurd h e
  · rename_i e; simpa using e
theorem startDraft_tot (d : DiskT) (kept : List Int) : tot (.pair (.pair (.sl (.sl (.int .u8))) (.pair (.sl (.pair (.int .i64) (.pair (.sl (.int .u8)) .unit))) .unit)) (.pair (.sl (.int .i64)) (.pair (.sl (.int .i64)) .unit))) (startDraft d kept).2.1 ≤ tot tDisk d + kept.length := by
  unfold startDraft
  split
  · simp [tot, totL]
  · simp only [tDisk, tPut, tot_p, tot_u, tot_int, List.length_nil]; omega
theorem freeIn_tot (d : DraftT) : (freeIn d).2.1.length ≤ tot (.pair (.pair (.sl (.sl (.int .u8))) (.pair (.sl (.pair (.int .i64) (.pair (.sl (.int .u8)) .unit))) .unit)) (.pair (.sl (.int .i64)) (.pair (.sl (.int .i64)) .unit))) d := by
  have hle : d.1.1.length ≤ tot (.sl (.sl (.int .u8))) d.1.1 := tot_len (.sl (.int .u8)) d.1.1
  simp only [tot_p, tot_u]
  refine Nat.le_trans (?_ : _ ≤ d.1.1.length) (by omega)
  unfold freeIn
  split
  · simp
  · have := freeL_len d.2.1 d.2.2.1 (d.1.1.length - 2) 2
    show (freeL _ _ _ _).length ≤ _
    omega
end Go.Vee
