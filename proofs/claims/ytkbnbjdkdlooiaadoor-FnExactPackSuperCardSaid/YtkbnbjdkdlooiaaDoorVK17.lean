/-
  Contracts of functions of the program: what each returns for all arguments that its precondition lets in.
-/
import Derived.Test.YtkbnbjdkdlooiaaDoorVK16
set_option linter.unusedSimpArgs false
set_option linter.unusedVariables false
set_option maxRecDepth 100000
set_option maxHeartbeats 4000000
set_option synthInstance.maxHeartbeats 4000000
set_option synthInstance.maxSize 20000
namespace Go.Vee
open Go
theorem packPage_len (p : Int × Int × List Int × Unit) (h : pageFault p = 0) : p.2.2.1.length ≤ 91 ∧ (packPage p).length = 96 := by
  have h1 : p.2.2.1.length ≤ 91 := by
    unfold pageFault at h
    split at h
    · cases h
    split at h
    · cases h
    omega
  obtain ⟨k, i, bs, u⟩ := p
  refine ⟨h1, ?_⟩
  have e3 := padded_length (k, i, bs, u) h1
  simp only [packPage, List.length_append]
  rw [e3]; rfl
def putPage (d : DraftT) (p : Int × Int × List Int × Unit) : Int × DraftT × Unit :=
  if draftFault d ≠ 0 then (draftFault d, zDraft, ()) else if pageFault p ≠ 0 then (pageFault p, zDraft, ()) else if d.2.2.1.contains p.2.1 = false then (8, zDraft, ()) else (0, (writeD d.1 p.2.1 (packPage p), d.2.1, d.2.2.1, ()), ())
theorem putPage_tot (d : DraftT) (p : Int × Int × List Int × Unit) : tot (.pair (.pair (.sl (.sl (.int .u8))) (.pair (.sl (.pair (.int .i64) (.pair (.sl (.int .u8)) .unit))) .unit)) (.pair (.sl (.int .i64)) (.pair (.sl (.int .i64)) .unit))) (putPage d p).2.1 ≤ tot (.pair (.pair (.sl (.sl (.int .u8))) (.pair (.sl (.pair (.int .i64) (.pair (.sl (.int .u8)) .unit))) .unit)) (.pair (.sl (.int .i64)) (.pair (.sl (.int .i64)) .unit))) d + 97 := by
  unfold putPage
  split
  · simp [tot, totL]
  split
  · simp [tot, totL]
  split
  · simp [tot, totL]
  · rename_i h1 h2 h3
    have hl := (packPage_len p (by simpa using h2)).2
    have hw := writeD_tot d.1 p.2.1 (packPage p)
    simp only [tDisk, tPut, tot_p, tot_u] at hw ⊢
    omega
end Go.Vee
