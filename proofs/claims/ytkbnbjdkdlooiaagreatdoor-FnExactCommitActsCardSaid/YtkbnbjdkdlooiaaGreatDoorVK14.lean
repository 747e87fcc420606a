/-
  Contracts of functions of the program: what each returns for all arguments that its precondition lets in.
-/
import Derived.Test.YtkbnbjdkdlooiaaGreatDoorVK13
set_option linter.unusedSimpArgs false
set_option linter.unusedVariables false
set_option maxRecDepth 100000
set_option maxHeartbeats 4000000
set_option synthInstance.maxHeartbeats 4000000
set_option synthInstance.maxSize 20000
namespace Go.Vee
open Go
theorem draftFault_disk (d : DraftT) (h : draftFault d = 0) : diskFault d.1 = 0 := by
  unfold draftFault at h
  split at h
  · rename_i e; exact absurd h e
  · rename_i e; simpa using e
end Go.Vee
