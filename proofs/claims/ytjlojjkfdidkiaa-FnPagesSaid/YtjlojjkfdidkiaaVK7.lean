/-
  Contracts of functions of the program: what each returns for all arguments that its precondition lets in.
-/
import Derived.Test.YtjlojjkfdidkiaaVK6
set_option linter.unusedSimpArgs false
set_option linter.unusedVariables false
set_option maxRecDepth 100000
set_option maxHeartbeats 4000000
set_option synthInstance.maxHeartbeats 4000000
set_option synthInstance.maxSize 20000000
namespace Go.Vee
open Go
section
variable {α β : Type} [DecidableEq β] (f : α → β) (d : α) (l : List α)
end
end Go.Vee
