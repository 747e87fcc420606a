/-
  The types of this seat, as the evaluator reads them.
-/
import Derived.Test.YtjlojjkfdidkiaaV8
import Derived.Test.YtjlojjkfdidkiaaProg
set_option linter.unusedSimpArgs false
set_option linter.unusedVariables false
set_option maxRecDepth 100000
set_option maxHeartbeats 4000000
set_option synthInstance.maxHeartbeats 4000000
set_option synthInstance.maxSize 20000
namespace Go.Vee
open Go

def tys : List (Nat × Ty) := [(2, (.int .i64)), (3, (.int .i64)), (4, .bool), (5, (.int .u8)), (9, .str), (22, (.sl (.sl (.int .u8)))), (23, (.sl (.pair (.int .i64) (.pair (.sl (.int .u8)) .unit)))), (25, (.pair (.sl (.sl (.int .u8))) (.pair (.sl (.pair (.int .i64) (.pair (.sl (.int .u8)) .unit))) .unit))), (28, (.sl (.pair (.int .i64) (.pair (.sl (.int .u8)) .unit)))), (30, (.pair (.sl (.sl (.int .u8))) (.pair (.sl (.pair (.int .i64) (.pair (.sl (.int .u8)) .unit))) .unit))), (34, (.sl (.int .u8))), (36, (.pair (.int .i64) (.pair (.int .i64) .unit))), (42, (.sl (.pair (.sl (.int .u8)) (.pair (.int .i64) .unit)))), (44, (.pair (.int .i64) (.pair (.sl (.pair (.sl (.int .u8)) (.pair (.int .i64) .unit))) .unit))), (54, (.pair (.int .i64) (.pair (.int .i64) (.pair (.sl (.int .u8)) .unit)))), (57, (.pair (.int .i64) (.pair (.sl (.int .u8)) .unit))), (62, (.pair (.int .i64) (.pair (.pair (.int .i64) (.pair (.int .i64) (.pair (.sl (.int .u8)) .unit))) .unit))), (66, (.sl (.pair (.int .i64) (.pair (.pair (.int .i64) (.pair (.sl (.int .u8)) .unit)) .unit)))), (70, (.pair (.int .i64) (.pair (.pair (.sl (.sl (.int .u8))) (.pair (.sl (.pair (.int .i64) (.pair (.sl (.int .u8)) .unit))) .unit)) .unit))), (75, (.sl (.int .i64))), (77, (.pair (.sl (.int .i64)) (.pair (.sl (.pair (.sl (.int .u8)) (.pair (.int .i64) .unit))) (.pair (.int .i64) .unit)))), (90, (.pair (.sl (.int .u8)) (.pair (.int .i64) .unit))), (94, (.pair (.pair (.sl (.sl (.int .u8))) (.pair (.sl (.pair (.int .i64) (.pair (.sl (.int .u8)) .unit))) .unit)) (.pair (.sl (.int .i64)) (.pair (.sl (.pair (.sl (.int .u8)) (.pair (.int .i64) .unit))) (.pair (.int .i64) .unit))))), (120, (.pair (.int .i64) (.pair (.sl (.int .u8)) .unit))), (122, (.pair (.int .i64) (.pair (.pair (.int .i64) (.pair (.sl (.int .u8)) .unit)) .unit))), (136, (.pair (.int .i64) (.pair (.sl (.int .u8)) .unit))), (145, (.pair (.sl (.int .u8)) (.pair (.int .i64) .unit))), (146, (.int .u64)), (156, (.pair .bool (.pair (.sl (.sl (.int .u8))) (.pair (.sl (.int .i64)) (.pair (.sl (.int .i64)) .unit))))), (167, (.pair (.int .i64) (.pair (.pair .bool (.pair (.sl (.sl (.int .u8))) (.pair (.sl (.int .i64)) (.pair (.sl (.int .i64)) .unit)))) .unit))), (177, (.pair (.sl (.int .u8)) (.pair .bool .unit)))]
def pts : List (Nat × Ty) := [(80, (.pair (.sl (.sl (.int .u8))) (.pair (.sl (.pair (.int .i64) (.pair (.sl (.int .u8)) .unit))) .unit))), (83, (.pair (.pair (.sl (.sl (.int .u8))) (.pair (.sl (.pair (.int .i64) (.pair (.sl (.int .u8)) .unit))) .unit)) (.pair (.sl (.int .i64)) (.pair (.sl (.pair (.sl (.int .u8)) (.pair (.int .i64) .unit))) (.pair (.int .i64) .unit))))), (103, (.pair (.sl (.int .u8)) (.pair (.int .i64) .unit))), (108, (.pair (.int .i64) (.pair (.int .i64) (.pair (.sl (.int .u8)) .unit)))), (138, (.pair (.sl (.int .i64)) (.pair (.sl (.pair (.sl (.int .u8)) (.pair (.int .i64) .unit))) (.pair (.int .i64) .unit)))), (175, (.pair (.sl (.int .u8)) (.pair .bool .unit))), (195, (.int .u8))]
noncomputable abbrev pg : Program := Go.Proofs.Try.prog
def τ0 : Env := Env.of tys pts
theorem envOk : EnvOk pg τ0 := EnvOk.of (by kernel_rfl)
theorem mixed : pg.follows .mixedOrders = true := by kernel_rfl
abbrev Jk : AV := .junk
end Go.Vee
