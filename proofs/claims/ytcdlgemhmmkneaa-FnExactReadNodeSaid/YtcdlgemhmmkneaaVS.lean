/-
  The types of this seat, as the evaluator reads them.
-/
import Derived.Test.YtcdlgemhmmkneaaV8
import Derived.Test.YtcdlgemhmmkneaaProg
set_option linter.unusedSimpArgs false
set_option linter.unusedVariables false
set_option maxRecDepth 100000
set_option maxHeartbeats 4000000
set_option synthInstance.maxHeartbeats 4000000
set_option synthInstance.maxSize 20000
namespace Go.Vee
open Go

def tys : List (Nat × Ty) := [(2, (.int .i64)), (3, (.int .i64)), (4, .bool), (5, (.int .u8)), (9, .str), (22, (.sl (.int .u8))), (24, (.pair (.int .i64) (.pair (.int .i64) (.pair (.sl (.int .u8)) .unit)))), (27, (.pair (.int .i64) (.pair (.int .i64) (.pair (.sl (.int .u8)) .unit)))), (31, (.sl (.pair (.sl (.int .u8)) (.pair (.int .i64) .unit)))), (34, (.sl (.pair (.sl (.int .u8)) (.pair (.int .i64) .unit)))), (38, (.pair (.int .i64) (.pair (.sl (.int .u8)) .unit))), (43, (.sl (.sl (.int .u8)))), (44, (.sl (.int .i64))), (46, (.pair .bool (.pair (.sl (.sl (.int .u8))) (.pair (.sl (.int .i64)) (.pair (.sl (.int .i64)) .unit))))), (49, (.pair .bool (.pair (.sl (.sl (.int .u8))) (.pair (.sl (.int .i64)) (.pair (.sl (.int .i64)) .unit))))), (52, (.sl (.pair .str (.pair (.int .i64) .unit)))), (54, (.pair (.sl (.pair .str (.pair (.int .i64) .unit))) .unit)), (56, (.pair (.int .i64) (.pair (.int .i64) (.pair (.int .i64) (.pair (.int .i64) (.pair (.int .i64) (.pair (.int .i64) (.pair .bool (.pair (.sl (.int .u8)) (.pair (.pair (.sl (.pair .str (.pair (.int .i64) .unit))) .unit) .unit)))))))))), (59, (.sl (.pair .str (.pair (.int .i64) .unit)))), (61, (.pair (.sl (.pair .str (.pair (.int .i64) .unit))) .unit)), (63, (.pair (.int .i64) (.pair (.int .i64) (.pair (.int .i64) (.pair (.int .i64) (.pair (.int .i64) (.pair (.int .i64) (.pair .bool (.pair (.sl (.int .u8)) (.pair (.pair (.sl (.pair .str (.pair (.int .i64) .unit))) .unit) .unit)))))))))), (67, (.pair (.int .i64) (.pair (.pair (.int .i64) (.pair (.int .i64) (.pair (.sl (.int .u8)) .unit))) .unit))), (82, (.sl (.pair (.int .i64) (.pair (.sl (.int .u8)) .unit)))), (84, (.pair (.sl (.sl (.int .u8))) (.pair (.sl (.pair (.int .i64) (.pair (.sl (.int .u8)) .unit))) .unit))), (86, (.pair (.pair (.sl (.sl (.int .u8))) (.pair (.sl (.pair (.int .i64) (.pair (.sl (.int .u8)) .unit))) .unit)) (.pair (.sl (.int .i64)) (.pair (.sl (.int .i64)) .unit)))), (89, (.sl (.pair (.int .i64) (.pair (.sl (.int .u8)) .unit)))), (91, (.pair (.sl (.sl (.int .u8))) (.pair (.sl (.pair (.int .i64) (.pair (.sl (.int .u8)) .unit))) .unit))), (93, (.pair (.pair (.sl (.sl (.int .u8))) (.pair (.sl (.pair (.int .i64) (.pair (.sl (.int .u8)) .unit))) .unit)) (.pair (.sl (.int .i64)) (.pair (.sl (.int .i64)) .unit)))), (99, (.pair (.int .i64) (.pair (.pair .bool (.pair (.sl (.sl (.int .u8))) (.pair (.sl (.int .i64)) (.pair (.sl (.int .i64)) .unit)))) .unit))), (110, (.pair (.sl (.int .u8)) (.pair (.int .i64) .unit))), (111, (.pair (.sl (.int .u8)) (.pair (.int .i64) .unit))), (132, (.pair (.int .i64) (.pair (.int .i64) .unit))), (153, (.pair (.sl (.int .u8)) (.pair .bool .unit))), (164, (.pair (.int .i64) (.pair (.sl (.int .u8)) .unit))), (168, (.pair .str (.pair (.int .i64) .unit))), (171, (.int .u64)), (174, (.pair (.sl (.int .u8)) (.pair (.int .i64) .unit))), (186, (.pair .str (.pair (.int .i64) .unit))), (190, (.pair (.int .i64) (.pair (.sl (.int .u8)) .unit)))]
def pts : List (Nat × Ty) := [(116, (.pair (.int .i64) (.pair (.int .i64) (.pair (.sl (.int .u8)) .unit)))), (134, (.pair (.sl (.int .u8)) (.pair (.int .i64) .unit))), (147, (.pair .bool (.pair (.sl (.sl (.int .u8))) (.pair (.sl (.int .i64)) (.pair (.sl (.int .i64)) .unit))))), (151, (.pair (.sl (.int .u8)) (.pair .bool .unit))), (159, (.pair (.pair (.sl (.sl (.int .u8))) (.pair (.sl (.pair (.int .i64) (.pair (.sl (.int .u8)) .unit))) .unit)) (.pair (.sl (.int .i64)) (.pair (.sl (.int .i64)) .unit)))), (204, (.int .u8))]
noncomputable abbrev pg : Program := Go.Proofs.Try.prog
def τ0 : Env := Env.of tys pts
theorem envOk : EnvOk pg τ0 := EnvOk.of (by kernel_rfl)
theorem mixed : pg.follows .mixedOrders = true := by kernel_rfl
end Go.Vee
