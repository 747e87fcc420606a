/-
  The types of this seat, as the evaluator reads them.
-/
import Derived.Test.YtkbnbjdkdlooiaaDoorV8
import Derived.Test.YtkbnbjdkdlooiaaDoorProg
set_option linter.unusedSimpArgs false
set_option linter.unusedVariables false
set_option maxRecDepth 100000
set_option maxHeartbeats 4000000
set_option synthInstance.maxHeartbeats 4000000
set_option synthInstance.maxSize 20000
namespace Go.Vee
open Go

def tys : List (Nat × Ty) := [(2, (.int .i64)), (3, (.int .i64)), (4, .bool), (5, (.int .u8)), (9, .str), (22, (.sl (.int .u8))), (23, (.sl (.pair .str (.pair (.int .i64) .unit)))), (25, (.pair (.sl (.pair .str (.pair (.int .i64) .unit))) .unit)), (27, (.pair (.int .i64) (.pair (.int .i64) (.pair (.int .i64) (.pair (.int .i64) (.pair (.int .i64) (.pair (.int .i64) (.pair .bool (.pair (.sl (.int .u8)) (.pair (.pair (.sl (.pair .str (.pair (.int .i64) .unit))) .unit) .unit)))))))))), (30, (.sl (.pair .str (.pair (.int .i64) .unit)))), (32, (.pair (.sl (.pair .str (.pair (.int .i64) .unit))) .unit)), (34, (.pair (.int .i64) (.pair (.int .i64) (.pair (.int .i64) (.pair (.int .i64) (.pair (.int .i64) (.pair (.int .i64) (.pair .bool (.pair (.sl (.int .u8)) (.pair (.pair (.sl (.pair .str (.pair (.int .i64) .unit))) .unit) .unit)))))))))), (39, (.pair (.int .i64) (.pair (.pair (.sl (.pair .str (.pair (.int .i64) .unit))) .unit) .unit))), (48, (.sl (.int .i64))), (50, (.pair (.int .i64) (.pair (.sl (.int .i64)) .unit))), (59, (.pair (.int .i64) (.pair (.sl (.int .u8)) .unit))), (65, (.pair (.int .i64) (.pair (.sl (.int .i64)) (.pair (.sl (.int .i64)) .unit)))), (70, (.pair (.int .i64) (.pair (.pair (.int .i64) (.pair (.int .i64) (.pair (.int .i64) (.pair (.int .i64) (.pair (.int .i64) (.pair (.int .i64) (.pair .bool (.pair (.sl (.int .u8)) (.pair (.pair (.sl (.pair .str (.pair (.int .i64) .unit))) .unit) .unit))))))))) .unit))), (81, (.pair (.sl (.int .u8)) (.pair .bool .unit))), (104, (.pair (.int .i64) (.pair (.int .i64) .unit))), (110, (.pair .str (.pair (.int .i64) .unit))), (115, (.pair .str (.pair (.int .i64) .unit))), (130, (.int .u64))]
def pts : List (Nat × Ty) := [(79, (.pair (.sl (.int .u8)) (.pair .bool .unit))), (86, (.pair (.sl (.pair .str (.pair (.int .i64) .unit))) .unit)), (95, (.pair (.int .i64) (.pair (.int .i64) (.pair (.int .i64) (.pair (.int .i64) (.pair (.int .i64) (.pair (.int .i64) (.pair .bool (.pair (.sl (.int .u8)) (.pair (.pair (.sl (.pair .str (.pair (.int .i64) .unit))) .unit) .unit)))))))))), (169, (.int .u8))]
noncomputable abbrev pg : Program := Go.Proofs.Tryd.prog
def τ0 : Env := Env.of tys pts
theorem envOk : EnvOk pg τ0 := EnvOk.of (by kernel_rfl)
theorem mixed : pg.follows .mixedOrders = true := by kernel_rfl
end Go.Vee
