import Derived.Test.YtcdlgemhmmkneaaVC7
import Derived.Test.YtcdlgemhmmkneaaProg
set_option linter.unusedSimpArgs false
set_option linter.unusedVariables false
namespace Go.Vee
open Go

abbrev tI : Ty := .int .i64
abbrev tU : Ty := .int .u8
abbrev tB : Ty := .bool
abbrev tBs : Ty := .sl tU
abbrev tBss : Ty := .sl tBs
abbrev tIs : Ty := .sl tI
abbrev tPage : Ty := .pair tI (.pair tI (.pair tBs .unit))
abbrev tRow : Ty := .pair tBs (.pair tI .unit)
abbrev tNode : Ty := .pair .bool (.pair tBss (.pair tIs (.pair tIs .unit)))
abbrev tSym : Ty := .pair .str (.pair tI .unit)
abbrev tSig : Ty := .pair (.sl tSym) .unit
abbrev tSuper : Ty := .pair tI (.pair tI (.pair tI (.pair tI (.pair tI (.pair tI (.pair .bool (.pair tBs (.pair tSig .unit))))))))
abbrev tBR : Ty := .pair tI (.pair tBs .unit)
abbrev tPR : Ty := .pair tI (.pair tPage .unit)
abbrev tNR : Ty := .pair tI (.pair tNode .unit)
abbrev tIR : Ty := .pair tI (.pair tI .unit)
abbrev tPut : Ty := .pair tI (.pair tBs .unit)
abbrev tDisk : Ty := .pair tBss (.pair (.sl tPut) .unit)
abbrev tDraft : Ty := .pair tDisk (.pair tIs (.pair tIs .unit))
abbrev tRd : Ty := .pair tBs (.pair .bool .unit)
abbrev tSrc : Ty := .pair tBs (.pair tI .unit)

def tys : List (Nat × Ty) := [(2, tI), (3, tI), (4, .bool), (5, tU), (9, .str), (22, tBs), (24, tPage), (27, tPage), (31, .sl tRow), (34, .sl tRow), (38, tBR), (43, tBss), (44, tIs), (46, tNode), (49, tNode), (52, .sl tSym), (54, tSig), (56, tSuper), (59, .sl tSym), (61, tSig), (63, tSuper),
  (67, tPR), (82, .sl tPut), (84, tDisk), (86, tDraft), (89, .sl tPut), (91, tDisk), (93, tDraft), (99, tNR), (110, tRow), (111, tRow), (132, tIR), (153, tRd), (164, tPut), (168, tSym), (174, tSrc), (186, tSym), (190, tPut), (171, .int .u64)]
def pts : List (Nat × Ty) := [(116, tPage), (147, tNode), (134, tSrc), (151, tRd), (159, tDraft)]
noncomputable abbrev pg : Program := Go.Proofs.Try.prog
def τ0 : Env := Env.of tys pts

theorem envOk : EnvOk pg τ0 := EnvOk.of (by kernel_rfl)
theorem mixed : pg.follows .mixedOrders = true := by kernel_rfl

end Go.Vee
