/-
  NARROWER THAN 'FOR EVERY INPUT', by the rows' own cells (each row's printed sentence says how): FnExactOpenStore: laid · FnExactUnpackEquations: laid · FnExactCommitActs: laid · FnExactUnpackTheory: laid · FnExactFormatDisk: laid.
  DERIVED. THE GIVEN ROWS OF THIS SEAT. 5 by the template 'for every input the law returns true; each argument reads behind the call as it read before'; 0 by the template 'total and deterministic' (their statements: YtkbnbjdkdlooiaaGreatDoorTotals.lean).
  GIVEN WITH THE SEED: the statements are not yours to turn. If you find one false, say at which input.
  Laid BY PROGRAM, IN A SANDBOX (cutbox-rows.mjs): the forced cells as the released guide's own fill.sh prints them over the translation ce212cb50d9a7347… (all of the seat's roots in one cut). By AI agents, Wed Nov 11 2026. No macro, syntax, notation, axiom, sorry.
-/
import Derived.Test.YtkbnbjdkdlooiaaGreatDoorChecked
import GoSem.PinnedTables
import GoSem.Claim
import GoSem.ClaimJoined
import GoSem.ClaimMapViews
import Derived.JoinedTies
import Derived.KernelRfl
namespace Go.Proofs.YtkbnbjdkdlooiaaGreatDoor
/- THE CELL 'sum', in the pinned program and in every row, IS THE sha256 OF THE DUMP (.gsa) THAT YtkbnbjdkdlooiaaGreatDoorProg.lean LOADS. Nothing in Lean hashes anything: it is a label: what it is worth is what the hold of that sum in a sandbox is worth. -/
noncomputable def Tryz.pinned : Pinned := { name := "ytkbnbjdkdlooiaagreatdoor", sum := "ce212cb50d9a7347120644ceb2bd77d1b6ae8a9be9e0f0580e299b701faf6858", checked := Tryz.checked }
namespace Rows
def none {H : Type} : Left H := { results := [], args := [] }

/- WHAT THE LISTED PACKAGE-LEVEL VARIABLES READ AS WHEN THE CALL BEGINS. Each datum BY PROGRAM (the guide's laid-datum.mjs) off the statement by which the dump's own 'gosem.cut.vars' lays the variable. In a bare row this is a premise. The card (YtkbnbjdkdlooiaaGreatDoorCards.lean) ties it to the program's text. -/
def laid_unicode_utf8_acceptRanges {H : Type} : DataW H := .agg [.agg [.lit (.int .u8 128), .lit (.int .u8 191)], .agg [.lit (.int .u8 160), .lit (.int .u8 191)], .agg [.lit (.int .u8 128), .lit (.int .u8 159)], .agg [.lit (.int .u8 144), .lit (.int .u8 191)], .agg [.lit (.int .u8 128), .lit (.int .u8 143)], .agg [.lit (.int .u8 0), .lit (.int .u8 0)], .agg [.lit (.int .u8 0), .lit (.int .u8 0)], .agg [.lit (.int .u8 0), .lit (.int .u8 0)], .agg [.lit (.int .u8 0), .lit (.int .u8 0)], .agg [.lit (.int .u8 0), .lit (.int .u8 0)], .agg [.lit (.int .u8 0), .lit (.int .u8 0)], .agg [.lit (.int .u8 0), .lit (.int .u8 0)], .agg [.lit (.int .u8 0), .lit (.int .u8 0)], .agg [.lit (.int .u8 0), .lit (.int .u8 0)], .agg [.lit (.int .u8 0), .lit (.int .u8 0)], .agg [.lit (.int .u8 0), .lit (.int .u8 0)]]
/-- One of Go's own tables, pinned by name: the form's constant. -/
def laid_unicode_utf8_first : DataW Unit := Go.Pinned.utf8First

/-- 'laws.FnExactOpenStore': WHATEVER THE INPUT: true; the input reads as it did. -/
def fnExactOpenStoreSpec : ChangeSpec := { name := "fnExactOpenStore", fn := fun _ => fun
  | [d] => { results := [.lit (.bool true)], args := [d] }
  | _ => none }
def fnExactOpenStoreRow : OpenClaim := { program := "ytkbnbjdkdlooiaagreatdoor", sum := "ce212cb50d9a7347120644ceb2bd77d1b6ae8a9be9e0f0580e299b701faf6858", func := "loop.example/g00653/laws.FnExactOpenStore", spec := "fnExactOpenStore", inPlace := ["internal/bytealg.IndexByteString", "internal/bytealg.IndexString"], unfollowed := true, recurses := true, named := ["unicode/utf8.first", "unicode/utf8.acceptRanges", "internal/bytealg.MaxLen"], plainKeys := false, apart := false, laid := [("unicode/utf8.acceptRanges", laid_unicode_utf8_acceptRanges), ("unicode/utf8.first", laid_unicode_utf8_first)] }
def FnExactOpenStoreSaid : Prop := fnExactOpenStoreRow.holds Tryz.pinned (OpenSpec.ofChange fnExactOpenStoreSpec)

/-- ITS FALSE NEIGHBOUR: 'it returns false'. Refute it at one input. -/
def fnExactOpenStoreWrong : ChangeSpec := { name := "fnExactOpenStore", fn := fun _ => fun
  | [d] => { results := [.lit (.bool false)], args := [d] }
  | _ => none }
def FnExactOpenStoreWrongFalsely : Prop := fnExactOpenStoreRow.holds Tryz.pinned (OpenSpec.ofChange fnExactOpenStoreWrong)

/-- 'laws.FnExactUnpackEquations': WHATEVER THE INPUT: true; the input reads as it did. -/
def fnExactUnpackEquationsSpec : ChangeSpec := { name := "fnExactUnpackEquations", fn := fun _ => fun
  | [d1, d2] => { results := [.lit (.bool true)], args := [d1, d2] }
  | _ => none }
def fnExactUnpackEquationsRow : OpenClaim := { program := "ytkbnbjdkdlooiaagreatdoor", sum := "ce212cb50d9a7347120644ceb2bd77d1b6ae8a9be9e0f0580e299b701faf6858", func := "loop.example/g00653/laws.FnExactUnpackEquations", spec := "fnExactUnpackEquations", inPlace := ["internal/bytealg.IndexByteString", "internal/bytealg.IndexString"], unfollowed := true, recurses := true, named := ["unicode/utf8.first", "unicode/utf8.acceptRanges", "internal/bytealg.MaxLen"], plainKeys := false, apart := false, laid := [("unicode/utf8.acceptRanges", laid_unicode_utf8_acceptRanges), ("unicode/utf8.first", laid_unicode_utf8_first)] }
def FnExactUnpackEquationsSaid : Prop := fnExactUnpackEquationsRow.holds Tryz.pinned (OpenSpec.ofChange fnExactUnpackEquationsSpec)

/-- ITS FALSE NEIGHBOUR: 'it returns false'. Refute it at one input. -/
def fnExactUnpackEquationsWrong : ChangeSpec := { name := "fnExactUnpackEquations", fn := fun _ => fun
  | [d1, d2] => { results := [.lit (.bool false)], args := [d1, d2] }
  | _ => none }
def FnExactUnpackEquationsWrongFalsely : Prop := fnExactUnpackEquationsRow.holds Tryz.pinned (OpenSpec.ofChange fnExactUnpackEquationsWrong)

/-- 'laws.FnExactCommitActs': WHATEVER THE INPUT: true; the input reads as it did. -/
def fnExactCommitActsSpec : ChangeSpec := { name := "fnExactCommitActs", fn := fun _ => fun
  | [d1, d2] => { results := [.lit (.bool true)], args := [d1, d2] }
  | _ => none }
def fnExactCommitActsRow : OpenClaim := { program := "ytkbnbjdkdlooiaagreatdoor", sum := "ce212cb50d9a7347120644ceb2bd77d1b6ae8a9be9e0f0580e299b701faf6858", func := "loop.example/g00653/laws.FnExactCommitActs", spec := "fnExactCommitActs", inPlace := ["internal/bytealg.IndexByteString", "internal/bytealg.IndexString"], unfollowed := true, recurses := true, named := ["unicode/utf8.first", "unicode/utf8.acceptRanges", "internal/bytealg.MaxLen"], plainKeys := false, apart := false, laid := [("unicode/utf8.acceptRanges", laid_unicode_utf8_acceptRanges), ("unicode/utf8.first", laid_unicode_utf8_first)] }
def FnExactCommitActsSaid : Prop := fnExactCommitActsRow.holds Tryz.pinned (OpenSpec.ofChange fnExactCommitActsSpec)

/-- ITS FALSE NEIGHBOUR: 'it returns false'. Refute it at one input. -/
def fnExactCommitActsWrong : ChangeSpec := { name := "fnExactCommitActs", fn := fun _ => fun
  | [d1, d2] => { results := [.lit (.bool false)], args := [d1, d2] }
  | _ => none }
def FnExactCommitActsWrongFalsely : Prop := fnExactCommitActsRow.holds Tryz.pinned (OpenSpec.ofChange fnExactCommitActsWrong)

/-- 'laws.FnExactUnpackTheory': WHATEVER THE INPUT: true; the input reads as it did. -/
def fnExactUnpackTheorySpec : ChangeSpec := { name := "fnExactUnpackTheory", fn := fun _ => fun
  | [d1, d2] => { results := [.lit (.bool true)], args := [d1, d2] }
  | _ => none }
def fnExactUnpackTheoryRow : OpenClaim := { program := "ytkbnbjdkdlooiaagreatdoor", sum := "ce212cb50d9a7347120644ceb2bd77d1b6ae8a9be9e0f0580e299b701faf6858", func := "loop.example/g00653/laws.FnExactUnpackTheory", spec := "fnExactUnpackTheory", inPlace := ["internal/bytealg.IndexByteString", "internal/bytealg.IndexString"], unfollowed := true, recurses := true, named := ["unicode/utf8.first", "unicode/utf8.acceptRanges", "internal/bytealg.MaxLen"], plainKeys := false, apart := false, laid := [("unicode/utf8.acceptRanges", laid_unicode_utf8_acceptRanges), ("unicode/utf8.first", laid_unicode_utf8_first)] }
def FnExactUnpackTheorySaid : Prop := fnExactUnpackTheoryRow.holds Tryz.pinned (OpenSpec.ofChange fnExactUnpackTheorySpec)

/-- ITS FALSE NEIGHBOUR: 'it returns false'. Refute it at one input. -/
def fnExactUnpackTheoryWrong : ChangeSpec := { name := "fnExactUnpackTheory", fn := fun _ => fun
  | [d1, d2] => { results := [.lit (.bool false)], args := [d1, d2] }
  | _ => none }
def FnExactUnpackTheoryWrongFalsely : Prop := fnExactUnpackTheoryRow.holds Tryz.pinned (OpenSpec.ofChange fnExactUnpackTheoryWrong)

/-- 'laws.FnExactFormatDisk': WHATEVER THE INPUT: true; the input reads as it did. -/
def fnExactFormatDiskSpec : ChangeSpec := { name := "fnExactFormatDisk", fn := fun _ => fun
  | [d1, d2] => { results := [.lit (.bool true)], args := [d1, d2] }
  | _ => none }
def fnExactFormatDiskRow : OpenClaim := { program := "ytkbnbjdkdlooiaagreatdoor", sum := "ce212cb50d9a7347120644ceb2bd77d1b6ae8a9be9e0f0580e299b701faf6858", func := "loop.example/g00653/laws.FnExactFormatDisk", spec := "fnExactFormatDisk", inPlace := ["internal/bytealg.IndexByteString", "internal/bytealg.IndexString"], unfollowed := true, recurses := true, named := ["unicode/utf8.first", "unicode/utf8.acceptRanges", "internal/bytealg.MaxLen"], plainKeys := false, apart := false, laid := [("unicode/utf8.acceptRanges", laid_unicode_utf8_acceptRanges), ("unicode/utf8.first", laid_unicode_utf8_first)] }
def FnExactFormatDiskSaid : Prop := fnExactFormatDiskRow.holds Tryz.pinned (OpenSpec.ofChange fnExactFormatDiskSpec)

/-- ITS FALSE NEIGHBOUR: 'it returns false'. Refute it at one input. -/
def fnExactFormatDiskWrong : ChangeSpec := { name := "fnExactFormatDisk", fn := fun _ => fun
  | [d1, d2] => { results := [.lit (.bool false)], args := [d1, d2] }
  | _ => none }
def FnExactFormatDiskWrongFalsely : Prop := fnExactFormatDiskRow.holds Tryz.pinned (OpenSpec.ofChange fnExactFormatDiskWrong)

/- THE SECOND FORM. 'bulk': how many values and letters a reading holds, each counted each time it is reached (what is shared counts as often as it is met; a slice's spare places count too). A statement '..UptoSaid' is the law's where the arguments, and the package variables that the reading takes, are together of bulk at most 1048576: NARROWER than '..Said'. Prove '..Said' where nothing that the law and all that it calls make is longer than what came in: it says more and counts as full. Else prove '..UptoSaid'. A law counts once. -/
mutual
def uptoBulk {H : Type} : DataW H → Nat
  | .lit (.string bytes) => bytes.length + 1
  | .lit _ => 1
  | .nil => 1
  | .ptr d => uptoBulk d + 1
  | .slice elems spare => uptoBulkAll elems + uptoBulkAll spare + 1
  | .agg parts => uptoBulkAll parts + 1
  | .iface _ d => uptoBulk d + 1
  | .map entries => uptoBulkEntries entries + 1
  | .held _ => 1
def uptoBulkAll {H : Type} : List (DataW H) → Nat
  | [] => 0
  | d :: r => uptoBulk d + uptoBulkAll r
def uptoBulkEntries {H : Type} : List (Lit × DataW H) → Nat
  | [] => 0
  | x :: r => uptoBulkEntry x + uptoBulkEntries r
def uptoBulkEntry {H : Type} : Lit × DataW H → Nat
  | (.string bytes, d) => bytes.length + uptoBulk d + 1
  | (_, d) => uptoBulk d + 1
 end
def uptoSmall : (H : Type) → List (DataW H) → Bool := fun _ ds => decide (uptoBulkAll ds ≤ 1048576)
def OpenSpec.upto (s : _root_.Go.ChangeSpec) : _root_.Go.OpenSpec := { _root_.Go.OpenSpec.ofChange s with cond := some uptoSmall }

/-- 'laws.FnExactOpenStore', WHERE WHAT IT READS IS OF BULK AT MOST 1048576: true; the input reads as it did. -/
def fnExactOpenStoreUptoRow : OpenClaim := { program := "ytkbnbjdkdlooiaagreatdoor", sum := "ce212cb50d9a7347120644ceb2bd77d1b6ae8a9be9e0f0580e299b701faf6858", func := "loop.example/g00653/laws.FnExactOpenStore", spec := "fnExactOpenStore", inPlace := ["internal/bytealg.IndexByteString", "internal/bytealg.IndexString"], unfollowed := true, recurses := true, named := ["unicode/utf8.first", "unicode/utf8.acceptRanges", "internal/bytealg.MaxLen"], plainKeys := false, apart := false, laid := [("unicode/utf8.acceptRanges", laid_unicode_utf8_acceptRanges), ("unicode/utf8.first", laid_unicode_utf8_first)], narrowed := true }
def FnExactOpenStoreUptoSaid : Prop := fnExactOpenStoreUptoRow.holds Tryz.pinned (OpenSpec.upto fnExactOpenStoreSpec)

/-- 'laws.FnExactUnpackEquations', WHERE WHAT IT READS IS OF BULK AT MOST 1048576: true; the input reads as it did. -/
def fnExactUnpackEquationsUptoRow : OpenClaim := { program := "ytkbnbjdkdlooiaagreatdoor", sum := "ce212cb50d9a7347120644ceb2bd77d1b6ae8a9be9e0f0580e299b701faf6858", func := "loop.example/g00653/laws.FnExactUnpackEquations", spec := "fnExactUnpackEquations", inPlace := ["internal/bytealg.IndexByteString", "internal/bytealg.IndexString"], unfollowed := true, recurses := true, named := ["unicode/utf8.first", "unicode/utf8.acceptRanges", "internal/bytealg.MaxLen"], plainKeys := false, apart := false, laid := [("unicode/utf8.acceptRanges", laid_unicode_utf8_acceptRanges), ("unicode/utf8.first", laid_unicode_utf8_first)], narrowed := true }
def FnExactUnpackEquationsUptoSaid : Prop := fnExactUnpackEquationsUptoRow.holds Tryz.pinned (OpenSpec.upto fnExactUnpackEquationsSpec)

/-- 'laws.FnExactCommitActs', WHERE WHAT IT READS IS OF BULK AT MOST 1048576: true; the input reads as it did. -/
def fnExactCommitActsUptoRow : OpenClaim := { program := "ytkbnbjdkdlooiaagreatdoor", sum := "ce212cb50d9a7347120644ceb2bd77d1b6ae8a9be9e0f0580e299b701faf6858", func := "loop.example/g00653/laws.FnExactCommitActs", spec := "fnExactCommitActs", inPlace := ["internal/bytealg.IndexByteString", "internal/bytealg.IndexString"], unfollowed := true, recurses := true, named := ["unicode/utf8.first", "unicode/utf8.acceptRanges", "internal/bytealg.MaxLen"], plainKeys := false, apart := false, laid := [("unicode/utf8.acceptRanges", laid_unicode_utf8_acceptRanges), ("unicode/utf8.first", laid_unicode_utf8_first)], narrowed := true }
def FnExactCommitActsUptoSaid : Prop := fnExactCommitActsUptoRow.holds Tryz.pinned (OpenSpec.upto fnExactCommitActsSpec)

/-- 'laws.FnExactUnpackTheory', WHERE WHAT IT READS IS OF BULK AT MOST 1048576: true; the input reads as it did. -/
def fnExactUnpackTheoryUptoRow : OpenClaim := { program := "ytkbnbjdkdlooiaagreatdoor", sum := "ce212cb50d9a7347120644ceb2bd77d1b6ae8a9be9e0f0580e299b701faf6858", func := "loop.example/g00653/laws.FnExactUnpackTheory", spec := "fnExactUnpackTheory", inPlace := ["internal/bytealg.IndexByteString", "internal/bytealg.IndexString"], unfollowed := true, recurses := true, named := ["unicode/utf8.first", "unicode/utf8.acceptRanges", "internal/bytealg.MaxLen"], plainKeys := false, apart := false, laid := [("unicode/utf8.acceptRanges", laid_unicode_utf8_acceptRanges), ("unicode/utf8.first", laid_unicode_utf8_first)], narrowed := true }
def FnExactUnpackTheoryUptoSaid : Prop := fnExactUnpackTheoryUptoRow.holds Tryz.pinned (OpenSpec.upto fnExactUnpackTheorySpec)

/-- 'laws.FnExactFormatDisk', WHERE WHAT IT READS IS OF BULK AT MOST 1048576: true; the input reads as it did. -/
def fnExactFormatDiskUptoRow : OpenClaim := { program := "ytkbnbjdkdlooiaagreatdoor", sum := "ce212cb50d9a7347120644ceb2bd77d1b6ae8a9be9e0f0580e299b701faf6858", func := "loop.example/g00653/laws.FnExactFormatDisk", spec := "fnExactFormatDisk", inPlace := ["internal/bytealg.IndexByteString", "internal/bytealg.IndexString"], unfollowed := true, recurses := true, named := ["unicode/utf8.first", "unicode/utf8.acceptRanges", "internal/bytealg.MaxLen"], plainKeys := false, apart := false, laid := [("unicode/utf8.acceptRanges", laid_unicode_utf8_acceptRanges), ("unicode/utf8.first", laid_unicode_utf8_first)], narrowed := true }
def FnExactFormatDiskUptoSaid : Prop := fnExactFormatDiskUptoRow.holds Tryz.pinned (OpenSpec.upto fnExactFormatDiskSpec)

end Rows
end Go.Proofs.YtkbnbjdkdlooiaaGreatDoor
