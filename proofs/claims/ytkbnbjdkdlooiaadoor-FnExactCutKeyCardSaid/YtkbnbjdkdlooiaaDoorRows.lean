/-
  NARROWER THAN 'FOR EVERY INPUT', by the rows' own cells (each row's printed sentence says how): FnExactSuperFault: laid · FnExactReadSignature: laid · FnExactUnpackTerm: laid · FnExactPackSuper: laid · FnExactCutKey: laid · FnExactReadSuper: laid.
  DERIVED. THE GIVEN ROWS OF THIS SEAT. 6 by the template 'for every input the law returns true; each argument reads behind the call as it read before'; 0 by the template 'total and deterministic' (their statements: YtkbnbjdkdlooiaaDoorTotals.lean).
  GIVEN WITH THE SEED: the statements are not yours to turn. If you find one false, say at which input.
  Laid BY PROGRAM, IN A SANDBOX (cutbox-rows.mjs): the forced cells as the released guide's own fill.sh prints them over the translation d1db9e32f52a0399… (all of the seat's roots in one cut). By AI agents, Wed Nov 11 2026. No macro, syntax, notation, axiom, sorry.
-/
import Derived.Test.YtkbnbjdkdlooiaaDoorChecked
import GoSem.PinnedTables
import GoSem.Claim
import GoSem.ClaimJoined
import GoSem.ClaimMapViews
import Derived.JoinedTies
import Derived.KernelRfl
namespace Go.Proofs.YtkbnbjdkdlooiaaDoor
/- THE CELL 'sum', in the pinned program and in every row, IS THE sha256 OF THE DUMP (.gsa) THAT YtkbnbjdkdlooiaaDoorProg.lean LOADS. Nothing in Lean hashes anything: it is a label: what it is worth is what the hold of that sum in a sandbox is worth. -/
noncomputable def Tryd.pinned : Pinned := { name := "ytkbnbjdkdlooiaadoor", sum := "d1db9e32f52a0399c6342fd141f27c5193329595778d1918214dbd2f14adf5e4", checked := Tryd.checked }
namespace Rows
def none {H : Type} : Left H := { results := [], args := [] }

/- WHAT THE LISTED PACKAGE-LEVEL VARIABLES READ AS WHEN THE CALL BEGINS. Each datum BY PROGRAM (the guide's laid-datum.mjs) off the statement by which the dump's own 'gosem.cut.vars' lays the variable. In a bare row this is a premise. The card (YtkbnbjdkdlooiaaDoorCards.lean) ties it to the program's text. -/
def laid_unicode_utf8_acceptRanges {H : Type} : DataW H := .agg [.agg [.lit (.int .u8 128), .lit (.int .u8 191)], .agg [.lit (.int .u8 160), .lit (.int .u8 191)], .agg [.lit (.int .u8 128), .lit (.int .u8 159)], .agg [.lit (.int .u8 144), .lit (.int .u8 191)], .agg [.lit (.int .u8 128), .lit (.int .u8 143)], .agg [.lit (.int .u8 0), .lit (.int .u8 0)], .agg [.lit (.int .u8 0), .lit (.int .u8 0)], .agg [.lit (.int .u8 0), .lit (.int .u8 0)], .agg [.lit (.int .u8 0), .lit (.int .u8 0)], .agg [.lit (.int .u8 0), .lit (.int .u8 0)], .agg [.lit (.int .u8 0), .lit (.int .u8 0)], .agg [.lit (.int .u8 0), .lit (.int .u8 0)], .agg [.lit (.int .u8 0), .lit (.int .u8 0)], .agg [.lit (.int .u8 0), .lit (.int .u8 0)], .agg [.lit (.int .u8 0), .lit (.int .u8 0)], .agg [.lit (.int .u8 0), .lit (.int .u8 0)]]
/-- One of Go's own tables, pinned by name: the form's constant. -/
def laid_unicode_utf8_first : DataW Unit := Go.Pinned.utf8First

/-- 'laws.FnExactSuperFault': WHATEVER THE INPUT: true; the input reads as it did. -/
def fnExactSuperFaultSpec : ChangeSpec := { name := "fnExactSuperFault", fn := fun _ => fun
  | [d] => { results := [.lit (.bool true)], args := [d] }
  | _ => none }
def fnExactSuperFaultRow : OpenClaim := { program := "ytkbnbjdkdlooiaadoor", sum := "d1db9e32f52a0399c6342fd141f27c5193329595778d1918214dbd2f14adf5e4", func := "loop.example/g00653/laws.FnExactSuperFault", spec := "fnExactSuperFault", inPlace := ["internal/bytealg.IndexByteString", "internal/bytealg.IndexString"], unfollowed := true, recurses := true, named := ["unicode/utf8.first", "unicode/utf8.acceptRanges", "internal/bytealg.MaxLen"], apart := false, laid := [("unicode/utf8.acceptRanges", laid_unicode_utf8_acceptRanges), ("unicode/utf8.first", laid_unicode_utf8_first)] }
def FnExactSuperFaultSaid : Prop := fnExactSuperFaultRow.holds Tryd.pinned (OpenSpec.ofChange fnExactSuperFaultSpec)

/-- ITS FALSE NEIGHBOUR: 'it returns false'. Refute it at one input. -/
def fnExactSuperFaultWrong : ChangeSpec := { name := "fnExactSuperFault", fn := fun _ => fun
  | [d] => { results := [.lit (.bool false)], args := [d] }
  | _ => none }
def FnExactSuperFaultWrongFalsely : Prop := fnExactSuperFaultRow.holds Tryd.pinned (OpenSpec.ofChange fnExactSuperFaultWrong)

/-- 'laws.FnExactReadSignature': WHATEVER THE INPUT: true; the input reads as it did. -/
def fnExactReadSignatureSpec : ChangeSpec := { name := "fnExactReadSignature", fn := fun _ => fun
  | [d] => { results := [.lit (.bool true)], args := [d] }
  | _ => none }
def fnExactReadSignatureRow : OpenClaim := { program := "ytkbnbjdkdlooiaadoor", sum := "d1db9e32f52a0399c6342fd141f27c5193329595778d1918214dbd2f14adf5e4", func := "loop.example/g00653/laws.FnExactReadSignature", spec := "fnExactReadSignature", inPlace := ["internal/bytealg.IndexByteString", "internal/bytealg.IndexString"], unfollowed := true, recurses := true, named := ["unicode/utf8.first", "unicode/utf8.acceptRanges", "internal/bytealg.MaxLen"], apart := false, laid := [("unicode/utf8.acceptRanges", laid_unicode_utf8_acceptRanges), ("unicode/utf8.first", laid_unicode_utf8_first)] }
def FnExactReadSignatureSaid : Prop := fnExactReadSignatureRow.holds Tryd.pinned (OpenSpec.ofChange fnExactReadSignatureSpec)

/-- ITS FALSE NEIGHBOUR: 'it returns false'. Refute it at one input. -/
def fnExactReadSignatureWrong : ChangeSpec := { name := "fnExactReadSignature", fn := fun _ => fun
  | [d] => { results := [.lit (.bool false)], args := [d] }
  | _ => none }
def FnExactReadSignatureWrongFalsely : Prop := fnExactReadSignatureRow.holds Tryd.pinned (OpenSpec.ofChange fnExactReadSignatureWrong)

/-- 'laws.FnExactUnpackTerm': WHATEVER THE INPUT: true; the input reads as it did. -/
def fnExactUnpackTermSpec : ChangeSpec := { name := "fnExactUnpackTerm", fn := fun _ => fun
  | [d1, d2] => { results := [.lit (.bool true)], args := [d1, d2] }
  | _ => none }
def fnExactUnpackTermRow : OpenClaim := { program := "ytkbnbjdkdlooiaadoor", sum := "d1db9e32f52a0399c6342fd141f27c5193329595778d1918214dbd2f14adf5e4", func := "loop.example/g00653/laws.FnExactUnpackTerm", spec := "fnExactUnpackTerm", inPlace := ["internal/bytealg.IndexByteString", "internal/bytealg.IndexString"], unfollowed := true, recurses := true, named := ["unicode/utf8.first", "unicode/utf8.acceptRanges", "internal/bytealg.MaxLen"], apart := false, laid := [("unicode/utf8.acceptRanges", laid_unicode_utf8_acceptRanges), ("unicode/utf8.first", laid_unicode_utf8_first)] }
def FnExactUnpackTermSaid : Prop := fnExactUnpackTermRow.holds Tryd.pinned (OpenSpec.ofChange fnExactUnpackTermSpec)

/-- ITS FALSE NEIGHBOUR: 'it returns false'. Refute it at one input. -/
def fnExactUnpackTermWrong : ChangeSpec := { name := "fnExactUnpackTerm", fn := fun _ => fun
  | [d1, d2] => { results := [.lit (.bool false)], args := [d1, d2] }
  | _ => none }
def FnExactUnpackTermWrongFalsely : Prop := fnExactUnpackTermRow.holds Tryd.pinned (OpenSpec.ofChange fnExactUnpackTermWrong)

/-- 'laws.FnExactPackSuper': WHATEVER THE INPUT: true; the input reads as it did. -/
def fnExactPackSuperSpec : ChangeSpec := { name := "fnExactPackSuper", fn := fun _ => fun
  | [d] => { results := [.lit (.bool true)], args := [d] }
  | _ => none }
def fnExactPackSuperRow : OpenClaim := { program := "ytkbnbjdkdlooiaadoor", sum := "d1db9e32f52a0399c6342fd141f27c5193329595778d1918214dbd2f14adf5e4", func := "loop.example/g00653/laws.FnExactPackSuper", spec := "fnExactPackSuper", inPlace := ["internal/bytealg.IndexByteString", "internal/bytealg.IndexString"], unfollowed := true, recurses := true, named := ["unicode/utf8.first", "unicode/utf8.acceptRanges", "internal/bytealg.MaxLen"], apart := false, laid := [("unicode/utf8.acceptRanges", laid_unicode_utf8_acceptRanges), ("unicode/utf8.first", laid_unicode_utf8_first)] }
def FnExactPackSuperSaid : Prop := fnExactPackSuperRow.holds Tryd.pinned (OpenSpec.ofChange fnExactPackSuperSpec)

/-- ITS FALSE NEIGHBOUR: 'it returns false'. Refute it at one input. -/
def fnExactPackSuperWrong : ChangeSpec := { name := "fnExactPackSuper", fn := fun _ => fun
  | [d] => { results := [.lit (.bool false)], args := [d] }
  | _ => none }
def FnExactPackSuperWrongFalsely : Prop := fnExactPackSuperRow.holds Tryd.pinned (OpenSpec.ofChange fnExactPackSuperWrong)

/-- 'laws.FnExactCutKey': WHATEVER THE INPUT: true; the input reads as it did. -/
def fnExactCutKeySpec : ChangeSpec := { name := "fnExactCutKey", fn := fun _ => fun
  | [d1, d2] => { results := [.lit (.bool true)], args := [d1, d2] }
  | _ => none }
def fnExactCutKeyRow : OpenClaim := { program := "ytkbnbjdkdlooiaadoor", sum := "d1db9e32f52a0399c6342fd141f27c5193329595778d1918214dbd2f14adf5e4", func := "loop.example/g00653/laws.FnExactCutKey", spec := "fnExactCutKey", inPlace := ["internal/bytealg.IndexByteString", "internal/bytealg.IndexString"], unfollowed := true, recurses := true, named := ["unicode/utf8.first", "unicode/utf8.acceptRanges", "internal/bytealg.MaxLen"], apart := false, laid := [("unicode/utf8.acceptRanges", laid_unicode_utf8_acceptRanges), ("unicode/utf8.first", laid_unicode_utf8_first)] }
def FnExactCutKeySaid : Prop := fnExactCutKeyRow.holds Tryd.pinned (OpenSpec.ofChange fnExactCutKeySpec)

/-- ITS FALSE NEIGHBOUR: 'it returns false'. Refute it at one input. -/
def fnExactCutKeyWrong : ChangeSpec := { name := "fnExactCutKey", fn := fun _ => fun
  | [d1, d2] => { results := [.lit (.bool false)], args := [d1, d2] }
  | _ => none }
def FnExactCutKeyWrongFalsely : Prop := fnExactCutKeyRow.holds Tryd.pinned (OpenSpec.ofChange fnExactCutKeyWrong)

/-- 'laws.FnExactReadSuper': WHATEVER THE INPUT: true; the input reads as it did. -/
def fnExactReadSuperSpec : ChangeSpec := { name := "fnExactReadSuper", fn := fun _ => fun
  | [d] => { results := [.lit (.bool true)], args := [d] }
  | _ => none }
def fnExactReadSuperRow : OpenClaim := { program := "ytkbnbjdkdlooiaadoor", sum := "d1db9e32f52a0399c6342fd141f27c5193329595778d1918214dbd2f14adf5e4", func := "loop.example/g00653/laws.FnExactReadSuper", spec := "fnExactReadSuper", inPlace := ["internal/bytealg.IndexByteString", "internal/bytealg.IndexString"], unfollowed := true, recurses := true, named := ["unicode/utf8.first", "unicode/utf8.acceptRanges", "internal/bytealg.MaxLen"], apart := false, laid := [("unicode/utf8.acceptRanges", laid_unicode_utf8_acceptRanges), ("unicode/utf8.first", laid_unicode_utf8_first)] }
def FnExactReadSuperSaid : Prop := fnExactReadSuperRow.holds Tryd.pinned (OpenSpec.ofChange fnExactReadSuperSpec)

/-- ITS FALSE NEIGHBOUR: 'it returns false'. Refute it at one input. -/
def fnExactReadSuperWrong : ChangeSpec := { name := "fnExactReadSuper", fn := fun _ => fun
  | [d] => { results := [.lit (.bool false)], args := [d] }
  | _ => none }
def FnExactReadSuperWrongFalsely : Prop := fnExactReadSuperRow.holds Tryd.pinned (OpenSpec.ofChange fnExactReadSuperWrong)

/- THE SECOND FORM. 'bulk': how many values and letters a reading holds, each counted each time it is reached (what is shared counts as often as it is met; a slice's spare places count too). A statement '..UptoSaid' is the law's where the arguments, and the package variables that the reading takes, are together of bulk at most 1048576: NARROWER than '..Said'. Prove '..Said' where nothing that the law and all that it calls make is longer than what came in: it says more and counts as full. Else prove '..UptoSaid'. A law counts once. -/
mutual
def uptoBulk {H : Type} : DataW H → Nat
  | .lit (.string bytes) => bytes.length + 1
  | .lit _ => 1
  | .nil => 1
  | .ptr d => uptoBulk d + 1
  | .slice elems spare => uptoBulkAll elems + uptoBulkAll spare + 1
  | .agg parts => uptoBulkAll parts + 1
  | .iface _ d => uptoBulk d + 1
  | .map entries => uptoBulkEntries entries + 1
  | .held _ => 1
def uptoBulkAll {H : Type} : List (DataW H) → Nat
  | [] => 0
  | d :: r => uptoBulk d + uptoBulkAll r
def uptoBulkEntries {H : Type} : List (Lit × DataW H) → Nat
  | [] => 0
  | x :: r => uptoBulkEntry x + uptoBulkEntries r
def uptoBulkEntry {H : Type} : Lit × DataW H → Nat
  | (.string bytes, d) => bytes.length + uptoBulk d + 1
  | (_, d) => uptoBulk d + 1
 end
def uptoSmall : (H : Type) → List (DataW H) → Bool := fun _ ds => decide (uptoBulkAll ds ≤ 1048576)
def OpenSpec.upto (s : _root_.Go.ChangeSpec) : _root_.Go.OpenSpec := { _root_.Go.OpenSpec.ofChange s with cond := some uptoSmall }

/-- 'laws.FnExactSuperFault', WHERE WHAT IT READS IS OF BULK AT MOST 1048576: true; the input reads as it did. -/
def fnExactSuperFaultUptoRow : OpenClaim := { program := "ytkbnbjdkdlooiaadoor", sum := "d1db9e32f52a0399c6342fd141f27c5193329595778d1918214dbd2f14adf5e4", func := "loop.example/g00653/laws.FnExactSuperFault", spec := "fnExactSuperFault", inPlace := ["internal/bytealg.IndexByteString", "internal/bytealg.IndexString"], unfollowed := true, recurses := true, named := ["unicode/utf8.first", "unicode/utf8.acceptRanges", "internal/bytealg.MaxLen"], apart := false, laid := [("unicode/utf8.acceptRanges", laid_unicode_utf8_acceptRanges), ("unicode/utf8.first", laid_unicode_utf8_first)], narrowed := true }
def FnExactSuperFaultUptoSaid : Prop := fnExactSuperFaultUptoRow.holds Tryd.pinned (OpenSpec.upto fnExactSuperFaultSpec)

/-- 'laws.FnExactReadSignature', WHERE WHAT IT READS IS OF BULK AT MOST 1048576: true; the input reads as it did. -/
def fnExactReadSignatureUptoRow : OpenClaim := { program := "ytkbnbjdkdlooiaadoor", sum := "d1db9e32f52a0399c6342fd141f27c5193329595778d1918214dbd2f14adf5e4", func := "loop.example/g00653/laws.FnExactReadSignature", spec := "fnExactReadSignature", inPlace := ["internal/bytealg.IndexByteString", "internal/bytealg.IndexString"], unfollowed := true, recurses := true, named := ["unicode/utf8.first", "unicode/utf8.acceptRanges", "internal/bytealg.MaxLen"], apart := false, laid := [("unicode/utf8.acceptRanges", laid_unicode_utf8_acceptRanges), ("unicode/utf8.first", laid_unicode_utf8_first)], narrowed := true }
def FnExactReadSignatureUptoSaid : Prop := fnExactReadSignatureUptoRow.holds Tryd.pinned (OpenSpec.upto fnExactReadSignatureSpec)

/-- 'laws.FnExactUnpackTerm', WHERE WHAT IT READS IS OF BULK AT MOST 1048576: true; the input reads as it did. -/
def fnExactUnpackTermUptoRow : OpenClaim := { program := "ytkbnbjdkdlooiaadoor", sum := "d1db9e32f52a0399c6342fd141f27c5193329595778d1918214dbd2f14adf5e4", func := "loop.example/g00653/laws.FnExactUnpackTerm", spec := "fnExactUnpackTerm", inPlace := ["internal/bytealg.IndexByteString", "internal/bytealg.IndexString"], unfollowed := true, recurses := true, named := ["unicode/utf8.first", "unicode/utf8.acceptRanges", "internal/bytealg.MaxLen"], apart := false, laid := [("unicode/utf8.acceptRanges", laid_unicode_utf8_acceptRanges), ("unicode/utf8.first", laid_unicode_utf8_first)], narrowed := true }
def FnExactUnpackTermUptoSaid : Prop := fnExactUnpackTermUptoRow.holds Tryd.pinned (OpenSpec.upto fnExactUnpackTermSpec)

/-- 'laws.FnExactPackSuper', WHERE WHAT IT READS IS OF BULK AT MOST 1048576: true; the input reads as it did. -/
def fnExactPackSuperUptoRow : OpenClaim := { program := "ytkbnbjdkdlooiaadoor", sum := "d1db9e32f52a0399c6342fd141f27c5193329595778d1918214dbd2f14adf5e4", func := "loop.example/g00653/laws.FnExactPackSuper", spec := "fnExactPackSuper", inPlace := ["internal/bytealg.IndexByteString", "internal/bytealg.IndexString"], unfollowed := true, recurses := true, named := ["unicode/utf8.first", "unicode/utf8.acceptRanges", "internal/bytealg.MaxLen"], apart := false, laid := [("unicode/utf8.acceptRanges", laid_unicode_utf8_acceptRanges), ("unicode/utf8.first", laid_unicode_utf8_first)], narrowed := true }
def FnExactPackSuperUptoSaid : Prop := fnExactPackSuperUptoRow.holds Tryd.pinned (OpenSpec.upto fnExactPackSuperSpec)

/-- 'laws.FnExactCutKey', WHERE WHAT IT READS IS OF BULK AT MOST 1048576: true; the input reads as it did. -/
def fnExactCutKeyUptoRow : OpenClaim := { program := "ytkbnbjdkdlooiaadoor", sum := "d1db9e32f52a0399c6342fd141f27c5193329595778d1918214dbd2f14adf5e4", func := "loop.example/g00653/laws.FnExactCutKey", spec := "fnExactCutKey", inPlace := ["internal/bytealg.IndexByteString", "internal/bytealg.IndexString"], unfollowed := true, recurses := true, named := ["unicode/utf8.first", "unicode/utf8.acceptRanges", "internal/bytealg.MaxLen"], apart := false, laid := [("unicode/utf8.acceptRanges", laid_unicode_utf8_acceptRanges), ("unicode/utf8.first", laid_unicode_utf8_first)], narrowed := true }
def FnExactCutKeyUptoSaid : Prop := fnExactCutKeyUptoRow.holds Tryd.pinned (OpenSpec.upto fnExactCutKeySpec)

/-- 'laws.FnExactReadSuper', WHERE WHAT IT READS IS OF BULK AT MOST 1048576: true; the input reads as it did. -/
def fnExactReadSuperUptoRow : OpenClaim := { program := "ytkbnbjdkdlooiaadoor", sum := "d1db9e32f52a0399c6342fd141f27c5193329595778d1918214dbd2f14adf5e4", func := "loop.example/g00653/laws.FnExactReadSuper", spec := "fnExactReadSuper", inPlace := ["internal/bytealg.IndexByteString", "internal/bytealg.IndexString"], unfollowed := true, recurses := true, named := ["unicode/utf8.first", "unicode/utf8.acceptRanges", "internal/bytealg.MaxLen"], apart := false, laid := [("unicode/utf8.acceptRanges", laid_unicode_utf8_acceptRanges), ("unicode/utf8.first", laid_unicode_utf8_first)], narrowed := true }
def FnExactReadSuperUptoSaid : Prop := fnExactReadSuperUptoRow.holds Tryd.pinned (OpenSpec.upto fnExactReadSuperSpec)

end Rows
end Go.Proofs.YtkbnbjdkdlooiaaDoor
