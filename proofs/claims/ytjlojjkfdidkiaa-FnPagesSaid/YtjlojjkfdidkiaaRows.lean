/-
  No cell of these rows narrows 'for every input' (looked for: loops, veiled, ifaces, maps, wideKeys, modest, calm, conditions, laid).
  DERIVED. THE GIVEN ROWS OF THIS SEAT. 6 by the template 'for every input the law returns true; each argument reads behind the call as it read before'; 0 by the template 'total and deterministic' (their statements: YtjlojjkfdidkiaaTotals.lean).
  GIVEN WITH THE SEED: the statements are not yours to turn. If you find one false, say at which input.
  Laid BY PROGRAM, IN A SANDBOX (cutbox-rows.mjs): the forced cells as the released guide's own fill.sh prints them over the translation 2180fe0cdd061dba… (all of the seat's roots in one cut). By AI agents, Wed Nov 11 2026. No macro, syntax, notation, axiom, sorry.
-/
import Derived.Test.YtjlojjkfdidkiaaChecked
import GoSem.Claim
import GoSem.ClaimJoined
import GoSem.ClaimMapViews
import Derived.JoinedTies
import Derived.KernelRfl
namespace Go.Proofs.Ytjlojjkfdidkiaa
/- THE CELL 'sum', in the pinned program and in every row, IS THE sha256 OF THE DUMP (.gsa) THAT YtjlojjkfdidkiaaProg.lean LOADS. Nothing in Lean hashes anything: it is a label: what it is worth is what the hold of that sum in a sandbox is worth. -/
noncomputable def Try.pinned : Pinned := { name := "ytjlojjkfdidkiaa", sum := "2180fe0cdd061dba68ec5ee9ab0d4e8f2312ab2dbc157d7155ce8a9e4ce643c3", checked := Try.checked }
namespace Rows
def none {H : Type} : Left H := { results := [], args := [] }

/-- 'laws.FnExactTreeFault': WHATEVER THE INPUT: true; the input reads as it did. -/
def fnExactTreeFaultSpec : ChangeSpec := { name := "fnExactTreeFault", fn := fun _ => fun
  | [d1, d2] => { results := [.lit (.bool true)], args := [d1, d2] }
  | _ => none }
def fnExactTreeFaultRow : OpenClaim := { program := "ytjlojjkfdidkiaa", sum := "2180fe0cdd061dba68ec5ee9ab0d4e8f2312ab2dbc157d7155ce8a9e4ce643c3", func := "loop.example/g00653/laws.FnExactTreeFault", spec := "fnExactTreeFault", inPlace := ["internal/bytealg.Compare"], unfollowed := true, recurses := true, apart := false }
def FnExactTreeFaultSaid : Prop := fnExactTreeFaultRow.holds Try.pinned (OpenSpec.ofChange fnExactTreeFaultSpec)

/-- ITS FALSE NEIGHBOUR: 'it returns false'. Refute it at one input. -/
def fnExactTreeFaultWrong : ChangeSpec := { name := "fnExactTreeFault", fn := fun _ => fun
  | [d1, d2] => { results := [.lit (.bool false)], args := [d1, d2] }
  | _ => none }
def FnExactTreeFaultWrongFalsely : Prop := fnExactTreeFaultRow.holds Try.pinned (OpenSpec.ofChange fnExactTreeFaultWrong)

/-- 'laws.FnExactGetRow': WHATEVER THE INPUT: true; the input reads as it did. -/
def fnExactGetRowSpec : ChangeSpec := { name := "fnExactGetRow", fn := fun _ => fun
  | [d1, d2, d3] => { results := [.lit (.bool true)], args := [d1, d2, d3] }
  | _ => none }
def fnExactGetRowRow : OpenClaim := { program := "ytjlojjkfdidkiaa", sum := "2180fe0cdd061dba68ec5ee9ab0d4e8f2312ab2dbc157d7155ce8a9e4ce643c3", func := "loop.example/g00653/laws.FnExactGetRow", spec := "fnExactGetRow", inPlace := ["internal/bytealg.Compare"], unfollowed := true, recurses := true, apart := false }
def FnExactGetRowSaid : Prop := fnExactGetRowRow.holds Try.pinned (OpenSpec.ofChange fnExactGetRowSpec)

/-- ITS FALSE NEIGHBOUR: 'it returns false'. Refute it at one input. -/
def fnExactGetRowWrong : ChangeSpec := { name := "fnExactGetRow", fn := fun _ => fun
  | [d1, d2, d3] => { results := [.lit (.bool false)], args := [d1, d2, d3] }
  | _ => none }
def FnExactGetRowWrongFalsely : Prop := fnExactGetRowRow.holds Try.pinned (OpenSpec.ofChange fnExactGetRowWrong)

/-- 'laws.FnExactRowsIn': WHATEVER THE INPUT: true; the input reads as it did. -/
def fnExactRowsInSpec : ChangeSpec := { name := "fnExactRowsIn", fn := fun _ => fun
  | [d1, d2] => { results := [.lit (.bool true)], args := [d1, d2] }
  | _ => none }
def fnExactRowsInRow : OpenClaim := { program := "ytjlojjkfdidkiaa", sum := "2180fe0cdd061dba68ec5ee9ab0d4e8f2312ab2dbc157d7155ce8a9e4ce643c3", func := "loop.example/g00653/laws.FnExactRowsIn", spec := "fnExactRowsIn", inPlace := ["internal/bytealg.Compare"], unfollowed := true, recurses := true, apart := false }
def FnExactRowsInSaid : Prop := fnExactRowsInRow.holds Try.pinned (OpenSpec.ofChange fnExactRowsInSpec)

/-- ITS FALSE NEIGHBOUR: 'it returns false'. Refute it at one input. -/
def fnExactRowsInWrong : ChangeSpec := { name := "fnExactRowsIn", fn := fun _ => fun
  | [d1, d2] => { results := [.lit (.bool false)], args := [d1, d2] }
  | _ => none }
def FnExactRowsInWrongFalsely : Prop := fnExactRowsInRow.holds Try.pinned (OpenSpec.ofChange fnExactRowsInWrong)

/-- 'laws.FnExactScanRows': WHATEVER THE INPUT: true; the input reads as it did. -/
def fnExactScanRowsSpec : ChangeSpec := { name := "fnExactScanRows", fn := fun _ => fun
  | [d1, d2, d3, d4] => { results := [.lit (.bool true)], args := [d1, d2, d3, d4] }
  | _ => none }
def fnExactScanRowsRow : OpenClaim := { program := "ytjlojjkfdidkiaa", sum := "2180fe0cdd061dba68ec5ee9ab0d4e8f2312ab2dbc157d7155ce8a9e4ce643c3", func := "loop.example/g00653/laws.FnExactScanRows", spec := "fnExactScanRows", inPlace := ["internal/bytealg.Compare"], unfollowed := true, recurses := true, apart := false }
def FnExactScanRowsSaid : Prop := fnExactScanRowsRow.holds Try.pinned (OpenSpec.ofChange fnExactScanRowsSpec)

/-- ITS FALSE NEIGHBOUR: 'it returns false'. Refute it at one input. -/
def fnExactScanRowsWrong : ChangeSpec := { name := "fnExactScanRows", fn := fun _ => fun
  | [d1, d2, d3, d4] => { results := [.lit (.bool false)], args := [d1, d2, d3, d4] }
  | _ => none }
def FnExactScanRowsWrongFalsely : Prop := fnExactScanRowsRow.holds Try.pinned (OpenSpec.ofChange fnExactScanRowsWrong)

/-- 'laws.FnPages': WHATEVER THE INPUT: true; the input reads as it did. -/
def fnPagesSpec : ChangeSpec := { name := "fnPages", fn := fun _ => fun
  | [d] => { results := [.lit (.bool true)], args := [d] }
  | _ => none }
def fnPagesRow : OpenClaim := { program := "ytjlojjkfdidkiaa", sum := "2180fe0cdd061dba68ec5ee9ab0d4e8f2312ab2dbc157d7155ce8a9e4ce643c3", func := "loop.example/g00653/laws.FnPages", spec := "fnPages", apart := false }
def FnPagesSaid : Prop := fnPagesRow.holds Try.pinned (OpenSpec.ofChange fnPagesSpec)

/-- ITS FALSE NEIGHBOUR: 'it returns false'. Refute it at one input. -/
def fnPagesWrong : ChangeSpec := { name := "fnPages", fn := fun _ => fun
  | [d] => { results := [.lit (.bool false)], args := [d] }
  | _ => none }
def FnPagesWrongFalsely : Prop := fnPagesRow.holds Try.pinned (OpenSpec.ofChange fnPagesWrong)

/-- 'laws.FnActs': WHATEVER THE INPUT: true; the input reads as it did. -/
def fnActsSpec : ChangeSpec := { name := "fnActs", fn := fun _ => fun
  | [d] => { results := [.lit (.bool true)], args := [d] }
  | _ => none }
def fnActsRow : OpenClaim := { program := "ytjlojjkfdidkiaa", sum := "2180fe0cdd061dba68ec5ee9ab0d4e8f2312ab2dbc157d7155ce8a9e4ce643c3", func := "loop.example/g00653/laws.FnActs", spec := "fnActs", unfollowed := true, recurses := true, apart := false }
def FnActsSaid : Prop := fnActsRow.holds Try.pinned (OpenSpec.ofChange fnActsSpec)

/-- ITS FALSE NEIGHBOUR: 'it returns false'. Refute it at one input. -/
def fnActsWrong : ChangeSpec := { name := "fnActs", fn := fun _ => fun
  | [d] => { results := [.lit (.bool false)], args := [d] }
  | _ => none }
def FnActsWrongFalsely : Prop := fnActsRow.holds Try.pinned (OpenSpec.ofChange fnActsWrong)

/- THE SECOND FORM. 'bulk': how many values and letters a reading holds, each counted each time it is reached (what is shared counts as often as it is met; a slice's spare places count too). A statement '..UptoSaid' is the law's where the arguments, and the package variables that the reading takes, are together of bulk at most 1048576: NARROWER than '..Said'. Prove '..Said' where nothing that the law and all that it calls make is longer than what came in: it says more and counts as full. Else prove '..UptoSaid'. A law counts once. -/
mutual
def uptoBulk {H : Type} : DataW H → Nat
  | .lit (.string bytes) => bytes.length + 1
  | .lit _ => 1
  | .nil => 1
  | .ptr d => uptoBulk d + 1
  | .slice elems spare => uptoBulkAll elems + uptoBulkAll spare + 1
  | .agg parts => uptoBulkAll parts + 1
  | .iface _ d => uptoBulk d + 1
  | .map entries => uptoBulkEntries entries + 1
  | .held _ => 1
def uptoBulkAll {H : Type} : List (DataW H) → Nat
  | [] => 0
  | d :: r => uptoBulk d + uptoBulkAll r
def uptoBulkEntries {H : Type} : List (Lit × DataW H) → Nat
  | [] => 0
  | x :: r => uptoBulkEntry x + uptoBulkEntries r
def uptoBulkEntry {H : Type} : Lit × DataW H → Nat
  | (.string bytes, d) => bytes.length + uptoBulk d + 1
  | (_, d) => uptoBulk d + 1
 end
def uptoSmall : (H : Type) → List (DataW H) → Bool := fun _ ds => decide (uptoBulkAll ds ≤ 1048576)
def OpenSpec.upto (s : _root_.Go.ChangeSpec) : _root_.Go.OpenSpec := { _root_.Go.OpenSpec.ofChange s with cond := some uptoSmall }

/-- 'laws.FnExactTreeFault', WHERE WHAT IT READS IS OF BULK AT MOST 1048576: true; the input reads as it did. -/
def fnExactTreeFaultUptoRow : OpenClaim := { program := "ytjlojjkfdidkiaa", sum := "2180fe0cdd061dba68ec5ee9ab0d4e8f2312ab2dbc157d7155ce8a9e4ce643c3", func := "loop.example/g00653/laws.FnExactTreeFault", spec := "fnExactTreeFault", inPlace := ["internal/bytealg.Compare"], unfollowed := true, recurses := true, apart := false, narrowed := true }
def FnExactTreeFaultUptoSaid : Prop := fnExactTreeFaultUptoRow.holds Try.pinned (OpenSpec.upto fnExactTreeFaultSpec)

/-- 'laws.FnExactGetRow', WHERE WHAT IT READS IS OF BULK AT MOST 1048576: true; the input reads as it did. -/
def fnExactGetRowUptoRow : OpenClaim := { program := "ytjlojjkfdidkiaa", sum := "2180fe0cdd061dba68ec5ee9ab0d4e8f2312ab2dbc157d7155ce8a9e4ce643c3", func := "loop.example/g00653/laws.FnExactGetRow", spec := "fnExactGetRow", inPlace := ["internal/bytealg.Compare"], unfollowed := true, recurses := true, apart := false, narrowed := true }
def FnExactGetRowUptoSaid : Prop := fnExactGetRowUptoRow.holds Try.pinned (OpenSpec.upto fnExactGetRowSpec)

/-- 'laws.FnExactRowsIn', WHERE WHAT IT READS IS OF BULK AT MOST 1048576: true; the input reads as it did. -/
def fnExactRowsInUptoRow : OpenClaim := { program := "ytjlojjkfdidkiaa", sum := "2180fe0cdd061dba68ec5ee9ab0d4e8f2312ab2dbc157d7155ce8a9e4ce643c3", func := "loop.example/g00653/laws.FnExactRowsIn", spec := "fnExactRowsIn", inPlace := ["internal/bytealg.Compare"], unfollowed := true, recurses := true, apart := false, narrowed := true }
def FnExactRowsInUptoSaid : Prop := fnExactRowsInUptoRow.holds Try.pinned (OpenSpec.upto fnExactRowsInSpec)

/-- 'laws.FnExactScanRows', WHERE WHAT IT READS IS OF BULK AT MOST 1048576: true; the input reads as it did. -/
def fnExactScanRowsUptoRow : OpenClaim := { program := "ytjlojjkfdidkiaa", sum := "2180fe0cdd061dba68ec5ee9ab0d4e8f2312ab2dbc157d7155ce8a9e4ce643c3", func := "loop.example/g00653/laws.FnExactScanRows", spec := "fnExactScanRows", inPlace := ["internal/bytealg.Compare"], unfollowed := true, recurses := true, apart := false, narrowed := true }
def FnExactScanRowsUptoSaid : Prop := fnExactScanRowsUptoRow.holds Try.pinned (OpenSpec.upto fnExactScanRowsSpec)

/-- 'laws.FnPages', WHERE WHAT IT READS IS OF BULK AT MOST 1048576: true; the input reads as it did. -/
def fnPagesUptoRow : OpenClaim := { program := "ytjlojjkfdidkiaa", sum := "2180fe0cdd061dba68ec5ee9ab0d4e8f2312ab2dbc157d7155ce8a9e4ce643c3", func := "loop.example/g00653/laws.FnPages", spec := "fnPages", apart := false, narrowed := true }
def FnPagesUptoSaid : Prop := fnPagesUptoRow.holds Try.pinned (OpenSpec.upto fnPagesSpec)

/-- 'laws.FnActs', WHERE WHAT IT READS IS OF BULK AT MOST 1048576: true; the input reads as it did. -/
def fnActsUptoRow : OpenClaim := { program := "ytjlojjkfdidkiaa", sum := "2180fe0cdd061dba68ec5ee9ab0d4e8f2312ab2dbc157d7155ce8a9e4ce643c3", func := "loop.example/g00653/laws.FnActs", spec := "fnActs", unfollowed := true, recurses := true, apart := false, narrowed := true }
def FnActsUptoSaid : Prop := fnActsUptoRow.holds Try.pinned (OpenSpec.upto fnActsSpec)

end Rows
end Go.Proofs.Ytjlojjkfdidkiaa
