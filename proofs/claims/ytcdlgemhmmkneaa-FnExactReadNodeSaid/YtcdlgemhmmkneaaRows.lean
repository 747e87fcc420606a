/-
  No cell of these rows narrows 'for every input' (looked for: loops, veiled, ifaces, maps, wideKeys, modest, calm, conditions, laid).
  DERIVED. THE GIVEN ROWS OF THIS SEAT. 12 by the template 'for every input the law returns true; each argument reads behind the call as it read before'; 0 by the template 'total and deterministic' (their statements: YtcdlgemhmmkneaaTotals.lean).
  GIVEN WITH THE SEED: the statements are not yours to turn. If you find one false, say at which input.
  Laid BY PROGRAM, IN A SANDBOX (cutbox-rows.mjs): the forced cells as the released guide's own fill.sh prints them over the translation 4fee357795fd6755… (all of the seat's roots in one cut). By AI agents, Wed Nov 11 2026. No macro, syntax, notation, axiom, sorry.
-/
import Derived.Test.YtcdlgemhmmkneaaChecked
import GoSem.Claim
import GoSem.ClaimJoined
import GoSem.ClaimMapViews
import Derived.JoinedTies
import Derived.KernelRfl
namespace Go.Proofs.Ytcdlgemhmmkneaa
/- THE CELL 'sum', in the pinned program and in every row, IS THE sha256 OF THE DUMP (.gsa) THAT YtcdlgemhmmkneaaProg.lean LOADS. Nothing in Lean hashes anything: it is a label: what it is worth is what the hold of that sum in a sandbox is worth. -/
noncomputable def Try.pinned : Pinned := { name := "ytcdlgemhmmkneaa", sum := "4fee357795fd675527d1aea13a310fab8c5ef93d86fab3635a500793061c4b10", checked := Try.checked }
namespace Rows
def none {H : Type} : Left H := { results := [], args := [] }

/-- 'laws.FnExactPageFault': WHATEVER THE INPUT: true; the input reads as it did. -/
def fnExactPageFaultSpec : ChangeSpec := { name := "fnExactPageFault", fn := fun _ => fun
  | [d] => { results := [.lit (.bool true)], args := [d] }
  | _ => none }
def fnExactPageFaultRow : OpenClaim := { program := "ytcdlgemhmmkneaa", sum := "4fee357795fd675527d1aea13a310fab8c5ef93d86fab3635a500793061c4b10", func := "loop.example/g00653/laws.FnExactPageFault", spec := "fnExactPageFault", apart := false }
def FnExactPageFaultSaid : Prop := fnExactPageFaultRow.holds Try.pinned (OpenSpec.ofChange fnExactPageFaultSpec)

/-- ITS FALSE NEIGHBOUR: 'it returns false'. Refute it at one input. -/
def fnExactPageFaultWrong : ChangeSpec := { name := "fnExactPageFault", fn := fun _ => fun
  | [d] => { results := [.lit (.bool false)], args := [d] }
  | _ => none }
def FnExactPageFaultWrongFalsely : Prop := fnExactPageFaultRow.holds Try.pinned (OpenSpec.ofChange fnExactPageFaultWrong)

/-- 'laws.FnExactSameRows': WHATEVER THE INPUT: true; the input reads as it did. -/
def fnExactSameRowsSpec : ChangeSpec := { name := "fnExactSameRows", fn := fun _ => fun
  | [d1, d2] => { results := [.lit (.bool true)], args := [d1, d2] }
  | _ => none }
def fnExactSameRowsRow : OpenClaim := { program := "ytcdlgemhmmkneaa", sum := "4fee357795fd675527d1aea13a310fab8c5ef93d86fab3635a500793061c4b10", func := "loop.example/g00653/laws.FnExactSameRows", spec := "fnExactSameRows", unfollowed := true, recurses := true, apart := false }
def FnExactSameRowsSaid : Prop := fnExactSameRowsRow.holds Try.pinned (OpenSpec.ofChange fnExactSameRowsSpec)

/-- ITS FALSE NEIGHBOUR: 'it returns false'. Refute it at one input. -/
def fnExactSameRowsWrong : ChangeSpec := { name := "fnExactSameRows", fn := fun _ => fun
  | [d1, d2] => { results := [.lit (.bool false)], args := [d1, d2] }
  | _ => none }
def FnExactSameRowsWrongFalsely : Prop := fnExactSameRowsRow.holds Try.pinned (OpenSpec.ofChange fnExactSameRowsWrong)

/-- 'laws.FnExactPackPage': WHATEVER THE INPUT: true; the input reads as it did. -/
def fnExactPackPageSpec : ChangeSpec := { name := "fnExactPackPage", fn := fun _ => fun
  | [d] => { results := [.lit (.bool true)], args := [d] }
  | _ => none }
def fnExactPackPageRow : OpenClaim := { program := "ytcdlgemhmmkneaa", sum := "4fee357795fd675527d1aea13a310fab8c5ef93d86fab3635a500793061c4b10", func := "loop.example/g00653/laws.FnExactPackPage", spec := "fnExactPackPage", apart := false }
def FnExactPackPageSaid : Prop := fnExactPackPageRow.holds Try.pinned (OpenSpec.ofChange fnExactPackPageSpec)

/-- ITS FALSE NEIGHBOUR: 'it returns false'. Refute it at one input. -/
def fnExactPackPageWrong : ChangeSpec := { name := "fnExactPackPage", fn := fun _ => fun
  | [d] => { results := [.lit (.bool false)], args := [d] }
  | _ => none }
def FnExactPackPageWrongFalsely : Prop := fnExactPackPageRow.holds Try.pinned (OpenSpec.ofChange fnExactPackPageWrong)

/-- 'laws.FnExactSameNodes': WHATEVER THE INPUT: true; the input reads as it did. -/
def fnExactSameNodesSpec : ChangeSpec := { name := "fnExactSameNodes", fn := fun _ => fun
  | [d1, d2] => { results := [.lit (.bool true)], args := [d1, d2] }
  | _ => none }
def fnExactSameNodesRow : OpenClaim := { program := "ytcdlgemhmmkneaa", sum := "4fee357795fd675527d1aea13a310fab8c5ef93d86fab3635a500793061c4b10", func := "loop.example/g00653/laws.FnExactSameNodes", spec := "fnExactSameNodes", unfollowed := true, recurses := true, apart := false }
def FnExactSameNodesSaid : Prop := fnExactSameNodesRow.holds Try.pinned (OpenSpec.ofChange fnExactSameNodesSpec)

/-- ITS FALSE NEIGHBOUR: 'it returns false'. Refute it at one input. -/
def fnExactSameNodesWrong : ChangeSpec := { name := "fnExactSameNodes", fn := fun _ => fun
  | [d1, d2] => { results := [.lit (.bool false)], args := [d1, d2] }
  | _ => none }
def FnExactSameNodesWrongFalsely : Prop := fnExactSameNodesRow.holds Try.pinned (OpenSpec.ofChange fnExactSameNodesWrong)

/-- 'laws.FnExactSameSupers': WHATEVER THE INPUT: true; the input reads as it did. -/
def fnExactSameSupersSpec : ChangeSpec := { name := "fnExactSameSupers", fn := fun _ => fun
  | [d1, d2] => { results := [.lit (.bool true)], args := [d1, d2] }
  | _ => none }
def fnExactSameSupersRow : OpenClaim := { program := "ytcdlgemhmmkneaa", sum := "4fee357795fd675527d1aea13a310fab8c5ef93d86fab3635a500793061c4b10", func := "loop.example/g00653/laws.FnExactSameSupers", spec := "fnExactSameSupers", apart := false }
def FnExactSameSupersSaid : Prop := fnExactSameSupersRow.holds Try.pinned (OpenSpec.ofChange fnExactSameSupersSpec)

/-- ITS FALSE NEIGHBOUR: 'it returns false'. Refute it at one input. -/
def fnExactSameSupersWrong : ChangeSpec := { name := "fnExactSameSupers", fn := fun _ => fun
  | [d1, d2] => { results := [.lit (.bool false)], args := [d1, d2] }
  | _ => none }
def FnExactSameSupersWrongFalsely : Prop := fnExactSameSupersRow.holds Try.pinned (OpenSpec.ofChange fnExactSameSupersWrong)

/-- 'laws.FnExactReadPage': WHATEVER THE INPUT: true; the input reads as it did. -/
def fnExactReadPageSpec : ChangeSpec := { name := "fnExactReadPage", fn := fun _ => fun
  | [d1, d2] => { results := [.lit (.bool true)], args := [d1, d2] }
  | _ => none }
def fnExactReadPageRow : OpenClaim := { program := "ytcdlgemhmmkneaa", sum := "4fee357795fd675527d1aea13a310fab8c5ef93d86fab3635a500793061c4b10", func := "loop.example/g00653/laws.FnExactReadPage", spec := "fnExactReadPage", apart := false }
def FnExactReadPageSaid : Prop := fnExactReadPageRow.holds Try.pinned (OpenSpec.ofChange fnExactReadPageSpec)

/-- ITS FALSE NEIGHBOUR: 'it returns false'. Refute it at one input. -/
def fnExactReadPageWrong : ChangeSpec := { name := "fnExactReadPage", fn := fun _ => fun
  | [d1, d2] => { results := [.lit (.bool false)], args := [d1, d2] }
  | _ => none }
def FnExactReadPageWrongFalsely : Prop := fnExactReadPageRow.holds Try.pinned (OpenSpec.ofChange fnExactReadPageWrong)

/-- 'laws.FnPages': WHATEVER THE INPUT: true; the input reads as it did. -/
def fnPagesSpec : ChangeSpec := { name := "fnPages", fn := fun _ => fun
  | [d] => { results := [.lit (.bool true)], args := [d] }
  | _ => none }
def fnPagesRow : OpenClaim := { program := "ytcdlgemhmmkneaa", sum := "4fee357795fd675527d1aea13a310fab8c5ef93d86fab3635a500793061c4b10", func := "loop.example/g00653/laws.FnPages", spec := "fnPages", apart := false }
def FnPagesSaid : Prop := fnPagesRow.holds Try.pinned (OpenSpec.ofChange fnPagesSpec)

/-- ITS FALSE NEIGHBOUR: 'it returns false'. Refute it at one input. -/
def fnPagesWrong : ChangeSpec := { name := "fnPages", fn := fun _ => fun
  | [d] => { results := [.lit (.bool false)], args := [d] }
  | _ => none }
def FnPagesWrongFalsely : Prop := fnPagesRow.holds Try.pinned (OpenSpec.ofChange fnPagesWrong)

/-- 'laws.FnExactNodeFault': WHATEVER THE INPUT: true; the input reads as it did. -/
def fnExactNodeFaultSpec : ChangeSpec := { name := "fnExactNodeFault", fn := fun _ => fun
  | [d] => { results := [.lit (.bool true)], args := [d] }
  | _ => none }
def fnExactNodeFaultRow : OpenClaim := { program := "ytcdlgemhmmkneaa", sum := "4fee357795fd675527d1aea13a310fab8c5ef93d86fab3635a500793061c4b10", func := "loop.example/g00653/laws.FnExactNodeFault", spec := "fnExactNodeFault", inPlace := ["internal/bytealg.Compare"], unfollowed := true, recurses := true, apart := false }
def FnExactNodeFaultSaid : Prop := fnExactNodeFaultRow.holds Try.pinned (OpenSpec.ofChange fnExactNodeFaultSpec)

/-- ITS FALSE NEIGHBOUR: 'it returns false'. Refute it at one input. -/
def fnExactNodeFaultWrong : ChangeSpec := { name := "fnExactNodeFault", fn := fun _ => fun
  | [d] => { results := [.lit (.bool false)], args := [d] }
  | _ => none }
def FnExactNodeFaultWrongFalsely : Prop := fnExactNodeFaultRow.holds Try.pinned (OpenSpec.ofChange fnExactNodeFaultWrong)

/-- 'laws.FnExactSameDrafts': WHATEVER THE INPUT: true; the input reads as it did. -/
def fnExactSameDraftsSpec : ChangeSpec := { name := "fnExactSameDrafts", fn := fun _ => fun
  | [d1, d2] => { results := [.lit (.bool true)], args := [d1, d2] }
  | _ => none }
def fnExactSameDraftsRow : OpenClaim := { program := "ytcdlgemhmmkneaa", sum := "4fee357795fd675527d1aea13a310fab8c5ef93d86fab3635a500793061c4b10", func := "loop.example/g00653/laws.FnExactSameDrafts", spec := "fnExactSameDrafts", unfollowed := true, recurses := true, apart := false }
def FnExactSameDraftsSaid : Prop := fnExactSameDraftsRow.holds Try.pinned (OpenSpec.ofChange fnExactSameDraftsSpec)

/-- ITS FALSE NEIGHBOUR: 'it returns false'. Refute it at one input. -/
def fnExactSameDraftsWrong : ChangeSpec := { name := "fnExactSameDrafts", fn := fun _ => fun
  | [d1, d2] => { results := [.lit (.bool false)], args := [d1, d2] }
  | _ => none }
def FnExactSameDraftsWrongFalsely : Prop := fnExactSameDraftsRow.holds Try.pinned (OpenSpec.ofChange fnExactSameDraftsWrong)

/-- 'laws.FnExactPackNode': WHATEVER THE INPUT: true; the input reads as it did. -/
def fnExactPackNodeSpec : ChangeSpec := { name := "fnExactPackNode", fn := fun _ => fun
  | [d] => { results := [.lit (.bool true)], args := [d] }
  | _ => none }
def fnExactPackNodeRow : OpenClaim := { program := "ytcdlgemhmmkneaa", sum := "4fee357795fd675527d1aea13a310fab8c5ef93d86fab3635a500793061c4b10", func := "loop.example/g00653/laws.FnExactPackNode", spec := "fnExactPackNode", inPlace := ["internal/bytealg.Compare"], unfollowed := true, recurses := true, apart := false }
def FnExactPackNodeSaid : Prop := fnExactPackNodeRow.holds Try.pinned (OpenSpec.ofChange fnExactPackNodeSpec)

/-- ITS FALSE NEIGHBOUR: 'it returns false'. Refute it at one input. -/
def fnExactPackNodeWrong : ChangeSpec := { name := "fnExactPackNode", fn := fun _ => fun
  | [d] => { results := [.lit (.bool false)], args := [d] }
  | _ => none }
def FnExactPackNodeWrongFalsely : Prop := fnExactPackNodeRow.holds Try.pinned (OpenSpec.ofChange fnExactPackNodeWrong)

/-- 'laws.FnExactReadNode': WHATEVER THE INPUT: true; the input reads as it did. -/
def fnExactReadNodeSpec : ChangeSpec := { name := "fnExactReadNode", fn := fun _ => fun
  | [d1, d2] => { results := [.lit (.bool true)], args := [d1, d2] }
  | _ => none }
def fnExactReadNodeRow : OpenClaim := { program := "ytcdlgemhmmkneaa", sum := "4fee357795fd675527d1aea13a310fab8c5ef93d86fab3635a500793061c4b10", func := "loop.example/g00653/laws.FnExactReadNode", spec := "fnExactReadNode", inPlace := ["internal/bytealg.Compare"], unfollowed := true, recurses := true, apart := false }
def FnExactReadNodeSaid : Prop := fnExactReadNodeRow.holds Try.pinned (OpenSpec.ofChange fnExactReadNodeSpec)

/-- ITS FALSE NEIGHBOUR: 'it returns false'. Refute it at one input. -/
def fnExactReadNodeWrong : ChangeSpec := { name := "fnExactReadNode", fn := fun _ => fun
  | [d1, d2] => { results := [.lit (.bool false)], args := [d1, d2] }
  | _ => none }
def FnExactReadNodeWrongFalsely : Prop := fnExactReadNodeRow.holds Try.pinned (OpenSpec.ofChange fnExactReadNodeWrong)

/-- 'laws.FnExactDraftFault': WHATEVER THE INPUT: true; the input reads as it did. -/
def fnExactDraftFaultSpec : ChangeSpec := { name := "fnExactDraftFault", fn := fun _ => fun
  | [d] => { results := [.lit (.bool true)], args := [d] }
  | _ => none }
def fnExactDraftFaultRow : OpenClaim := { program := "ytcdlgemhmmkneaa", sum := "4fee357795fd675527d1aea13a310fab8c5ef93d86fab3635a500793061c4b10", func := "loop.example/g00653/laws.FnExactDraftFault", spec := "fnExactDraftFault", unfollowed := true, recurses := true, apart := false }
def FnExactDraftFaultSaid : Prop := fnExactDraftFaultRow.holds Try.pinned (OpenSpec.ofChange fnExactDraftFaultSpec)

/-- ITS FALSE NEIGHBOUR: 'it returns false'. Refute it at one input. -/
def fnExactDraftFaultWrong : ChangeSpec := { name := "fnExactDraftFault", fn := fun _ => fun
  | [d] => { results := [.lit (.bool false)], args := [d] }
  | _ => none }
def FnExactDraftFaultWrongFalsely : Prop := fnExactDraftFaultRow.holds Try.pinned (OpenSpec.ofChange fnExactDraftFaultWrong)

/- THE SECOND FORM. 'bulk': how many values and letters a reading holds, each counted each time it is reached (what is shared counts as often as it is met; a slice's spare places count too). A statement '..UptoSaid' is the law's where the arguments, and the package variables that the reading takes, are together of bulk at most 1048576: NARROWER than '..Said'. Prove '..Said' where nothing that the law and all that it calls make is longer than what came in: it says more and counts as full. Else prove '..UptoSaid'. A law counts once. -/
mutual
def uptoBulk {H : Type} : DataW H → Nat
  | .lit (.string bytes) => bytes.length + 1
  | .lit _ => 1
  | .nil => 1
  | .ptr d => uptoBulk d + 1
  | .slice elems spare => uptoBulkAll elems + uptoBulkAll spare + 1
  | .agg parts => uptoBulkAll parts + 1
  | .iface _ d => uptoBulk d + 1
  | .map entries => uptoBulkEntries entries + 1
  | .held _ => 1
def uptoBulkAll {H : Type} : List (DataW H) → Nat
  | [] => 0
  | d :: r => uptoBulk d + uptoBulkAll r
def uptoBulkEntries {H : Type} : List (Lit × DataW H) → Nat
  | [] => 0
  | x :: r => uptoBulkEntry x + uptoBulkEntries r
def uptoBulkEntry {H : Type} : Lit × DataW H → Nat
  | (.string bytes, d) => bytes.length + uptoBulk d + 1
  | (_, d) => uptoBulk d + 1
 end
def uptoSmall : (H : Type) → List (DataW H) → Bool := fun _ ds => decide (uptoBulkAll ds ≤ 1048576)
def OpenSpec.upto (s : _root_.Go.ChangeSpec) : _root_.Go.OpenSpec := { _root_.Go.OpenSpec.ofChange s with cond := some uptoSmall }

/-- 'laws.FnExactPageFault', WHERE WHAT IT READS IS OF BULK AT MOST 1048576: true; the input reads as it did. -/
def fnExactPageFaultUptoRow : OpenClaim := { program := "ytcdlgemhmmkneaa", sum := "4fee357795fd675527d1aea13a310fab8c5ef93d86fab3635a500793061c4b10", func := "loop.example/g00653/laws.FnExactPageFault", spec := "fnExactPageFault", apart := false, narrowed := true }
def FnExactPageFaultUptoSaid : Prop := fnExactPageFaultUptoRow.holds Try.pinned (OpenSpec.upto fnExactPageFaultSpec)

/-- 'laws.FnExactSameRows', WHERE WHAT IT READS IS OF BULK AT MOST 1048576: true; the input reads as it did. -/
def fnExactSameRowsUptoRow : OpenClaim := { program := "ytcdlgemhmmkneaa", sum := "4fee357795fd675527d1aea13a310fab8c5ef93d86fab3635a500793061c4b10", func := "loop.example/g00653/laws.FnExactSameRows", spec := "fnExactSameRows", unfollowed := true, recurses := true, apart := false, narrowed := true }
def FnExactSameRowsUptoSaid : Prop := fnExactSameRowsUptoRow.holds Try.pinned (OpenSpec.upto fnExactSameRowsSpec)

/-- 'laws.FnExactPackPage', WHERE WHAT IT READS IS OF BULK AT MOST 1048576: true; the input reads as it did. -/
def fnExactPackPageUptoRow : OpenClaim := { program := "ytcdlgemhmmkneaa", sum := "4fee357795fd675527d1aea13a310fab8c5ef93d86fab3635a500793061c4b10", func := "loop.example/g00653/laws.FnExactPackPage", spec := "fnExactPackPage", apart := false, narrowed := true }
def FnExactPackPageUptoSaid : Prop := fnExactPackPageUptoRow.holds Try.pinned (OpenSpec.upto fnExactPackPageSpec)

/-- 'laws.FnExactSameNodes', WHERE WHAT IT READS IS OF BULK AT MOST 1048576: true; the input reads as it did. -/
def fnExactSameNodesUptoRow : OpenClaim := { program := "ytcdlgemhmmkneaa", sum := "4fee357795fd675527d1aea13a310fab8c5ef93d86fab3635a500793061c4b10", func := "loop.example/g00653/laws.FnExactSameNodes", spec := "fnExactSameNodes", unfollowed := true, recurses := true, apart := false, narrowed := true }
def FnExactSameNodesUptoSaid : Prop := fnExactSameNodesUptoRow.holds Try.pinned (OpenSpec.upto fnExactSameNodesSpec)

/-- 'laws.FnExactSameSupers', WHERE WHAT IT READS IS OF BULK AT MOST 1048576: true; the input reads as it did. -/
def fnExactSameSupersUptoRow : OpenClaim := { program := "ytcdlgemhmmkneaa", sum := "4fee357795fd675527d1aea13a310fab8c5ef93d86fab3635a500793061c4b10", func := "loop.example/g00653/laws.FnExactSameSupers", spec := "fnExactSameSupers", apart := false, narrowed := true }
def FnExactSameSupersUptoSaid : Prop := fnExactSameSupersUptoRow.holds Try.pinned (OpenSpec.upto fnExactSameSupersSpec)

/-- 'laws.FnExactReadPage', WHERE WHAT IT READS IS OF BULK AT MOST 1048576: true; the input reads as it did. -/
def fnExactReadPageUptoRow : OpenClaim := { program := "ytcdlgemhmmkneaa", sum := "4fee357795fd675527d1aea13a310fab8c5ef93d86fab3635a500793061c4b10", func := "loop.example/g00653/laws.FnExactReadPage", spec := "fnExactReadPage", apart := false, narrowed := true }
def FnExactReadPageUptoSaid : Prop := fnExactReadPageUptoRow.holds Try.pinned (OpenSpec.upto fnExactReadPageSpec)

/-- 'laws.FnPages', WHERE WHAT IT READS IS OF BULK AT MOST 1048576: true; the input reads as it did. -/
def fnPagesUptoRow : OpenClaim := { program := "ytcdlgemhmmkneaa", sum := "4fee357795fd675527d1aea13a310fab8c5ef93d86fab3635a500793061c4b10", func := "loop.example/g00653/laws.FnPages", spec := "fnPages", apart := false, narrowed := true }
def FnPagesUptoSaid : Prop := fnPagesUptoRow.holds Try.pinned (OpenSpec.upto fnPagesSpec)

/-- 'laws.FnExactNodeFault', WHERE WHAT IT READS IS OF BULK AT MOST 1048576: true; the input reads as it did. -/
def fnExactNodeFaultUptoRow : OpenClaim := { program := "ytcdlgemhmmkneaa", sum := "4fee357795fd675527d1aea13a310fab8c5ef93d86fab3635a500793061c4b10", func := "loop.example/g00653/laws.FnExactNodeFault", spec := "fnExactNodeFault", inPlace := ["internal/bytealg.Compare"], unfollowed := true, recurses := true, apart := false, narrowed := true }
def FnExactNodeFaultUptoSaid : Prop := fnExactNodeFaultUptoRow.holds Try.pinned (OpenSpec.upto fnExactNodeFaultSpec)

/-- 'laws.FnExactSameDrafts', WHERE WHAT IT READS IS OF BULK AT MOST 1048576: true; the input reads as it did. -/
def fnExactSameDraftsUptoRow : OpenClaim := { program := "ytcdlgemhmmkneaa", sum := "4fee357795fd675527d1aea13a310fab8c5ef93d86fab3635a500793061c4b10", func := "loop.example/g00653/laws.FnExactSameDrafts", spec := "fnExactSameDrafts", unfollowed := true, recurses := true, apart := false, narrowed := true }
def FnExactSameDraftsUptoSaid : Prop := fnExactSameDraftsUptoRow.holds Try.pinned (OpenSpec.upto fnExactSameDraftsSpec)

/-- 'laws.FnExactPackNode', WHERE WHAT IT READS IS OF BULK AT MOST 1048576: true; the input reads as it did. -/
def fnExactPackNodeUptoRow : OpenClaim := { program := "ytcdlgemhmmkneaa", sum := "4fee357795fd675527d1aea13a310fab8c5ef93d86fab3635a500793061c4b10", func := "loop.example/g00653/laws.FnExactPackNode", spec := "fnExactPackNode", inPlace := ["internal/bytealg.Compare"], unfollowed := true, recurses := true, apart := false, narrowed := true }
def FnExactPackNodeUptoSaid : Prop := fnExactPackNodeUptoRow.holds Try.pinned (OpenSpec.upto fnExactPackNodeSpec)

/-- 'laws.FnExactReadNode', WHERE WHAT IT READS IS OF BULK AT MOST 1048576: true; the input reads as it did. -/
def fnExactReadNodeUptoRow : OpenClaim := { program := "ytcdlgemhmmkneaa", sum := "4fee357795fd675527d1aea13a310fab8c5ef93d86fab3635a500793061c4b10", func := "loop.example/g00653/laws.FnExactReadNode", spec := "fnExactReadNode", inPlace := ["internal/bytealg.Compare"], unfollowed := true, recurses := true, apart := false, narrowed := true }
def FnExactReadNodeUptoSaid : Prop := fnExactReadNodeUptoRow.holds Try.pinned (OpenSpec.upto fnExactReadNodeSpec)

/-- 'laws.FnExactDraftFault', WHERE WHAT IT READS IS OF BULK AT MOST 1048576: true; the input reads as it did. -/
def fnExactDraftFaultUptoRow : OpenClaim := { program := "ytcdlgemhmmkneaa", sum := "4fee357795fd675527d1aea13a310fab8c5ef93d86fab3635a500793061c4b10", func := "loop.example/g00653/laws.FnExactDraftFault", spec := "fnExactDraftFault", unfollowed := true, recurses := true, apart := false, narrowed := true }
def FnExactDraftFaultUptoSaid : Prop := fnExactDraftFaultUptoRow.holds Try.pinned (OpenSpec.upto fnExactDraftFaultSpec)

end Rows
end Go.Proofs.Ytcdlgemhmmkneaa
