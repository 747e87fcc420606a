/-
  No cell of these rows narrows 'for every input' (looked for: loops, veiled, ifaces, maps, wideKeys, modest, calm, conditions, laid).
  DERIVED. THE GIVEN ROWS OF THIS SEAT. 11 by the template 'for every input the law returns true; each argument reads behind the call as it read before'; 0 by the template 'total and deterministic' (their statements: YtoomfdnohpkepaaTotals.lean).
  GIVEN WITH THE SEED: the statements are not yours to turn. If you find one false, say at which input.
  Laid BY PROGRAM, IN A SANDBOX (cutbox-rows.mjs): the forced cells as the released guide's own fill.sh prints them over the translation 0d3ee252d31d713d… (all of the seat's roots in one cut). By AI agents, Wed Nov 11 2026. No macro, syntax, notation, axiom, sorry.
-/
import Derived.Test.YtoomfdnohpkepaaChecked
import GoSem.Claim
import GoSem.ClaimJoined
import GoSem.ClaimMapViews
import Derived.JoinedTies
import Derived.KernelRfl
namespace Go.Proofs.Ytoomfdnohpkepaa
/- THE CELL 'sum', in the pinned program and in every row, IS THE sha256 OF THE DUMP (.gsa) THAT YtoomfdnohpkepaaProg.lean LOADS. Nothing in Lean hashes anything: it is a label: what it is worth is what the hold of that sum in a sandbox is worth. -/
noncomputable def Try.pinned : Pinned := { name := "ytoomfdnohpkepaa", sum := "0d3ee252d31d713dd998470b950db22b0207249fca98b12265ecb0ece3d0a3f3", checked := Try.checked }
namespace Rows
def none {H : Type} : Left H := { results := [], args := [] }

/-- 'laws.FnExactWriteSector': WHATEVER THE INPUT: true; the input reads as it did. -/
def fnExactWriteSectorSpec : ChangeSpec := { name := "fnExactWriteSector", fn := fun _ => fun
  | [d1, d2, d3] => { results := [.lit (.bool true)], args := [d1, d2, d3] }
  | _ => none }
def fnExactWriteSectorRow : OpenClaim := { program := "ytoomfdnohpkepaa", sum := "0d3ee252d31d713dd998470b950db22b0207249fca98b12265ecb0ece3d0a3f3", func := "loop.example/g00653/laws.FnExactWriteSector", spec := "fnExactWriteSector", unfollowed := true, recurses := true, apart := false }
def FnExactWriteSectorSaid : Prop := fnExactWriteSectorRow.holds Try.pinned (OpenSpec.ofChange fnExactWriteSectorSpec)

/-- ITS FALSE NEIGHBOUR: 'it returns false'. Refute it at one input. -/
def fnExactWriteSectorWrong : ChangeSpec := { name := "fnExactWriteSector", fn := fun _ => fun
  | [d1, d2, d3] => { results := [.lit (.bool false)], args := [d1, d2, d3] }
  | _ => none }
def FnExactWriteSectorWrongFalsely : Prop := fnExactWriteSectorRow.holds Try.pinned (OpenSpec.ofChange fnExactWriteSectorWrong)

/-- 'laws.FnExactCrashDisk': WHATEVER THE INPUT: true; the input reads as it did. -/
def fnExactCrashDiskSpec : ChangeSpec := { name := "fnExactCrashDisk", fn := fun _ => fun
  | [d1, d2] => { results := [.lit (.bool true)], args := [d1, d2] }
  | _ => none }
def fnExactCrashDiskRow : OpenClaim := { program := "ytoomfdnohpkepaa", sum := "0d3ee252d31d713dd998470b950db22b0207249fca98b12265ecb0ece3d0a3f3", func := "loop.example/g00653/laws.FnExactCrashDisk", spec := "fnExactCrashDisk", unfollowed := true, recurses := true, apart := false }
def FnExactCrashDiskSaid : Prop := fnExactCrashDiskRow.holds Try.pinned (OpenSpec.ofChange fnExactCrashDiskSpec)

/-- ITS FALSE NEIGHBOUR: 'it returns false'. Refute it at one input. -/
def fnExactCrashDiskWrong : ChangeSpec := { name := "fnExactCrashDisk", fn := fun _ => fun
  | [d1, d2] => { results := [.lit (.bool false)], args := [d1, d2] }
  | _ => none }
def FnExactCrashDiskWrongFalsely : Prop := fnExactCrashDiskRow.holds Try.pinned (OpenSpec.ofChange fnExactCrashDiskWrong)

/-- 'laws.FnExactFreeIn': WHATEVER THE INPUT: true; the input reads as it did. -/
def fnExactFreeInSpec : ChangeSpec := { name := "fnExactFreeIn", fn := fun _ => fun
  | [d] => { results := [.lit (.bool true)], args := [d] }
  | _ => none }
def fnExactFreeInRow : OpenClaim := { program := "ytoomfdnohpkepaa", sum := "0d3ee252d31d713dd998470b950db22b0207249fca98b12265ecb0ece3d0a3f3", func := "loop.example/g00653/laws.FnExactFreeIn", spec := "fnExactFreeIn", unfollowed := true, recurses := true, apart := false }
def FnExactFreeInSaid : Prop := fnExactFreeInRow.holds Try.pinned (OpenSpec.ofChange fnExactFreeInSpec)

/-- ITS FALSE NEIGHBOUR: 'it returns false'. Refute it at one input. -/
def fnExactFreeInWrong : ChangeSpec := { name := "fnExactFreeIn", fn := fun _ => fun
  | [d] => { results := [.lit (.bool false)], args := [d] }
  | _ => none }
def FnExactFreeInWrongFalsely : Prop := fnExactFreeInRow.holds Try.pinned (OpenSpec.ofChange fnExactFreeInWrong)

/-- 'laws.FnExactStartDraft': WHATEVER THE INPUT: true; the input reads as it did. -/
def fnExactStartDraftSpec : ChangeSpec := { name := "fnExactStartDraft", fn := fun _ => fun
  | [d1, d2] => { results := [.lit (.bool true)], args := [d1, d2] }
  | _ => none }
def fnExactStartDraftRow : OpenClaim := { program := "ytoomfdnohpkepaa", sum := "0d3ee252d31d713dd998470b950db22b0207249fca98b12265ecb0ece3d0a3f3", func := "loop.example/g00653/laws.FnExactStartDraft", spec := "fnExactStartDraft", unfollowed := true, recurses := true, apart := false }
def FnExactStartDraftSaid : Prop := fnExactStartDraftRow.holds Try.pinned (OpenSpec.ofChange fnExactStartDraftSpec)

/-- ITS FALSE NEIGHBOUR: 'it returns false'. Refute it at one input. -/
def fnExactStartDraftWrong : ChangeSpec := { name := "fnExactStartDraft", fn := fun _ => fun
  | [d1, d2] => { results := [.lit (.bool false)], args := [d1, d2] }
  | _ => none }
def FnExactStartDraftWrongFalsely : Prop := fnExactStartDraftRow.holds Try.pinned (OpenSpec.ofChange fnExactStartDraftWrong)

/-- 'laws.FnExactDoActs': WHATEVER THE INPUT: true; the input reads as it did. -/
def fnExactDoActsSpec : ChangeSpec := { name := "fnExactDoActs", fn := fun _ => fun
  | [d1, d2] => { results := [.lit (.bool true)], args := [d1, d2] }
  | _ => none }
def fnExactDoActsRow : OpenClaim := { program := "ytoomfdnohpkepaa", sum := "0d3ee252d31d713dd998470b950db22b0207249fca98b12265ecb0ece3d0a3f3", func := "loop.example/g00653/laws.FnExactDoActs", spec := "fnExactDoActs", unfollowed := true, recurses := true, apart := false }
def FnExactDoActsSaid : Prop := fnExactDoActsRow.holds Try.pinned (OpenSpec.ofChange fnExactDoActsSpec)

/-- ITS FALSE NEIGHBOUR: 'it returns false'. Refute it at one input. -/
def fnExactDoActsWrong : ChangeSpec := { name := "fnExactDoActs", fn := fun _ => fun
  | [d1, d2] => { results := [.lit (.bool false)], args := [d1, d2] }
  | _ => none }
def FnExactDoActsWrongFalsely : Prop := fnExactDoActsRow.holds Try.pinned (OpenSpec.ofChange fnExactDoActsWrong)

/-- 'laws.FnExactDraftActs': WHATEVER THE INPUT: true; the input reads as it did. -/
def fnExactDraftActsSpec : ChangeSpec := { name := "fnExactDraftActs", fn := fun _ => fun
  | [d] => { results := [.lit (.bool true)], args := [d] }
  | _ => none }
def fnExactDraftActsRow : OpenClaim := { program := "ytoomfdnohpkepaa", sum := "0d3ee252d31d713dd998470b950db22b0207249fca98b12265ecb0ece3d0a3f3", func := "loop.example/g00653/laws.FnExactDraftActs", spec := "fnExactDraftActs", unfollowed := true, recurses := true, apart := false }
def FnExactDraftActsSaid : Prop := fnExactDraftActsRow.holds Try.pinned (OpenSpec.ofChange fnExactDraftActsSpec)

/-- ITS FALSE NEIGHBOUR: 'it returns false'. Refute it at one input. -/
def fnExactDraftActsWrong : ChangeSpec := { name := "fnExactDraftActs", fn := fun _ => fun
  | [d] => { results := [.lit (.bool false)], args := [d] }
  | _ => none }
def FnExactDraftActsWrongFalsely : Prop := fnExactDraftActsRow.holds Try.pinned (OpenSpec.ofChange fnExactDraftActsWrong)

/-- 'laws.FnExactChainAt': WHATEVER THE INPUT: true; the input reads as it did. -/
def fnExactChainAtSpec : ChangeSpec := { name := "fnExactChainAt", fn := fun _ => fun
  | [d1, d2] => { results := [.lit (.bool true)], args := [d1, d2] }
  | _ => none }
def fnExactChainAtRow : OpenClaim := { program := "ytoomfdnohpkepaa", sum := "0d3ee252d31d713dd998470b950db22b0207249fca98b12265ecb0ece3d0a3f3", func := "loop.example/g00653/laws.FnExactChainAt", spec := "fnExactChainAt", unfollowed := true, recurses := true, apart := false }
def FnExactChainAtSaid : Prop := fnExactChainAtRow.holds Try.pinned (OpenSpec.ofChange fnExactChainAtSpec)

/-- ITS FALSE NEIGHBOUR: 'it returns false'. Refute it at one input. -/
def fnExactChainAtWrong : ChangeSpec := { name := "fnExactChainAt", fn := fun _ => fun
  | [d1, d2] => { results := [.lit (.bool false)], args := [d1, d2] }
  | _ => none }
def FnExactChainAtWrongFalsely : Prop := fnExactChainAtRow.holds Try.pinned (OpenSpec.ofChange fnExactChainAtWrong)

/-- 'laws.FnExactNodeAt': WHATEVER THE INPUT: true; the input reads as it did. -/
def fnExactNodeAtSpec : ChangeSpec := { name := "fnExactNodeAt", fn := fun _ => fun
  | [d1, d2] => { results := [.lit (.bool true)], args := [d1, d2] }
  | _ => none }
def fnExactNodeAtRow : OpenClaim := { program := "ytoomfdnohpkepaa", sum := "0d3ee252d31d713dd998470b950db22b0207249fca98b12265ecb0ece3d0a3f3", func := "loop.example/g00653/laws.FnExactNodeAt", spec := "fnExactNodeAt", inPlace := ["internal/bytealg.Compare"], unfollowed := true, recurses := true, apart := false }
def FnExactNodeAtSaid : Prop := fnExactNodeAtRow.holds Try.pinned (OpenSpec.ofChange fnExactNodeAtSpec)

/-- ITS FALSE NEIGHBOUR: 'it returns false'. Refute it at one input. -/
def fnExactNodeAtWrong : ChangeSpec := { name := "fnExactNodeAt", fn := fun _ => fun
  | [d1, d2] => { results := [.lit (.bool false)], args := [d1, d2] }
  | _ => none }
def FnExactNodeAtWrongFalsely : Prop := fnExactNodeAtRow.holds Try.pinned (OpenSpec.ofChange fnExactNodeAtWrong)

/-- 'laws.FnExactGivePage': WHATEVER THE INPUT: true; the input reads as it did. -/
def fnExactGivePageSpec : ChangeSpec := { name := "fnExactGivePage", fn := fun _ => fun
  | [d1, d2] => { results := [.lit (.bool true)], args := [d1, d2] }
  | _ => none }
def fnExactGivePageRow : OpenClaim := { program := "ytoomfdnohpkepaa", sum := "0d3ee252d31d713dd998470b950db22b0207249fca98b12265ecb0ece3d0a3f3", func := "loop.example/g00653/laws.FnExactGivePage", spec := "fnExactGivePage", unfollowed := true, recurses := true, apart := false }
def FnExactGivePageSaid : Prop := fnExactGivePageRow.holds Try.pinned (OpenSpec.ofChange fnExactGivePageSpec)

/-- ITS FALSE NEIGHBOUR: 'it returns false'. Refute it at one input. -/
def fnExactGivePageWrong : ChangeSpec := { name := "fnExactGivePage", fn := fun _ => fun
  | [d1, d2] => { results := [.lit (.bool false)], args := [d1, d2] }
  | _ => none }
def FnExactGivePageWrongFalsely : Prop := fnExactGivePageRow.holds Try.pinned (OpenSpec.ofChange fnExactGivePageWrong)

/-- 'laws.FnExactTakePage': WHATEVER THE INPUT: true; the input reads as it did. -/
def fnExactTakePageSpec : ChangeSpec := { name := "fnExactTakePage", fn := fun _ => fun
  | [d] => { results := [.lit (.bool true)], args := [d] }
  | _ => none }
def fnExactTakePageRow : OpenClaim := { program := "ytoomfdnohpkepaa", sum := "0d3ee252d31d713dd998470b950db22b0207249fca98b12265ecb0ece3d0a3f3", func := "loop.example/g00653/laws.FnExactTakePage", spec := "fnExactTakePage", unfollowed := true, recurses := true, apart := false }
def FnExactTakePageSaid : Prop := fnExactTakePageRow.holds Try.pinned (OpenSpec.ofChange fnExactTakePageSpec)

/-- ITS FALSE NEIGHBOUR: 'it returns false'. Refute it at one input. -/
def fnExactTakePageWrong : ChangeSpec := { name := "fnExactTakePage", fn := fun _ => fun
  | [d] => { results := [.lit (.bool false)], args := [d] }
  | _ => none }
def FnExactTakePageWrongFalsely : Prop := fnExactTakePageRow.holds Try.pinned (OpenSpec.ofChange fnExactTakePageWrong)

/-- 'laws.FnExactPutPage': WHATEVER THE INPUT: true; the input reads as it did. -/
def fnExactPutPageSpec : ChangeSpec := { name := "fnExactPutPage", fn := fun _ => fun
  | [d1, d2] => { results := [.lit (.bool true)], args := [d1, d2] }
  | _ => none }
def fnExactPutPageRow : OpenClaim := { program := "ytoomfdnohpkepaa", sum := "0d3ee252d31d713dd998470b950db22b0207249fca98b12265ecb0ece3d0a3f3", func := "loop.example/g00653/laws.FnExactPutPage", spec := "fnExactPutPage", unfollowed := true, recurses := true, apart := false }
def FnExactPutPageSaid : Prop := fnExactPutPageRow.holds Try.pinned (OpenSpec.ofChange fnExactPutPageSpec)

/-- ITS FALSE NEIGHBOUR: 'it returns false'. Refute it at one input. -/
def fnExactPutPageWrong : ChangeSpec := { name := "fnExactPutPage", fn := fun _ => fun
  | [d1, d2] => { results := [.lit (.bool false)], args := [d1, d2] }
  | _ => none }
def FnExactPutPageWrongFalsely : Prop := fnExactPutPageRow.holds Try.pinned (OpenSpec.ofChange fnExactPutPageWrong)

/- THE SECOND FORM. 'bulk': how many values and letters a reading holds, each counted each time it is reached (what is shared counts as often as it is met; a slice's spare places count too). A statement '..UptoSaid' is the law's where the arguments, and the package variables that the reading takes, are together of bulk at most 1048576: NARROWER than '..Said'. Prove '..Said' where nothing that the law and all that it calls make is longer than what came in: it says more and counts as full. Else prove '..UptoSaid'. A law counts once. -/
mutual
def uptoBulk {H : Type} : DataW H → Nat
  | .lit (.string bytes) => bytes.length + 1
  | .lit _ => 1
  | .nil => 1
  | .ptr d => uptoBulk d + 1
  | .slice elems spare => uptoBulkAll elems + uptoBulkAll spare + 1
  | .agg parts => uptoBulkAll parts + 1
  | .iface _ d => uptoBulk d + 1
  | .map entries => uptoBulkEntries entries + 1
  | .held _ => 1
def uptoBulkAll {H : Type} : List (DataW H) → Nat
  | [] => 0
  | d :: r => uptoBulk d + uptoBulkAll r
def uptoBulkEntries {H : Type} : List (Lit × DataW H) → Nat
  | [] => 0
  | x :: r => uptoBulkEntry x + uptoBulkEntries r
def uptoBulkEntry {H : Type} : Lit × DataW H → Nat
  | (.string bytes, d) => bytes.length + uptoBulk d + 1
  | (_, d) => uptoBulk d + 1
 end
def uptoSmall : (H : Type) → List (DataW H) → Bool := fun _ ds => decide (uptoBulkAll ds ≤ 1048576)
def OpenSpec.upto (s : _root_.Go.ChangeSpec) : _root_.Go.OpenSpec := { _root_.Go.OpenSpec.ofChange s with cond := some uptoSmall }

/-- 'laws.FnExactWriteSector', WHERE WHAT IT READS IS OF BULK AT MOST 1048576: true; the input reads as it did. -/
def fnExactWriteSectorUptoRow : OpenClaim := { program := "ytoomfdnohpkepaa", sum := "0d3ee252d31d713dd998470b950db22b0207249fca98b12265ecb0ece3d0a3f3", func := "loop.example/g00653/laws.FnExactWriteSector", spec := "fnExactWriteSector", unfollowed := true, recurses := true, apart := false, narrowed := true }
def FnExactWriteSectorUptoSaid : Prop := fnExactWriteSectorUptoRow.holds Try.pinned (OpenSpec.upto fnExactWriteSectorSpec)

/-- 'laws.FnExactCrashDisk', WHERE WHAT IT READS IS OF BULK AT MOST 1048576: true; the input reads as it did. -/
def fnExactCrashDiskUptoRow : OpenClaim := { program := "ytoomfdnohpkepaa", sum := "0d3ee252d31d713dd998470b950db22b0207249fca98b12265ecb0ece3d0a3f3", func := "loop.example/g00653/laws.FnExactCrashDisk", spec := "fnExactCrashDisk", unfollowed := true, recurses := true, apart := false, narrowed := true }
def FnExactCrashDiskUptoSaid : Prop := fnExactCrashDiskUptoRow.holds Try.pinned (OpenSpec.upto fnExactCrashDiskSpec)

/-- 'laws.FnExactFreeIn', WHERE WHAT IT READS IS OF BULK AT MOST 1048576: true; the input reads as it did. -/
def fnExactFreeInUptoRow : OpenClaim := { program := "ytoomfdnohpkepaa", sum := "0d3ee252d31d713dd998470b950db22b0207249fca98b12265ecb0ece3d0a3f3", func := "loop.example/g00653/laws.FnExactFreeIn", spec := "fnExactFreeIn", unfollowed := true, recurses := true, apart := false, narrowed := true }
def FnExactFreeInUptoSaid : Prop := fnExactFreeInUptoRow.holds Try.pinned (OpenSpec.upto fnExactFreeInSpec)

/-- 'laws.FnExactStartDraft', WHERE WHAT IT READS IS OF BULK AT MOST 1048576: true; the input reads as it did. -/
def fnExactStartDraftUptoRow : OpenClaim := { program := "ytoomfdnohpkepaa", sum := "0d3ee252d31d713dd998470b950db22b0207249fca98b12265ecb0ece3d0a3f3", func := "loop.example/g00653/laws.FnExactStartDraft", spec := "fnExactStartDraft", unfollowed := true, recurses := true, apart := false, narrowed := true }
def FnExactStartDraftUptoSaid : Prop := fnExactStartDraftUptoRow.holds Try.pinned (OpenSpec.upto fnExactStartDraftSpec)

/-- 'laws.FnExactDoActs', WHERE WHAT IT READS IS OF BULK AT MOST 1048576: true; the input reads as it did. -/
def fnExactDoActsUptoRow : OpenClaim := { program := "ytoomfdnohpkepaa", sum := "0d3ee252d31d713dd998470b950db22b0207249fca98b12265ecb0ece3d0a3f3", func := "loop.example/g00653/laws.FnExactDoActs", spec := "fnExactDoActs", unfollowed := true, recurses := true, apart := false, narrowed := true }
def FnExactDoActsUptoSaid : Prop := fnExactDoActsUptoRow.holds Try.pinned (OpenSpec.upto fnExactDoActsSpec)

/-- 'laws.FnExactDraftActs', WHERE WHAT IT READS IS OF BULK AT MOST 1048576: true; the input reads as it did. -/
def fnExactDraftActsUptoRow : OpenClaim := { program := "ytoomfdnohpkepaa", sum := "0d3ee252d31d713dd998470b950db22b0207249fca98b12265ecb0ece3d0a3f3", func := "loop.example/g00653/laws.FnExactDraftActs", spec := "fnExactDraftActs", unfollowed := true, recurses := true, apart := false, narrowed := true }
def FnExactDraftActsUptoSaid : Prop := fnExactDraftActsUptoRow.holds Try.pinned (OpenSpec.upto fnExactDraftActsSpec)

/-- 'laws.FnExactChainAt', WHERE WHAT IT READS IS OF BULK AT MOST 1048576: true; the input reads as it did. -/
def fnExactChainAtUptoRow : OpenClaim := { program := "ytoomfdnohpkepaa", sum := "0d3ee252d31d713dd998470b950db22b0207249fca98b12265ecb0ece3d0a3f3", func := "loop.example/g00653/laws.FnExactChainAt", spec := "fnExactChainAt", unfollowed := true, recurses := true, apart := false, narrowed := true }
def FnExactChainAtUptoSaid : Prop := fnExactChainAtUptoRow.holds Try.pinned (OpenSpec.upto fnExactChainAtSpec)

/-- 'laws.FnExactNodeAt', WHERE WHAT IT READS IS OF BULK AT MOST 1048576: true; the input reads as it did. -/
def fnExactNodeAtUptoRow : OpenClaim := { program := "ytoomfdnohpkepaa", sum := "0d3ee252d31d713dd998470b950db22b0207249fca98b12265ecb0ece3d0a3f3", func := "loop.example/g00653/laws.FnExactNodeAt", spec := "fnExactNodeAt", inPlace := ["internal/bytealg.Compare"], unfollowed := true, recurses := true, apart := false, narrowed := true }
def FnExactNodeAtUptoSaid : Prop := fnExactNodeAtUptoRow.holds Try.pinned (OpenSpec.upto fnExactNodeAtSpec)

/-- 'laws.FnExactGivePage', WHERE WHAT IT READS IS OF BULK AT MOST 1048576: true; the input reads as it did. -/
def fnExactGivePageUptoRow : OpenClaim := { program := "ytoomfdnohpkepaa", sum := "0d3ee252d31d713dd998470b950db22b0207249fca98b12265ecb0ece3d0a3f3", func := "loop.example/g00653/laws.FnExactGivePage", spec := "fnExactGivePage", unfollowed := true, recurses := true, apart := false, narrowed := true }
def FnExactGivePageUptoSaid : Prop := fnExactGivePageUptoRow.holds Try.pinned (OpenSpec.upto fnExactGivePageSpec)

/-- 'laws.FnExactTakePage', WHERE WHAT IT READS IS OF BULK AT MOST 1048576: true; the input reads as it did. -/
def fnExactTakePageUptoRow : OpenClaim := { program := "ytoomfdnohpkepaa", sum := "0d3ee252d31d713dd998470b950db22b0207249fca98b12265ecb0ece3d0a3f3", func := "loop.example/g00653/laws.FnExactTakePage", spec := "fnExactTakePage", unfollowed := true, recurses := true, apart := false, narrowed := true }
def FnExactTakePageUptoSaid : Prop := fnExactTakePageUptoRow.holds Try.pinned (OpenSpec.upto fnExactTakePageSpec)

/-- 'laws.FnExactPutPage', WHERE WHAT IT READS IS OF BULK AT MOST 1048576: true; the input reads as it did. -/
def fnExactPutPageUptoRow : OpenClaim := { program := "ytoomfdnohpkepaa", sum := "0d3ee252d31d713dd998470b950db22b0207249fca98b12265ecb0ece3d0a3f3", func := "loop.example/g00653/laws.FnExactPutPage", spec := "fnExactPutPage", unfollowed := true, recurses := true, apart := false, narrowed := true }
def FnExactPutPageUptoSaid : Prop := fnExactPutPageUptoRow.holds Try.pinned (OpenSpec.upto fnExactPutPageSpec)

end Rows
end Go.Proofs.Ytoomfdnohpkepaa
