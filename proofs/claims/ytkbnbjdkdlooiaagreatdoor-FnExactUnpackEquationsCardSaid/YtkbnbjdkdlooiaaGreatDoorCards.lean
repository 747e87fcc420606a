/-
  DERIVED. GIVEN WITH THE SEED: THE CARDS: each row of YtkbnbjdkdlooiaaGreatDoorRows.lean that lists a variable, with what it lists TIED to the program's text (the seventh form; the later family's looks); each row that meets fmt, with fmt's text TOLD by the authors' own Lean function (tested against real Go, not proved from fmt's source: count such statements apart). THE CARD IS WHAT COUNTS. Prove the row's statement (the work); the ties are given (YtkbnbjdkdlooiaaGreatDoorTie.lean); close each card by the builder's one call (the guide's Derived/Test/ToyasCard.lean, 'card_holds'). Laid BY PROGRAM, IN A SANDBOX (cutbox-door.mjs). By AI agents, Wed Nov 11 2026. No macro, syntax, notation, axiom, sorry.
-/
import Derived.Test.YtkbnbjdkdlooiaaGreatDoorRows
import GoSem.ClaimSeven
namespace Go.Proofs.YtkbnbjdkdlooiaaGreatDoor
namespace Rows

/-- THE TIED CARD OF 'laws.FnExactOpenStore'. -/
def fnExactOpenStoreCard : Claim7 := { stood := { row := fnExactOpenStoreRow, standIns := [], harness := (true, "ce55c2b7c6419a3c08c8a53450f66a801f7c9feb3b6546f81de0af7cbd5d616d"), looks := false }, kinds := [], alts := [], laidByText := true, laidKinds := [.data, .pinned], laidTests := true, laidLooks := .later }
def FnExactOpenStoreCardSaid : Prop := Claim7.holds Tryz.pinned (.plain (OpenSpec.ofChange fnExactOpenStoreSpec)) fnExactOpenStoreCard

/-- THE TIED CARD OF 'laws.FnExactUnpackEquations'. -/
def fnExactUnpackEquationsCard : Claim7 := { stood := { row := fnExactUnpackEquationsRow, standIns := [], harness := (true, "ce55c2b7c6419a3c08c8a53450f66a801f7c9feb3b6546f81de0af7cbd5d616d"), looks := false }, kinds := [], alts := [], laidByText := true, laidKinds := [.data, .pinned], laidTests := true, laidLooks := .later }
def FnExactUnpackEquationsCardSaid : Prop := Claim7.holds Tryz.pinned (.plain (OpenSpec.ofChange fnExactUnpackEquationsSpec)) fnExactUnpackEquationsCard

/-- THE TIED CARD OF 'laws.FnExactCommitActs'. -/
def fnExactCommitActsCard : Claim7 := { stood := { row := fnExactCommitActsRow, standIns := [], harness := (true, "ce55c2b7c6419a3c08c8a53450f66a801f7c9feb3b6546f81de0af7cbd5d616d"), looks := false }, kinds := [], alts := [], laidByText := true, laidKinds := [.data, .pinned], laidTests := true, laidLooks := .later }
def FnExactCommitActsCardSaid : Prop := Claim7.holds Tryz.pinned (.plain (OpenSpec.ofChange fnExactCommitActsSpec)) fnExactCommitActsCard

/-- THE TIED CARD OF 'laws.FnExactUnpackTheory'. -/
def fnExactUnpackTheoryCard : Claim7 := { stood := { row := fnExactUnpackTheoryRow, standIns := [], harness := (true, "ce55c2b7c6419a3c08c8a53450f66a801f7c9feb3b6546f81de0af7cbd5d616d"), looks := false }, kinds := [], alts := [], laidByText := true, laidKinds := [.data, .pinned], laidTests := true, laidLooks := .later }
def FnExactUnpackTheoryCardSaid : Prop := Claim7.holds Tryz.pinned (.plain (OpenSpec.ofChange fnExactUnpackTheorySpec)) fnExactUnpackTheoryCard

/-- THE TIED CARD OF 'laws.FnExactFormatDisk'. -/
def fnExactFormatDiskCard : Claim7 := { stood := { row := fnExactFormatDiskRow, standIns := [], harness := (true, "ce55c2b7c6419a3c08c8a53450f66a801f7c9feb3b6546f81de0af7cbd5d616d"), looks := false }, kinds := [], alts := [], laidByText := true, laidKinds := [.data, .pinned], laidTests := true, laidLooks := .later }
def FnExactFormatDiskCardSaid : Prop := Claim7.holds Tryz.pinned (.plain (OpenSpec.ofChange fnExactFormatDiskSpec)) fnExactFormatDiskCard

/-- THE SECOND FORM's CARD OF 'laws.FnExactOpenStore'. -/
def fnExactOpenStoreUptoCard : Claim7 := { stood := { row := fnExactOpenStoreUptoRow, standIns := [], harness := (true, "ce55c2b7c6419a3c08c8a53450f66a801f7c9feb3b6546f81de0af7cbd5d616d"), looks := false }, kinds := [], alts := [], laidByText := true, laidKinds := [.data, .pinned], laidTests := true, laidLooks := .later }
def FnExactOpenStoreUptoCardSaid : Prop := Claim7.holds Tryz.pinned (.plain (OpenSpec.upto fnExactOpenStoreSpec)) fnExactOpenStoreUptoCard

/-- THE SECOND FORM's CARD OF 'laws.FnExactUnpackEquations'. -/
def fnExactUnpackEquationsUptoCard : Claim7 := { stood := { row := fnExactUnpackEquationsUptoRow, standIns := [], harness := (true, "ce55c2b7c6419a3c08c8a53450f66a801f7c9feb3b6546f81de0af7cbd5d616d"), looks := false }, kinds := [], alts := [], laidByText := true, laidKinds := [.data, .pinned], laidTests := true, laidLooks := .later }
def FnExactUnpackEquationsUptoCardSaid : Prop := Claim7.holds Tryz.pinned (.plain (OpenSpec.upto fnExactUnpackEquationsSpec)) fnExactUnpackEquationsUptoCard

/-- THE SECOND FORM's CARD OF 'laws.FnExactCommitActs'. -/
def fnExactCommitActsUptoCard : Claim7 := { stood := { row := fnExactCommitActsUptoRow, standIns := [], harness := (true, "ce55c2b7c6419a3c08c8a53450f66a801f7c9feb3b6546f81de0af7cbd5d616d"), looks := false }, kinds := [], alts := [], laidByText := true, laidKinds := [.data, .pinned], laidTests := true, laidLooks := .later }
def FnExactCommitActsUptoCardSaid : Prop := Claim7.holds Tryz.pinned (.plain (OpenSpec.upto fnExactCommitActsSpec)) fnExactCommitActsUptoCard

/-- THE SECOND FORM's CARD OF 'laws.FnExactUnpackTheory'. -/
def fnExactUnpackTheoryUptoCard : Claim7 := { stood := { row := fnExactUnpackTheoryUptoRow, standIns := [], harness := (true, "ce55c2b7c6419a3c08c8a53450f66a801f7c9feb3b6546f81de0af7cbd5d616d"), looks := false }, kinds := [], alts := [], laidByText := true, laidKinds := [.data, .pinned], laidTests := true, laidLooks := .later }
def FnExactUnpackTheoryUptoCardSaid : Prop := Claim7.holds Tryz.pinned (.plain (OpenSpec.upto fnExactUnpackTheorySpec)) fnExactUnpackTheoryUptoCard

/-- THE SECOND FORM's CARD OF 'laws.FnExactFormatDisk'. -/
def fnExactFormatDiskUptoCard : Claim7 := { stood := { row := fnExactFormatDiskUptoRow, standIns := [], harness := (true, "ce55c2b7c6419a3c08c8a53450f66a801f7c9feb3b6546f81de0af7cbd5d616d"), looks := false }, kinds := [], alts := [], laidByText := true, laidKinds := [.data, .pinned], laidTests := true, laidLooks := .later }
def FnExactFormatDiskUptoCardSaid : Prop := Claim7.holds Tryz.pinned (.plain (OpenSpec.upto fnExactFormatDiskSpec)) fnExactFormatDiskUptoCard
end Rows
end Go.Proofs.YtkbnbjdkdlooiaaGreatDoor
