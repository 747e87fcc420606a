/-
  DERIVED. GIVEN WITH THE SEED: THE CARDS: each row of YtkbnbjdkdlooiaaDoorRows.lean that lists a variable, with what it lists TIED to the program's text (the seventh form; the later family's looks); each row that meets fmt, with fmt's text TOLD by the authors' own Lean function (tested against real Go, not proved from fmt's source: count such statements apart). THE CARD IS WHAT COUNTS. Prove the row's statement (the work); the ties are given (YtkbnbjdkdlooiaaDoorTie.lean); close each card by the builder's one call (the guide's Derived/Test/ToyasCard.lean, 'card_holds'). Laid BY PROGRAM, IN A SANDBOX (cutbox-door.mjs). By AI agents, Wed Nov 11 2026. No macro, syntax, notation, axiom, sorry.
-/
import Derived.Test.YtkbnbjdkdlooiaaDoorRows
import GoSem.ClaimSeven
namespace Go.Proofs.YtkbnbjdkdlooiaaDoor
namespace Rows

/-- THE TIED CARD OF 'laws.FnExactSuperFault'. -/
def fnExactSuperFaultCard : Claim7 := { stood := { row := fnExactSuperFaultRow, standIns := [], harness := (true, "a98d4a48923d85323876ec9baf914ba3c330966ee85dd316b181bdd14b06b99a"), looks := false }, kinds := [], alts := [], laidByText := true, laidKinds := [.data, .pinned], laidTests := true, laidLooks := .later }
def FnExactSuperFaultCardSaid : Prop := Claim7.holds Tryd.pinned (.plain (OpenSpec.ofChange fnExactSuperFaultSpec)) fnExactSuperFaultCard

/-- THE TIED CARD OF 'laws.FnExactReadSignature'. -/
def fnExactReadSignatureCard : Claim7 := { stood := { row := fnExactReadSignatureRow, standIns := [], harness := (true, "a98d4a48923d85323876ec9baf914ba3c330966ee85dd316b181bdd14b06b99a"), looks := false }, kinds := [], alts := [], laidByText := true, laidKinds := [.data, .pinned], laidTests := true, laidLooks := .later }
def FnExactReadSignatureCardSaid : Prop := Claim7.holds Tryd.pinned (.plain (OpenSpec.ofChange fnExactReadSignatureSpec)) fnExactReadSignatureCard

/-- THE TIED CARD OF 'laws.FnExactUnpackTerm'. -/
def fnExactUnpackTermCard : Claim7 := { stood := { row := fnExactUnpackTermRow, standIns := [], harness := (true, "a98d4a48923d85323876ec9baf914ba3c330966ee85dd316b181bdd14b06b99a"), looks := false }, kinds := [], alts := [], laidByText := true, laidKinds := [.data, .pinned], laidTests := true, laidLooks := .later }
def FnExactUnpackTermCardSaid : Prop := Claim7.holds Tryd.pinned (.plain (OpenSpec.ofChange fnExactUnpackTermSpec)) fnExactUnpackTermCard

/-- THE TIED CARD OF 'laws.FnExactPackSuper'. -/
def fnExactPackSuperCard : Claim7 := { stood := { row := fnExactPackSuperRow, standIns := [], harness := (true, "a98d4a48923d85323876ec9baf914ba3c330966ee85dd316b181bdd14b06b99a"), looks := false }, kinds := [], alts := [], laidByText := true, laidKinds := [.data, .pinned], laidTests := true, laidLooks := .later }
def FnExactPackSuperCardSaid : Prop := Claim7.holds Tryd.pinned (.plain (OpenSpec.ofChange fnExactPackSuperSpec)) fnExactPackSuperCard

/-- THE TIED CARD OF 'laws.FnExactCutKey'. -/
def fnExactCutKeyCard : Claim7 := { stood := { row := fnExactCutKeyRow, standIns := [], harness := (true, "a98d4a48923d85323876ec9baf914ba3c330966ee85dd316b181bdd14b06b99a"), looks := false }, kinds := [], alts := [], laidByText := true, laidKinds := [.data, .pinned], laidTests := true, laidLooks := .later }
def FnExactCutKeyCardSaid : Prop := Claim7.holds Tryd.pinned (.plain (OpenSpec.ofChange fnExactCutKeySpec)) fnExactCutKeyCard

/-- THE TIED CARD OF 'laws.FnExactReadSuper'. -/
def fnExactReadSuperCard : Claim7 := { stood := { row := fnExactReadSuperRow, standIns := [], harness := (true, "a98d4a48923d85323876ec9baf914ba3c330966ee85dd316b181bdd14b06b99a"), looks := false }, kinds := [], alts := [], laidByText := true, laidKinds := [.data, .pinned], laidTests := true, laidLooks := .later }
def FnExactReadSuperCardSaid : Prop := Claim7.holds Tryd.pinned (.plain (OpenSpec.ofChange fnExactReadSuperSpec)) fnExactReadSuperCard

/-- THE SECOND FORM's CARD OF 'laws.FnExactSuperFault'. -/
def fnExactSuperFaultUptoCard : Claim7 := { stood := { row := fnExactSuperFaultUptoRow, standIns := [], harness := (true, "a98d4a48923d85323876ec9baf914ba3c330966ee85dd316b181bdd14b06b99a"), looks := false }, kinds := [], alts := [], laidByText := true, laidKinds := [.data, .pinned], laidTests := true, laidLooks := .later }
def FnExactSuperFaultUptoCardSaid : Prop := Claim7.holds Tryd.pinned (.plain (OpenSpec.upto fnExactSuperFaultSpec)) fnExactSuperFaultUptoCard

/-- THE SECOND FORM's CARD OF 'laws.FnExactReadSignature'. -/
def fnExactReadSignatureUptoCard : Claim7 := { stood := { row := fnExactReadSignatureUptoRow, standIns := [], harness := (true, "a98d4a48923d85323876ec9baf914ba3c330966ee85dd316b181bdd14b06b99a"), looks := false }, kinds := [], alts := [], laidByText := true, laidKinds := [.data, .pinned], laidTests := true, laidLooks := .later }
def FnExactReadSignatureUptoCardSaid : Prop := Claim7.holds Tryd.pinned (.plain (OpenSpec.upto fnExactReadSignatureSpec)) fnExactReadSignatureUptoCard

/-- THE SECOND FORM's CARD OF 'laws.FnExactUnpackTerm'. -/
def fnExactUnpackTermUptoCard : Claim7 := { stood := { row := fnExactUnpackTermUptoRow, standIns := [], harness := (true, "a98d4a48923d85323876ec9baf914ba3c330966ee85dd316b181bdd14b06b99a"), looks := false }, kinds := [], alts := [], laidByText := true, laidKinds := [.data, .pinned], laidTests := true, laidLooks := .later }
def FnExactUnpackTermUptoCardSaid : Prop := Claim7.holds Tryd.pinned (.plain (OpenSpec.upto fnExactUnpackTermSpec)) fnExactUnpackTermUptoCard

/-- THE SECOND FORM's CARD OF 'laws.FnExactPackSuper'. -/
def fnExactPackSuperUptoCard : Claim7 := { stood := { row := fnExactPackSuperUptoRow, standIns := [], harness := (true, "a98d4a48923d85323876ec9baf914ba3c330966ee85dd316b181bdd14b06b99a"), looks := false }, kinds := [], alts := [], laidByText := true, laidKinds := [.data, .pinned], laidTests := true, laidLooks := .later }
def FnExactPackSuperUptoCardSaid : Prop := Claim7.holds Tryd.pinned (.plain (OpenSpec.upto fnExactPackSuperSpec)) fnExactPackSuperUptoCard

/-- THE SECOND FORM's CARD OF 'laws.FnExactCutKey'. -/
def fnExactCutKeyUptoCard : Claim7 := { stood := { row := fnExactCutKeyUptoRow, standIns := [], harness := (true, "a98d4a48923d85323876ec9baf914ba3c330966ee85dd316b181bdd14b06b99a"), looks := false }, kinds := [], alts := [], laidByText := true, laidKinds := [.data, .pinned], laidTests := true, laidLooks := .later }
def FnExactCutKeyUptoCardSaid : Prop := Claim7.holds Tryd.pinned (.plain (OpenSpec.upto fnExactCutKeySpec)) fnExactCutKeyUptoCard

/-- THE SECOND FORM's CARD OF 'laws.FnExactReadSuper'. -/
def fnExactReadSuperUptoCard : Claim7 := { stood := { row := fnExactReadSuperUptoRow, standIns := [], harness := (true, "a98d4a48923d85323876ec9baf914ba3c330966ee85dd316b181bdd14b06b99a"), looks := false }, kinds := [], alts := [], laidByText := true, laidKinds := [.data, .pinned], laidTests := true, laidLooks := .later }
def FnExactReadSuperUptoCardSaid : Prop := Claim7.holds Tryd.pinned (.plain (OpenSpec.upto fnExactReadSuperSpec)) fnExactReadSuperUptoCard
end Rows
end Go.Proofs.YtkbnbjdkdlooiaaDoor
