/-
  DERIVED. GIVEN WITH THE SEED: THE CARDS: each row of YtbjdcogmiggamaaGreatDoorRows.lean that lists a variable, with what it lists TIED to the program's text (the seventh form; the later family's looks); each row that meets fmt, with fmt's text TOLD by the authors' own Lean function (tested against real Go, not proved from fmt's source: count such statements apart). THE CARD IS WHAT COUNTS. Prove the row's statement (the work); the ties are given (YtbjdcogmiggamaaGreatDoorTie.lean); close each card by the builder's one call (the guide's Derived/Test/ToyasCard.lean, 'card_holds'). Laid BY PROGRAM, IN A SANDBOX (cutbox-door.mjs). By AI agents, Wed Nov 11 2026. No macro, syntax, notation, axiom, sorry.
-/
import Derived.Test.YtbjdcogmiggamaaGreatDoorRows
import GoSem.ClaimSeven
namespace Go.Proofs.YtbjdcogmiggamaaGreatDoor
namespace Rows

/-- THE TIED CARD OF 'retroactlaw08.SyntaxWrites'. -/
def syntaxWritesCard : Claim7 := { stood := { row := syntaxWritesRow, standIns := [], harness := (true, "b5ab9221a9dec1a4d6fc34e8d025eb0832c9f9491800d544b903fd48a8acd252"), looks := true }, kinds := [], alts := [], laidByText := true, laidKinds := [.data, .data, .data], laidTests := true, laidLooks := .later }
def SyntaxWritesCardSaid : Prop := Claim7.holds Tryz.pinned (.plain (OpenSpec.ofChange syntaxWritesSpec)) syntaxWritesCard

/-- THE TIED CARD OF 'retroactlaw08.SyntaxBack'. -/
def syntaxBackCard : Claim7 := { stood := { row := syntaxBackRow, standIns := [], harness := (true, "b5ab9221a9dec1a4d6fc34e8d025eb0832c9f9491800d544b903fd48a8acd252"), looks := true }, kinds := [], alts := [], laidByText := true, laidKinds := [.data, .data, .data], laidTests := true, laidLooks := .later }
def SyntaxBackCardSaid : Prop := Claim7.holds Tryz.pinned (.plain (OpenSpec.ofChange syntaxBackSpec)) syntaxBackCard

/-- THE TIED CARD OF 'retroactlaw08.SyntaxBlanks'. -/
def syntaxBlanksCard : Claim7 := { stood := { row := syntaxBlanksRow, standIns := [], harness := (true, "b5ab9221a9dec1a4d6fc34e8d025eb0832c9f9491800d544b903fd48a8acd252"), looks := true }, kinds := [], alts := [], laidByText := true, laidKinds := [.data, .data, .data], laidTests := true, laidLooks := .later }
def SyntaxBlanksCardSaid : Prop := Claim7.holds Tryz.pinned (.plain (OpenSpec.ofChange syntaxBlanksSpec)) syntaxBlanksCard

/-- THE TIED CARD OF 'retroactlaw08.SyntaxRows'. -/
def syntaxRowsCard : Claim7 := { stood := { row := syntaxRowsRow, standIns := [], harness := (true, "b5ab9221a9dec1a4d6fc34e8d025eb0832c9f9491800d544b903fd48a8acd252"), looks := true }, kinds := [], alts := [], laidByText := true, laidKinds := [.data, .data, .data], laidTests := true, laidLooks := .later }
def SyntaxRowsCardSaid : Prop := Claim7.holds Tryz.pinned (.plain (OpenSpec.ofChange syntaxRowsSpec)) syntaxRowsCard

/-- THE TIED CARD OF 'retroactlaw08.SyntaxPatches'. -/
def syntaxPatchesCard : Claim7 := { stood := { row := syntaxPatchesRow, standIns := [], harness := (true, "b5ab9221a9dec1a4d6fc34e8d025eb0832c9f9491800d544b903fd48a8acd252"), looks := true }, kinds := [], alts := [], laidByText := true, laidKinds := [.data, .data, .data], laidTests := true, laidLooks := .later }
def SyntaxPatchesCardSaid : Prop := Claim7.holds Tryz.pinned (.plain (OpenSpec.ofChange syntaxPatchesSpec)) syntaxPatchesCard

/-- THE TIED CARD OF 'retroactlaw08.SyntaxEarly'. -/
def syntaxEarlyCard : Claim7 := { stood := { row := syntaxEarlyRow, standIns := [], harness := (true, "b5ab9221a9dec1a4d6fc34e8d025eb0832c9f9491800d544b903fd48a8acd252"), looks := true }, kinds := [], alts := [], laidByText := true, laidKinds := [.data, .data, .data], laidTests := true, laidLooks := .later }
def SyntaxEarlyCardSaid : Prop := Claim7.holds Tryz.pinned (.plain (OpenSpec.ofChange syntaxEarlySpec)) syntaxEarlyCard

/-- THE TIED CARD OF 'retroactlaw08.SyntaxDeep'. -/
def syntaxDeepCard : Claim7 := { stood := { row := syntaxDeepRow, standIns := [], harness := (true, "b5ab9221a9dec1a4d6fc34e8d025eb0832c9f9491800d544b903fd48a8acd252"), looks := true }, kinds := [], alts := [], laidByText := true, laidKinds := [.data, .data, .data], laidTests := true, laidLooks := .later }
def SyntaxDeepCardSaid : Prop := Claim7.holds Tryz.pinned (.plain (OpenSpec.ofChange syntaxDeepSpec)) syntaxDeepCard

/-- THE SECOND FORM's CARD OF 'retroactlaw08.SyntaxWrites'. -/
def syntaxWritesUptoCard : Claim7 := { stood := { row := syntaxWritesUptoRow, standIns := [], harness := (true, "b5ab9221a9dec1a4d6fc34e8d025eb0832c9f9491800d544b903fd48a8acd252"), looks := true }, kinds := [], alts := [], laidByText := true, laidKinds := [.data, .data, .data], laidTests := true, laidLooks := .later }
def SyntaxWritesUptoCardSaid : Prop := Claim7.holds Tryz.pinned (.plain (OpenSpec.upto syntaxWritesSpec)) syntaxWritesUptoCard

/-- THE SECOND FORM's CARD OF 'retroactlaw08.SyntaxBack'. -/
def syntaxBackUptoCard : Claim7 := { stood := { row := syntaxBackUptoRow, standIns := [], harness := (true, "b5ab9221a9dec1a4d6fc34e8d025eb0832c9f9491800d544b903fd48a8acd252"), looks := true }, kinds := [], alts := [], laidByText := true, laidKinds := [.data, .data, .data], laidTests := true, laidLooks := .later }
def SyntaxBackUptoCardSaid : Prop := Claim7.holds Tryz.pinned (.plain (OpenSpec.upto syntaxBackSpec)) syntaxBackUptoCard

/-- THE SECOND FORM's CARD OF 'retroactlaw08.SyntaxBlanks'. -/
def syntaxBlanksUptoCard : Claim7 := { stood := { row := syntaxBlanksUptoRow, standIns := [], harness := (true, "b5ab9221a9dec1a4d6fc34e8d025eb0832c9f9491800d544b903fd48a8acd252"), looks := true }, kinds := [], alts := [], laidByText := true, laidKinds := [.data, .data, .data], laidTests := true, laidLooks := .later }
def SyntaxBlanksUptoCardSaid : Prop := Claim7.holds Tryz.pinned (.plain (OpenSpec.upto syntaxBlanksSpec)) syntaxBlanksUptoCard

/-- THE SECOND FORM's CARD OF 'retroactlaw08.SyntaxRows'. -/
def syntaxRowsUptoCard : Claim7 := { stood := { row := syntaxRowsUptoRow, standIns := [], harness := (true, "b5ab9221a9dec1a4d6fc34e8d025eb0832c9f9491800d544b903fd48a8acd252"), looks := true }, kinds := [], alts := [], laidByText := true, laidKinds := [.data, .data, .data], laidTests := true, laidLooks := .later }
def SyntaxRowsUptoCardSaid : Prop := Claim7.holds Tryz.pinned (.plain (OpenSpec.upto syntaxRowsSpec)) syntaxRowsUptoCard

/-- THE SECOND FORM's CARD OF 'retroactlaw08.SyntaxPatches'. -/
def syntaxPatchesUptoCard : Claim7 := { stood := { row := syntaxPatchesUptoRow, standIns := [], harness := (true, "b5ab9221a9dec1a4d6fc34e8d025eb0832c9f9491800d544b903fd48a8acd252"), looks := true }, kinds := [], alts := [], laidByText := true, laidKinds := [.data, .data, .data], laidTests := true, laidLooks := .later }
def SyntaxPatchesUptoCardSaid : Prop := Claim7.holds Tryz.pinned (.plain (OpenSpec.upto syntaxPatchesSpec)) syntaxPatchesUptoCard

/-- THE SECOND FORM's CARD OF 'retroactlaw08.SyntaxEarly'. -/
def syntaxEarlyUptoCard : Claim7 := { stood := { row := syntaxEarlyUptoRow, standIns := [], harness := (true, "b5ab9221a9dec1a4d6fc34e8d025eb0832c9f9491800d544b903fd48a8acd252"), looks := true }, kinds := [], alts := [], laidByText := true, laidKinds := [.data, .data, .data], laidTests := true, laidLooks := .later }
def SyntaxEarlyUptoCardSaid : Prop := Claim7.holds Tryz.pinned (.plain (OpenSpec.upto syntaxEarlySpec)) syntaxEarlyUptoCard

/-- THE SECOND FORM's CARD OF 'retroactlaw08.SyntaxDeep'. -/
def syntaxDeepUptoCard : Claim7 := { stood := { row := syntaxDeepUptoRow, standIns := [], harness := (true, "b5ab9221a9dec1a4d6fc34e8d025eb0832c9f9491800d544b903fd48a8acd252"), looks := true }, kinds := [], alts := [], laidByText := true, laidKinds := [.data, .data, .data], laidTests := true, laidLooks := .later }
def SyntaxDeepUptoCardSaid : Prop := Claim7.holds Tryz.pinned (.plain (OpenSpec.upto syntaxDeepSpec)) syntaxDeepUptoCard
end Rows
end Go.Proofs.YtbjdcogmiggamaaGreatDoor
