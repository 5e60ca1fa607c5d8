/-
  DERIVED. GIVEN WITH THE SEED: THE CARDS: each row of YtcjkamnpkmkapaaDoorRows.lean that lists a variable, with what it lists TIED to the program's text (the seventh form; the later family's looks); each row that meets fmt, with fmt's text TOLD by the authors' own Lean function (tested against real Go, not proved from fmt's source: count such statements apart). THE CARD IS WHAT COUNTS. Prove the row's statement (the work); the ties are given (YtcjkamnpkmkapaaDoorTie.lean); close each card by the builder's one call (the guide's Derived/Test/ToyasCard.lean, 'card_holds'). Laid BY PROGRAM, IN A SANDBOX (cutbox-door.mjs). By AI agents, Wed Nov 11 2026. No macro, syntax, notation, axiom, sorry.
-/
import Derived.Test.YtcjkamnpkmkapaaDoorRows
import GoSem.ClaimSeven
namespace Go.Proofs.YtcjkamnpkmkapaaDoor
namespace Rows

/-- THE TIED CARD OF 'retroactlaw43.CatalogBack'. -/
def catalogBackCard : Claim7 := { stood := { row := catalogBackRow, standIns := [], harness := (true, "ed8fe4c603615b63d30a07c98d1316ffcab22bde85e13338f32ac2262cce81a6"), looks := false }, kinds := [], alts := [], laidByText := true, laidKinds := [.data, .data, .data], laidTests := true, laidLooks := .later }
def CatalogBackCardSaid : Prop := Claim7.holds Tryd.pinned (.plain (OpenSpec.ofChange catalogBackSpec)) catalogBackCard

/-- THE TIED CARD OF 'retroactlaw43.CatalogLines'. -/
def catalogLinesCard : Claim7 := { stood := { row := catalogLinesRow, standIns := [], harness := (true, "ed8fe4c603615b63d30a07c98d1316ffcab22bde85e13338f32ac2262cce81a6"), looks := false }, kinds := [], alts := [], laidByText := true, laidKinds := [.data, .data, .data], laidTests := true, laidLooks := .later }
def CatalogLinesCardSaid : Prop := Claim7.holds Tryd.pinned (.plain (OpenSpec.ofChange catalogLinesSpec)) catalogLinesCard

/-- THE TIED CARD OF 'retroactlaw43.CatalogDue'. -/
def catalogDueCard : Claim7 := { stood := { row := catalogDueRow, standIns := [], harness := (true, "ed8fe4c603615b63d30a07c98d1316ffcab22bde85e13338f32ac2262cce81a6"), looks := false }, kinds := [], alts := [], laidByText := true, laidKinds := [.data, .data, .data], laidTests := true, laidLooks := .later }
def CatalogDueCardSaid : Prop := Claim7.holds Tryd.pinned (.plain (OpenSpec.ofChange catalogDueSpec)) catalogDueCard

/-- THE SECOND FORM's CARD OF 'retroactlaw43.CatalogBack'. -/
def catalogBackUptoCard : Claim7 := { stood := { row := catalogBackUptoRow, standIns := [], harness := (true, "ed8fe4c603615b63d30a07c98d1316ffcab22bde85e13338f32ac2262cce81a6"), looks := false }, kinds := [], alts := [], laidByText := true, laidKinds := [.data, .data, .data], laidTests := true, laidLooks := .later }
def CatalogBackUptoCardSaid : Prop := Claim7.holds Tryd.pinned (.plain (OpenSpec.upto catalogBackSpec)) catalogBackUptoCard

/-- THE SECOND FORM's CARD OF 'retroactlaw43.CatalogLines'. -/
def catalogLinesUptoCard : Claim7 := { stood := { row := catalogLinesUptoRow, standIns := [], harness := (true, "ed8fe4c603615b63d30a07c98d1316ffcab22bde85e13338f32ac2262cce81a6"), looks := false }, kinds := [], alts := [], laidByText := true, laidKinds := [.data, .data, .data], laidTests := true, laidLooks := .later }
def CatalogLinesUptoCardSaid : Prop := Claim7.holds Tryd.pinned (.plain (OpenSpec.upto catalogLinesSpec)) catalogLinesUptoCard

/-- THE SECOND FORM's CARD OF 'retroactlaw43.CatalogDue'. -/
def catalogDueUptoCard : Claim7 := { stood := { row := catalogDueUptoRow, standIns := [], harness := (true, "ed8fe4c603615b63d30a07c98d1316ffcab22bde85e13338f32ac2262cce81a6"), looks := false }, kinds := [], alts := [], laidByText := true, laidKinds := [.data, .data, .data], laidTests := true, laidLooks := .later }
def CatalogDueUptoCardSaid : Prop := Claim7.holds Tryd.pinned (.plain (OpenSpec.upto catalogDueSpec)) catalogDueUptoCard
end Rows
end Go.Proofs.YtcjkamnpkmkapaaDoor
