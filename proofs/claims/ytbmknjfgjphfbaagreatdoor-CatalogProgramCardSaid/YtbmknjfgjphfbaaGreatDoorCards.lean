/-
  DERIVED. GIVEN WITH THE SEED: THE CARDS: each row of YtbmknjfgjphfbaaGreatDoorRows.lean that lists a variable, with what it lists TIED to the program's text (the seventh form; the later family's looks); each row that meets fmt, with fmt's text TOLD by the authors' own Lean function (tested against real Go, not proved from fmt's source: count such statements apart). THE CARD IS WHAT COUNTS. Prove the row's statement (the work); the ties are given (YtbmknjfgjphfbaaGreatDoorTie.lean); close each card by the builder's one call (the guide's Derived/Test/ToyasCard.lean, 'card_holds'). Laid BY PROGRAM, IN A SANDBOX (cutbox-door.mjs). By AI agents, Wed Nov 11 2026. No macro, syntax, notation, axiom, sorry.
-/
import Derived.Test.YtbmknjfgjphfbaaGreatDoorRows
import GoSem.ClaimSeven
namespace Go.Proofs.YtbmknjfgjphfbaaGreatDoor
namespace Rows

/-- THE TIED CARD OF 'retroactlaw43.CatalogProgram'. -/
def catalogProgramCard : Claim7 := { stood := { row := catalogProgramRow, standIns := [], harness := (true, "08359d2a8901f5f06f49812e8639b50071d68083a8df6c8b9d0d6ba29a13c211"), looks := true }, kinds := [], alts := [], laidByText := true, laidKinds := [.data, .data, .data], laidTests := true, laidLooks := .later }
def CatalogProgramCardSaid : Prop := Claim7.holds Tryz.pinned (.plain (OpenSpec.ofChange catalogProgramSpec)) catalogProgramCard

/-- THE SECOND FORM's CARD OF 'retroactlaw43.CatalogProgram'. -/
def catalogProgramUptoCard : Claim7 := { stood := { row := catalogProgramUptoRow, standIns := [], harness := (true, "08359d2a8901f5f06f49812e8639b50071d68083a8df6c8b9d0d6ba29a13c211"), looks := true }, kinds := [], alts := [], laidByText := true, laidKinds := [.data, .data, .data], laidTests := true, laidLooks := .later }
def CatalogProgramUptoCardSaid : Prop := Claim7.holds Tryz.pinned (.plain (OpenSpec.upto catalogProgramSpec)) catalogProgramUptoCard
end Rows
end Go.Proofs.YtbmknjfgjphfbaaGreatDoor
