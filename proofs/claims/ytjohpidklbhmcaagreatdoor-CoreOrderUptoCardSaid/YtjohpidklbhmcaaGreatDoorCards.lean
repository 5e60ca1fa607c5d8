/-
  DERIVED. GIVEN WITH THE SEED: THE CARDS: each row of YtjohpidklbhmcaaGreatDoorRows.lean that lists a variable, with what it lists TIED to the program's text (the seventh form; the later family's looks); each row that meets fmt, with fmt's text TOLD by the authors' own Lean function (tested against real Go, not proved from fmt's source: count such statements apart). THE CARD IS WHAT COUNTS. Prove the row's statement (the work); the ties are given (YtjohpidklbhmcaaGreatDoorTie.lean); close each card by the builder's one call (the guide's Derived/Test/ToyasCard.lean, 'card_holds'). Laid BY PROGRAM, IN A SANDBOX (cutbox-door.mjs). By AI agents, Wed Nov 11 2026. No macro, syntax, notation, axiom, sorry.
-/
import Derived.Test.YtjohpidklbhmcaaGreatDoorRows
import GoSem.ClaimSeven
namespace Go.Proofs.YtjohpidklbhmcaaGreatDoor
namespace Rows

/-- THE TIED CARD OF 'retroactlaw11.CoreBack'. -/
def coreBackCard : Claim7 := { stood := { row := coreBackRow, standIns := [], harness := (true, "cc88480e29642ed375ee9539bf2889356580c4ee7cade96b5a2483d6bde1ba9e"), looks := false }, kinds := [], alts := [], laidByText := true, laidKinds := [.data], laidTests := true, laidLooks := .later }
def CoreBackCardSaid : Prop := Claim7.holds Tryz.pinned (.plain (OpenSpec.ofChange coreBackSpec)) coreBackCard

/-- THE TIED CARD OF 'retroactlaw11.CoreReach'. -/
def coreReachCard : Claim7 := { stood := { row := coreReachRow, standIns := [], harness := (true, "cc88480e29642ed375ee9539bf2889356580c4ee7cade96b5a2483d6bde1ba9e"), looks := false }, kinds := [], alts := [], laidByText := true, laidKinds := [.data], laidTests := true, laidLooks := .later }
def CoreReachCardSaid : Prop := Claim7.holds Tryz.pinned (.plain (OpenSpec.ofChange coreReachSpec)) coreReachCard

/-- THE TIED CARD OF 'retroactlaw11.CoreOrder'. -/
def coreOrderCard : Claim7 := { stood := { row := coreOrderRow, standIns := [], harness := (true, "cc88480e29642ed375ee9539bf2889356580c4ee7cade96b5a2483d6bde1ba9e"), looks := false }, kinds := [], alts := [], laidByText := true, laidKinds := [.data], laidTests := true, laidLooks := .later }
def CoreOrderCardSaid : Prop := Claim7.holds Tryz.pinned (.plain (OpenSpec.ofChange coreOrderSpec)) coreOrderCard

/-- THE TIED CARD OF 'retroactlaw11.CoreForms'. -/
def coreFormsCard : Claim7 := { stood := { row := coreFormsRow, standIns := [], harness := (true, "cc88480e29642ed375ee9539bf2889356580c4ee7cade96b5a2483d6bde1ba9e"), looks := false }, kinds := [], alts := [], laidByText := true, laidKinds := [.data], laidTests := true, laidLooks := .later }
def CoreFormsCardSaid : Prop := Claim7.holds Tryz.pinned (.plain (OpenSpec.ofChange coreFormsSpec)) coreFormsCard

/-- THE SECOND FORM's CARD OF 'retroactlaw11.CoreBack'. -/
def coreBackUptoCard : Claim7 := { stood := { row := coreBackUptoRow, standIns := [], harness := (true, "cc88480e29642ed375ee9539bf2889356580c4ee7cade96b5a2483d6bde1ba9e"), looks := false }, kinds := [], alts := [], laidByText := true, laidKinds := [.data], laidTests := true, laidLooks := .later }
def CoreBackUptoCardSaid : Prop := Claim7.holds Tryz.pinned (.plain (OpenSpec.upto coreBackSpec)) coreBackUptoCard

/-- THE SECOND FORM's CARD OF 'retroactlaw11.CoreReach'. -/
def coreReachUptoCard : Claim7 := { stood := { row := coreReachUptoRow, standIns := [], harness := (true, "cc88480e29642ed375ee9539bf2889356580c4ee7cade96b5a2483d6bde1ba9e"), looks := false }, kinds := [], alts := [], laidByText := true, laidKinds := [.data], laidTests := true, laidLooks := .later }
def CoreReachUptoCardSaid : Prop := Claim7.holds Tryz.pinned (.plain (OpenSpec.upto coreReachSpec)) coreReachUptoCard

/-- THE SECOND FORM's CARD OF 'retroactlaw11.CoreOrder'. -/
def coreOrderUptoCard : Claim7 := { stood := { row := coreOrderUptoRow, standIns := [], harness := (true, "cc88480e29642ed375ee9539bf2889356580c4ee7cade96b5a2483d6bde1ba9e"), looks := false }, kinds := [], alts := [], laidByText := true, laidKinds := [.data], laidTests := true, laidLooks := .later }
def CoreOrderUptoCardSaid : Prop := Claim7.holds Tryz.pinned (.plain (OpenSpec.upto coreOrderSpec)) coreOrderUptoCard

/-- THE SECOND FORM's CARD OF 'retroactlaw11.CoreForms'. -/
def coreFormsUptoCard : Claim7 := { stood := { row := coreFormsUptoRow, standIns := [], harness := (true, "cc88480e29642ed375ee9539bf2889356580c4ee7cade96b5a2483d6bde1ba9e"), looks := false }, kinds := [], alts := [], laidByText := true, laidKinds := [.data], laidTests := true, laidLooks := .later }
def CoreFormsUptoCardSaid : Prop := Claim7.holds Tryz.pinned (.plain (OpenSpec.upto coreFormsSpec)) coreFormsUptoCard
end Rows
end Go.Proofs.YtjohpidklbhmcaaGreatDoor
