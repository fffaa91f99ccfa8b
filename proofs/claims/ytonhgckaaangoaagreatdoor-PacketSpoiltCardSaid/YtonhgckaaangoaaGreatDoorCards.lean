/-
  DERIVED. GIVEN WITH THE SEED: THE CARDS: each row of YtonhgckaaangoaaGreatDoorRows.lean that lists a variable, with what it lists TIED to the program's text (the seventh form; the later family's looks); each row that meets fmt, with fmt's text TOLD by the authors' own Lean function (tested against real Go, not proved from fmt's source: count such statements apart). THE CARD IS WHAT COUNTS. Prove the row's statement (the work); the ties are given (YtonhgckaaangoaaGreatDoorTie.lean); close each card by the builder's one call (the guide's Derived/Test/ToyasCard.lean, 'card_holds'). Laid BY PROGRAM, IN A SANDBOX (cutbox-door.mjs). By AI agents, Wed Nov 11 2026. No macro, syntax, notation, axiom, sorry.
-/
import Derived.Test.YtonhgckaaangoaaGreatDoorRows
import GoSem.ClaimSeven
namespace Go.Proofs.YtonhgckaaangoaaGreatDoor
namespace Rows

/-- THE TIED CARD OF 'stockadelaw11.PacketTells'. -/
def packetTellsCard : Claim7 := { stood := { row := packetTellsRow, standIns := [], harness := (true, "b189b478270996a81ada35d7698a85b9ceda70a3a5eea5618a32be4ccd0dea25"), looks := true }, kinds := [], alts := [], laidByText := true, laidKinds := [.handle], laidTests := true, laidLooks := .later }
def PacketTellsCardSaid : Prop := Claim7.holds Tryz.pinned (.plain (OpenSpec.ofChange packetTellsSpec)) packetTellsCard

/-- THE TIED CARD OF 'stockadelaw11.PacketBack'. -/
def packetBackCard : Claim7 := { stood := { row := packetBackRow, standIns := [], harness := (true, "b189b478270996a81ada35d7698a85b9ceda70a3a5eea5618a32be4ccd0dea25"), looks := true }, kinds := [], alts := [], laidByText := true, laidKinds := [.handle], laidTests := true, laidLooks := .later }
def PacketBackCardSaid : Prop := Claim7.holds Tryz.pinned (.plain (OpenSpec.ofChange packetBackSpec)) packetBackCard

/-- THE TIED CARD OF 'stockadelaw11.PacketSpoilt'. -/
def packetSpoiltCard : Claim7 := { stood := { row := packetSpoiltRow, standIns := [], harness := (true, "b189b478270996a81ada35d7698a85b9ceda70a3a5eea5618a32be4ccd0dea25"), looks := true }, kinds := [], alts := [], laidByText := true, laidKinds := [.handle], laidTests := true, laidLooks := .later }
def PacketSpoiltCardSaid : Prop := Claim7.holds Tryz.pinned (.plain (OpenSpec.ofChange packetSpoiltSpec)) packetSpoiltCard

/-- THE TIED CARD OF 'stockadelaw11.PacketPlaces'. -/
def packetPlacesCard : Claim7 := { stood := { row := packetPlacesRow, standIns := [], harness := (true, "b189b478270996a81ada35d7698a85b9ceda70a3a5eea5618a32be4ccd0dea25"), looks := true }, kinds := [], alts := [], laidByText := true, laidKinds := [.handle], laidTests := true, laidLooks := .later }
def PacketPlacesCardSaid : Prop := Claim7.holds Tryz.pinned (.plain (OpenSpec.ofChange packetPlacesSpec)) packetPlacesCard

/-- THE TIED CARD OF 'stockadelaw11.PacketElse'. -/
def packetElseCard : Claim7 := { stood := { row := packetElseRow, standIns := [], harness := (true, "b189b478270996a81ada35d7698a85b9ceda70a3a5eea5618a32be4ccd0dea25"), looks := true }, kinds := [], alts := [], laidByText := true, laidKinds := [.handle], laidTests := true, laidLooks := .later }
def PacketElseCardSaid : Prop := Claim7.holds Tryz.pinned (.plain (OpenSpec.ofChange packetElseSpec)) packetElseCard

/-- THE TIED CARD OF 'stockadelaw11.PacketTags'. -/
def packetTagsCard : Claim7 := { stood := { row := packetTagsRow, standIns := [], harness := (true, "b189b478270996a81ada35d7698a85b9ceda70a3a5eea5618a32be4ccd0dea25"), looks := true }, kinds := [], alts := [], laidByText := true, laidKinds := [.handle], laidTests := true, laidLooks := .later }
def PacketTagsCardSaid : Prop := Claim7.holds Tryz.pinned (.plain (OpenSpec.ofChange packetTagsSpec)) packetTagsCard

/-- THE SECOND FORM's CARD OF 'stockadelaw11.PacketTells'. -/
def packetTellsUptoCard : Claim7 := { stood := { row := packetTellsUptoRow, standIns := [], harness := (true, "b189b478270996a81ada35d7698a85b9ceda70a3a5eea5618a32be4ccd0dea25"), looks := true }, kinds := [], alts := [], laidByText := true, laidKinds := [.handle], laidTests := true, laidLooks := .later }
def PacketTellsUptoCardSaid : Prop := Claim7.holds Tryz.pinned (.plain (OpenSpec.upto packetTellsSpec)) packetTellsUptoCard

/-- THE SECOND FORM's CARD OF 'stockadelaw11.PacketBack'. -/
def packetBackUptoCard : Claim7 := { stood := { row := packetBackUptoRow, standIns := [], harness := (true, "b189b478270996a81ada35d7698a85b9ceda70a3a5eea5618a32be4ccd0dea25"), looks := true }, kinds := [], alts := [], laidByText := true, laidKinds := [.handle], laidTests := true, laidLooks := .later }
def PacketBackUptoCardSaid : Prop := Claim7.holds Tryz.pinned (.plain (OpenSpec.upto packetBackSpec)) packetBackUptoCard

/-- THE SECOND FORM's CARD OF 'stockadelaw11.PacketSpoilt'. -/
def packetSpoiltUptoCard : Claim7 := { stood := { row := packetSpoiltUptoRow, standIns := [], harness := (true, "b189b478270996a81ada35d7698a85b9ceda70a3a5eea5618a32be4ccd0dea25"), looks := true }, kinds := [], alts := [], laidByText := true, laidKinds := [.handle], laidTests := true, laidLooks := .later }
def PacketSpoiltUptoCardSaid : Prop := Claim7.holds Tryz.pinned (.plain (OpenSpec.upto packetSpoiltSpec)) packetSpoiltUptoCard

/-- THE SECOND FORM's CARD OF 'stockadelaw11.PacketPlaces'. -/
def packetPlacesUptoCard : Claim7 := { stood := { row := packetPlacesUptoRow, standIns := [], harness := (true, "b189b478270996a81ada35d7698a85b9ceda70a3a5eea5618a32be4ccd0dea25"), looks := true }, kinds := [], alts := [], laidByText := true, laidKinds := [.handle], laidTests := true, laidLooks := .later }
def PacketPlacesUptoCardSaid : Prop := Claim7.holds Tryz.pinned (.plain (OpenSpec.upto packetPlacesSpec)) packetPlacesUptoCard

/-- THE SECOND FORM's CARD OF 'stockadelaw11.PacketElse'. -/
def packetElseUptoCard : Claim7 := { stood := { row := packetElseUptoRow, standIns := [], harness := (true, "b189b478270996a81ada35d7698a85b9ceda70a3a5eea5618a32be4ccd0dea25"), looks := true }, kinds := [], alts := [], laidByText := true, laidKinds := [.handle], laidTests := true, laidLooks := .later }
def PacketElseUptoCardSaid : Prop := Claim7.holds Tryz.pinned (.plain (OpenSpec.upto packetElseSpec)) packetElseUptoCard

/-- THE SECOND FORM's CARD OF 'stockadelaw11.PacketTags'. -/
def packetTagsUptoCard : Claim7 := { stood := { row := packetTagsUptoRow, standIns := [], harness := (true, "b189b478270996a81ada35d7698a85b9ceda70a3a5eea5618a32be4ccd0dea25"), looks := true }, kinds := [], alts := [], laidByText := true, laidKinds := [.handle], laidTests := true, laidLooks := .later }
def PacketTagsUptoCardSaid : Prop := Claim7.holds Tryz.pinned (.plain (OpenSpec.upto packetTagsSpec)) packetTagsUptoCard
end Rows
end Go.Proofs.YtonhgckaaangoaaGreatDoor
