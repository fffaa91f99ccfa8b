/-
  DERIVED. GIVEN WITH THE SEED: THE CARDS: each row of YtfmocbiagbpljaaDoorRows.lean that lists a variable, with what it lists TIED to the program's text (the seventh form; the later family's looks); each row that meets fmt, with fmt's text TOLD by the authors' own Lean function (tested against real Go, not proved from fmt's source: count such statements apart). THE CARD IS WHAT COUNTS. Prove the row's statement (the work); the ties are given (YtfmocbiagbpljaaDoorTie.lean); close each card by the builder's one call (the guide's Derived/Test/ToyasCard.lean, 'card_holds'). Laid BY PROGRAM, IN A SANDBOX (cutbox-door.mjs). By AI agents, Wed Nov 11 2026. No macro, syntax, notation, axiom, sorry.
-/
import Derived.Test.YtfmocbiagbpljaaDoorRows
import GoSem.ClaimSeven
namespace Go.Proofs.YtfmocbiagbpljaaDoor
namespace Rows

/-- THE TIED CARD OF 'stockadelaw01.FaultNests'. -/
def faultNestsCard : Claim7 := { stood := { row := faultNestsRow, standIns := [], harness := (true, "d0c4f0d8a6b9061e4fe214b7ef648eb3e1e2adf4a154ed3509b2fa678c62bcf1"), looks := true }, kinds := [], alts := [], laidByText := true, laidKinds := [.handle], laidTests := true, laidLooks := .later }
def FaultNestsCardSaid : Prop := Claim7.holds Tryd.pinned (.plain (OpenSpec.ofChange faultNestsSpec)) faultNestsCard

/-- THE TIED CARD OF 'stockadelaw01.FaultWraps'. -/
def faultWrapsCard : Claim7 := { stood := { row := faultWrapsRow, standIns := [], harness := (true, "d0c4f0d8a6b9061e4fe214b7ef648eb3e1e2adf4a154ed3509b2fa678c62bcf1"), looks := true }, kinds := [], alts := [], laidByText := true, laidKinds := [.handle], laidTests := true, laidLooks := .later }
def FaultWrapsCardSaid : Prop := Claim7.holds Tryd.pinned (.plain (OpenSpec.ofChange faultWrapsSpec)) faultWrapsCard

/-- THE TIED CARD OF 'stockadelaw01.FaultDeeper'. -/
def faultDeeperCard : Claim7 := { stood := { row := faultDeeperRow, standIns := [], harness := (true, "d0c4f0d8a6b9061e4fe214b7ef648eb3e1e2adf4a154ed3509b2fa678c62bcf1"), looks := true }, kinds := [], alts := [], laidByText := true, laidKinds := [.handle], laidTests := true, laidLooks := .later }
def FaultDeeperCardSaid : Prop := Claim7.holds Tryd.pinned (.plain (OpenSpec.ofChange faultDeeperSpec)) faultDeeperCard

/-- THE TIED CARD OF 'stockadelaw01.FaultTexts'. -/
def faultTextsCard : Claim7 := { stood := { row := faultTextsRow, standIns := [], harness := (true, "d0c4f0d8a6b9061e4fe214b7ef648eb3e1e2adf4a154ed3509b2fa678c62bcf1"), looks := true }, kinds := [], alts := [], laidByText := true, laidKinds := [.handle], laidTests := true, laidLooks := .later }
def FaultTextsCardSaid : Prop := Claim7.holds Tryd.pinned (.plain (OpenSpec.ofChange faultTextsSpec)) faultTextsCard

/-- THE TIED CARD OF 'stockadelaw02.OctetsParts'. -/
def octetsPartsCard : Claim7 := { stood := { row := octetsPartsRow, standIns := [], harness := (true, "d0c4f0d8a6b9061e4fe214b7ef648eb3e1e2adf4a154ed3509b2fa678c62bcf1"), looks := true }, kinds := [], alts := [], laidByText := true, laidKinds := [.handle], laidTests := true, laidLooks := .later }
def OctetsPartsCardSaid : Prop := Claim7.holds Tryd.pinned (.plain (OpenSpec.ofChange octetsPartsSpec)) octetsPartsCard

/-- THE TIED CARD OF 'stockadelaw02.OctetsEdges'. -/
def octetsEdgesCard : Claim7 := { stood := { row := octetsEdgesRow, standIns := [], harness := (true, "d0c4f0d8a6b9061e4fe214b7ef648eb3e1e2adf4a154ed3509b2fa678c62bcf1"), looks := true }, kinds := [], alts := [], laidByText := true, laidKinds := [.handle], laidTests := true, laidLooks := .later }
def OctetsEdgesCardSaid : Prop := Claim7.holds Tryd.pinned (.plain (OpenSpec.ofChange octetsEdgesSpec)) octetsEdgesCard

/-- THE TIED CARD OF 'stockadelaw02.OctetsTell'. -/
def octetsTellCard : Claim7 := { stood := { row := octetsTellRow, standIns := [], harness := (true, "d0c4f0d8a6b9061e4fe214b7ef648eb3e1e2adf4a154ed3509b2fa678c62bcf1"), looks := true }, kinds := [], alts := [], laidByText := true, laidKinds := [.handle], laidTests := true, laidLooks := .later }
def OctetsTellCardSaid : Prop := Claim7.holds Tryd.pinned (.plain (OpenSpec.ofChange octetsTellSpec)) octetsTellCard

/-- THE TIED CARD OF 'stockadelaw02.OctetsBack'. -/
def octetsBackCard : Claim7 := { stood := { row := octetsBackRow, standIns := [], harness := (true, "d0c4f0d8a6b9061e4fe214b7ef648eb3e1e2adf4a154ed3509b2fa678c62bcf1"), looks := true }, kinds := [], alts := [], laidByText := true, laidKinds := [.handle], laidTests := true, laidLooks := .later }
def OctetsBackCardSaid : Prop := Claim7.holds Tryd.pinned (.plain (OpenSpec.ofChange octetsBackSpec)) octetsBackCard

/-- THE TIED CARD OF 'stockadelaw05.EtherTells'. -/
def etherTellsCard : Claim7 := { stood := { row := etherTellsRow, standIns := [], harness := (true, "d0c4f0d8a6b9061e4fe214b7ef648eb3e1e2adf4a154ed3509b2fa678c62bcf1"), looks := true }, kinds := [], alts := [], laidByText := true, laidKinds := [.handle], laidTests := true, laidLooks := .later }
def EtherTellsCardSaid : Prop := Claim7.holds Tryd.pinned (.plain (OpenSpec.ofChange etherTellsSpec)) etherTellsCard

/-- THE TIED CARD OF 'stockadelaw05.EtherBack'. -/
def etherBackCard : Claim7 := { stood := { row := etherBackRow, standIns := [], harness := (true, "d0c4f0d8a6b9061e4fe214b7ef648eb3e1e2adf4a154ed3509b2fa678c62bcf1"), looks := true }, kinds := [], alts := [], laidByText := true, laidKinds := [.handle], laidTests := true, laidLooks := .later }
def EtherBackCardSaid : Prop := Claim7.holds Tryd.pinned (.plain (OpenSpec.ofChange etherBackSpec)) etherBackCard

/-- THE TIED CARD OF 'stockadelaw05.EtherShort'. -/
def etherShortCard : Claim7 := { stood := { row := etherShortRow, standIns := [], harness := (true, "d0c4f0d8a6b9061e4fe214b7ef648eb3e1e2adf4a154ed3509b2fa678c62bcf1"), looks := true }, kinds := [], alts := [], laidByText := true, laidKinds := [.handle], laidTests := true, laidLooks := .later }
def EtherShortCardSaid : Prop := Claim7.holds Tryd.pinned (.plain (OpenSpec.ofChange etherShortSpec)) etherShortCard

/-- THE SECOND FORM's CARD OF 'stockadelaw01.FaultNests'. -/
def faultNestsUptoCard : Claim7 := { stood := { row := faultNestsUptoRow, standIns := [], harness := (true, "d0c4f0d8a6b9061e4fe214b7ef648eb3e1e2adf4a154ed3509b2fa678c62bcf1"), looks := true }, kinds := [], alts := [], laidByText := true, laidKinds := [.handle], laidTests := true, laidLooks := .later }
def FaultNestsUptoCardSaid : Prop := Claim7.holds Tryd.pinned (.plain (OpenSpec.upto faultNestsSpec)) faultNestsUptoCard

/-- THE SECOND FORM's CARD OF 'stockadelaw01.FaultWraps'. -/
def faultWrapsUptoCard : Claim7 := { stood := { row := faultWrapsUptoRow, standIns := [], harness := (true, "d0c4f0d8a6b9061e4fe214b7ef648eb3e1e2adf4a154ed3509b2fa678c62bcf1"), looks := true }, kinds := [], alts := [], laidByText := true, laidKinds := [.handle], laidTests := true, laidLooks := .later }
def FaultWrapsUptoCardSaid : Prop := Claim7.holds Tryd.pinned (.plain (OpenSpec.upto faultWrapsSpec)) faultWrapsUptoCard

/-- THE SECOND FORM's CARD OF 'stockadelaw01.FaultDeeper'. -/
def faultDeeperUptoCard : Claim7 := { stood := { row := faultDeeperUptoRow, standIns := [], harness := (true, "d0c4f0d8a6b9061e4fe214b7ef648eb3e1e2adf4a154ed3509b2fa678c62bcf1"), looks := true }, kinds := [], alts := [], laidByText := true, laidKinds := [.handle], laidTests := true, laidLooks := .later }
def FaultDeeperUptoCardSaid : Prop := Claim7.holds Tryd.pinned (.plain (OpenSpec.upto faultDeeperSpec)) faultDeeperUptoCard

/-- THE SECOND FORM's CARD OF 'stockadelaw01.FaultTexts'. -/
def faultTextsUptoCard : Claim7 := { stood := { row := faultTextsUptoRow, standIns := [], harness := (true, "d0c4f0d8a6b9061e4fe214b7ef648eb3e1e2adf4a154ed3509b2fa678c62bcf1"), looks := true }, kinds := [], alts := [], laidByText := true, laidKinds := [.handle], laidTests := true, laidLooks := .later }
def FaultTextsUptoCardSaid : Prop := Claim7.holds Tryd.pinned (.plain (OpenSpec.upto faultTextsSpec)) faultTextsUptoCard

/-- THE SECOND FORM's CARD OF 'stockadelaw02.OctetsParts'. -/
def octetsPartsUptoCard : Claim7 := { stood := { row := octetsPartsUptoRow, standIns := [], harness := (true, "d0c4f0d8a6b9061e4fe214b7ef648eb3e1e2adf4a154ed3509b2fa678c62bcf1"), looks := true }, kinds := [], alts := [], laidByText := true, laidKinds := [.handle], laidTests := true, laidLooks := .later }
def OctetsPartsUptoCardSaid : Prop := Claim7.holds Tryd.pinned (.plain (OpenSpec.upto octetsPartsSpec)) octetsPartsUptoCard

/-- THE SECOND FORM's CARD OF 'stockadelaw02.OctetsEdges'. -/
def octetsEdgesUptoCard : Claim7 := { stood := { row := octetsEdgesUptoRow, standIns := [], harness := (true, "d0c4f0d8a6b9061e4fe214b7ef648eb3e1e2adf4a154ed3509b2fa678c62bcf1"), looks := true }, kinds := [], alts := [], laidByText := true, laidKinds := [.handle], laidTests := true, laidLooks := .later }
def OctetsEdgesUptoCardSaid : Prop := Claim7.holds Tryd.pinned (.plain (OpenSpec.upto octetsEdgesSpec)) octetsEdgesUptoCard

/-- THE SECOND FORM's CARD OF 'stockadelaw02.OctetsTell'. -/
def octetsTellUptoCard : Claim7 := { stood := { row := octetsTellUptoRow, standIns := [], harness := (true, "d0c4f0d8a6b9061e4fe214b7ef648eb3e1e2adf4a154ed3509b2fa678c62bcf1"), looks := true }, kinds := [], alts := [], laidByText := true, laidKinds := [.handle], laidTests := true, laidLooks := .later }
def OctetsTellUptoCardSaid : Prop := Claim7.holds Tryd.pinned (.plain (OpenSpec.upto octetsTellSpec)) octetsTellUptoCard

/-- THE SECOND FORM's CARD OF 'stockadelaw02.OctetsBack'. -/
def octetsBackUptoCard : Claim7 := { stood := { row := octetsBackUptoRow, standIns := [], harness := (true, "d0c4f0d8a6b9061e4fe214b7ef648eb3e1e2adf4a154ed3509b2fa678c62bcf1"), looks := true }, kinds := [], alts := [], laidByText := true, laidKinds := [.handle], laidTests := true, laidLooks := .later }
def OctetsBackUptoCardSaid : Prop := Claim7.holds Tryd.pinned (.plain (OpenSpec.upto octetsBackSpec)) octetsBackUptoCard

/-- THE SECOND FORM's CARD OF 'stockadelaw05.EtherTells'. -/
def etherTellsUptoCard : Claim7 := { stood := { row := etherTellsUptoRow, standIns := [], harness := (true, "d0c4f0d8a6b9061e4fe214b7ef648eb3e1e2adf4a154ed3509b2fa678c62bcf1"), looks := true }, kinds := [], alts := [], laidByText := true, laidKinds := [.handle], laidTests := true, laidLooks := .later }
def EtherTellsUptoCardSaid : Prop := Claim7.holds Tryd.pinned (.plain (OpenSpec.upto etherTellsSpec)) etherTellsUptoCard

/-- THE SECOND FORM's CARD OF 'stockadelaw05.EtherBack'. -/
def etherBackUptoCard : Claim7 := { stood := { row := etherBackUptoRow, standIns := [], harness := (true, "d0c4f0d8a6b9061e4fe214b7ef648eb3e1e2adf4a154ed3509b2fa678c62bcf1"), looks := true }, kinds := [], alts := [], laidByText := true, laidKinds := [.handle], laidTests := true, laidLooks := .later }
def EtherBackUptoCardSaid : Prop := Claim7.holds Tryd.pinned (.plain (OpenSpec.upto etherBackSpec)) etherBackUptoCard

/-- THE SECOND FORM's CARD OF 'stockadelaw05.EtherShort'. -/
def etherShortUptoCard : Claim7 := { stood := { row := etherShortUptoRow, standIns := [], harness := (true, "d0c4f0d8a6b9061e4fe214b7ef648eb3e1e2adf4a154ed3509b2fa678c62bcf1"), looks := true }, kinds := [], alts := [], laidByText := true, laidKinds := [.handle], laidTests := true, laidLooks := .later }
def EtherShortUptoCardSaid : Prop := Claim7.holds Tryd.pinned (.plain (OpenSpec.upto etherShortSpec)) etherShortUptoCard
end Rows
end Go.Proofs.YtfmocbiagbpljaaDoor
