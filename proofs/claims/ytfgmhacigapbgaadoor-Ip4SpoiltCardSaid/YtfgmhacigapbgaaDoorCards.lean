/-
  DERIVED. GIVEN WITH THE SEED: THE CARDS: each row of YtfgmhacigapbgaaDoorRows.lean that lists a variable, with what it lists TIED to the program's text (the seventh form; the later family's looks); each row that meets fmt, with fmt's text TOLD by the authors' own Lean function (tested against real Go, not proved from fmt's source: count such statements apart). THE CARD IS WHAT COUNTS. Prove the row's statement (the work); the ties are given (YtfgmhacigapbgaaDoorTie.lean); close each card by the builder's one call (the guide's Derived/Test/ToyasCard.lean, 'card_holds'). Laid BY PROGRAM, IN A SANDBOX (cutbox-door.mjs). By AI agents, Wed Nov 11 2026. No macro, syntax, notation, axiom, sorry.
-/
import Derived.Test.YtfgmhacigapbgaaDoorRows
import GoSem.ClaimSeven
namespace Go.Proofs.YtfgmhacigapbgaaDoor
namespace Rows

/-- THE TIED CARD OF 'stockadelaw08.TcpTells'. -/
def tcpTellsCard : Claim7 := { stood := { row := tcpTellsRow, standIns := [], harness := (true, "c8e826a67e1d2a6cd7b0c3c442349deb251b52b4962fbf73fae3e962f3e5a798"), looks := true }, kinds := [], alts := [], laidByText := true, laidKinds := [.handle], laidTests := true, laidLooks := .later }
def TcpTellsCardSaid : Prop := Claim7.holds Tryd.pinned (.plain (OpenSpec.ofChange tcpTellsSpec)) tcpTellsCard

/-- THE TIED CARD OF 'stockadelaw08.TcpBack'. -/
def tcpBackCard : Claim7 := { stood := { row := tcpBackRow, standIns := [], harness := (true, "c8e826a67e1d2a6cd7b0c3c442349deb251b52b4962fbf73fae3e962f3e5a798"), looks := true }, kinds := [], alts := [], laidByText := true, laidKinds := [.handle], laidTests := true, laidLooks := .later }
def TcpBackCardSaid : Prop := Claim7.holds Tryd.pinned (.plain (OpenSpec.ofChange tcpBackSpec)) tcpBackCard

/-- THE TIED CARD OF 'stockadelaw08.TcpHeads'. -/
def tcpHeadsCard : Claim7 := { stood := { row := tcpHeadsRow, standIns := [], harness := (true, "c8e826a67e1d2a6cd7b0c3c442349deb251b52b4962fbf73fae3e962f3e5a798"), looks := true }, kinds := [], alts := [], laidByText := true, laidKinds := [.handle], laidTests := true, laidLooks := .later }
def TcpHeadsCardSaid : Prop := Claim7.holds Tryd.pinned (.plain (OpenSpec.ofChange tcpHeadsSpec)) tcpHeadsCard

/-- THE TIED CARD OF 'stockadelaw09.UdpTells'. -/
def udpTellsCard : Claim7 := { stood := { row := udpTellsRow, standIns := [], harness := (true, "c8e826a67e1d2a6cd7b0c3c442349deb251b52b4962fbf73fae3e962f3e5a798"), looks := true }, kinds := [], alts := [], laidByText := true, laidKinds := [.handle], laidTests := true, laidLooks := .later }
def UdpTellsCardSaid : Prop := Claim7.holds Tryd.pinned (.plain (OpenSpec.ofChange udpTellsSpec)) udpTellsCard

/-- THE TIED CARD OF 'stockadelaw09.UdpBack'. -/
def udpBackCard : Claim7 := { stood := { row := udpBackRow, standIns := [], harness := (true, "c8e826a67e1d2a6cd7b0c3c442349deb251b52b4962fbf73fae3e962f3e5a798"), looks := true }, kinds := [], alts := [], laidByText := true, laidKinds := [.handle], laidTests := true, laidLooks := .later }
def UdpBackCardSaid : Prop := Claim7.holds Tryd.pinned (.plain (OpenSpec.ofChange udpBackSpec)) udpBackCard

/-- THE TIED CARD OF 'stockadelaw09.UdpLengths'. -/
def udpLengthsCard : Claim7 := { stood := { row := udpLengthsRow, standIns := [], harness := (true, "c8e826a67e1d2a6cd7b0c3c442349deb251b52b4962fbf73fae3e962f3e5a798"), looks := true }, kinds := [], alts := [], laidByText := true, laidKinds := [.handle], laidTests := true, laidLooks := .later }
def UdpLengthsCardSaid : Prop := Claim7.holds Tryd.pinned (.plain (OpenSpec.ofChange udpLengthsSpec)) udpLengthsCard

/-- THE TIED CARD OF 'stockadelaw06.Ip4Tells'. -/
def ip4TellsCard : Claim7 := { stood := { row := ip4TellsRow, standIns := [], harness := (true, "c8e826a67e1d2a6cd7b0c3c442349deb251b52b4962fbf73fae3e962f3e5a798"), looks := true }, kinds := [], alts := [], laidByText := true, laidKinds := [.handle], laidTests := true, laidLooks := .later }
def Ip4TellsCardSaid : Prop := Claim7.holds Tryd.pinned (.plain (OpenSpec.ofChange ip4TellsSpec)) ip4TellsCard

/-- THE TIED CARD OF 'stockadelaw06.Ip4Back'. -/
def ip4BackCard : Claim7 := { stood := { row := ip4BackRow, standIns := [], harness := (true, "c8e826a67e1d2a6cd7b0c3c442349deb251b52b4962fbf73fae3e962f3e5a798"), looks := true }, kinds := [], alts := [], laidByText := true, laidKinds := [.handle], laidTests := true, laidLooks := .later }
def Ip4BackCardSaid : Prop := Claim7.holds Tryd.pinned (.plain (OpenSpec.ofChange ip4BackSpec)) ip4BackCard

/-- THE TIED CARD OF 'stockadelaw06.Ip4Spoilt'. -/
def ip4SpoiltCard : Claim7 := { stood := { row := ip4SpoiltRow, standIns := [], harness := (true, "c8e826a67e1d2a6cd7b0c3c442349deb251b52b4962fbf73fae3e962f3e5a798"), looks := true }, kinds := [], alts := [], laidByText := true, laidKinds := [.handle], laidTests := true, laidLooks := .later }
def Ip4SpoiltCardSaid : Prop := Claim7.holds Tryd.pinned (.plain (OpenSpec.ofChange ip4SpoiltSpec)) ip4SpoiltCard

/-- THE TIED CARD OF 'stockadelaw06.Ip4Refuses'. -/
def ip4RefusesCard : Claim7 := { stood := { row := ip4RefusesRow, standIns := [], harness := (true, "c8e826a67e1d2a6cd7b0c3c442349deb251b52b4962fbf73fae3e962f3e5a798"), looks := true }, kinds := [], alts := [], laidByText := true, laidKinds := [.handle], laidTests := true, laidLooks := .later }
def Ip4RefusesCardSaid : Prop := Claim7.holds Tryd.pinned (.plain (OpenSpec.ofChange ip4RefusesSpec)) ip4RefusesCard

/-- THE SECOND FORM's CARD OF 'stockadelaw08.TcpTells'. -/
def tcpTellsUptoCard : Claim7 := { stood := { row := tcpTellsUptoRow, standIns := [], harness := (true, "c8e826a67e1d2a6cd7b0c3c442349deb251b52b4962fbf73fae3e962f3e5a798"), looks := true }, kinds := [], alts := [], laidByText := true, laidKinds := [.handle], laidTests := true, laidLooks := .later }
def TcpTellsUptoCardSaid : Prop := Claim7.holds Tryd.pinned (.plain (OpenSpec.upto tcpTellsSpec)) tcpTellsUptoCard

/-- THE SECOND FORM's CARD OF 'stockadelaw08.TcpBack'. -/
def tcpBackUptoCard : Claim7 := { stood := { row := tcpBackUptoRow, standIns := [], harness := (true, "c8e826a67e1d2a6cd7b0c3c442349deb251b52b4962fbf73fae3e962f3e5a798"), looks := true }, kinds := [], alts := [], laidByText := true, laidKinds := [.handle], laidTests := true, laidLooks := .later }
def TcpBackUptoCardSaid : Prop := Claim7.holds Tryd.pinned (.plain (OpenSpec.upto tcpBackSpec)) tcpBackUptoCard

/-- THE SECOND FORM's CARD OF 'stockadelaw08.TcpHeads'. -/
def tcpHeadsUptoCard : Claim7 := { stood := { row := tcpHeadsUptoRow, standIns := [], harness := (true, "c8e826a67e1d2a6cd7b0c3c442349deb251b52b4962fbf73fae3e962f3e5a798"), looks := true }, kinds := [], alts := [], laidByText := true, laidKinds := [.handle], laidTests := true, laidLooks := .later }
def TcpHeadsUptoCardSaid : Prop := Claim7.holds Tryd.pinned (.plain (OpenSpec.upto tcpHeadsSpec)) tcpHeadsUptoCard

/-- THE SECOND FORM's CARD OF 'stockadelaw09.UdpTells'. -/
def udpTellsUptoCard : Claim7 := { stood := { row := udpTellsUptoRow, standIns := [], harness := (true, "c8e826a67e1d2a6cd7b0c3c442349deb251b52b4962fbf73fae3e962f3e5a798"), looks := true }, kinds := [], alts := [], laidByText := true, laidKinds := [.handle], laidTests := true, laidLooks := .later }
def UdpTellsUptoCardSaid : Prop := Claim7.holds Tryd.pinned (.plain (OpenSpec.upto udpTellsSpec)) udpTellsUptoCard

/-- THE SECOND FORM's CARD OF 'stockadelaw09.UdpBack'. -/
def udpBackUptoCard : Claim7 := { stood := { row := udpBackUptoRow, standIns := [], harness := (true, "c8e826a67e1d2a6cd7b0c3c442349deb251b52b4962fbf73fae3e962f3e5a798"), looks := true }, kinds := [], alts := [], laidByText := true, laidKinds := [.handle], laidTests := true, laidLooks := .later }
def UdpBackUptoCardSaid : Prop := Claim7.holds Tryd.pinned (.plain (OpenSpec.upto udpBackSpec)) udpBackUptoCard

/-- THE SECOND FORM's CARD OF 'stockadelaw09.UdpLengths'. -/
def udpLengthsUptoCard : Claim7 := { stood := { row := udpLengthsUptoRow, standIns := [], harness := (true, "c8e826a67e1d2a6cd7b0c3c442349deb251b52b4962fbf73fae3e962f3e5a798"), looks := true }, kinds := [], alts := [], laidByText := true, laidKinds := [.handle], laidTests := true, laidLooks := .later }
def UdpLengthsUptoCardSaid : Prop := Claim7.holds Tryd.pinned (.plain (OpenSpec.upto udpLengthsSpec)) udpLengthsUptoCard

/-- THE SECOND FORM's CARD OF 'stockadelaw06.Ip4Tells'. -/
def ip4TellsUptoCard : Claim7 := { stood := { row := ip4TellsUptoRow, standIns := [], harness := (true, "c8e826a67e1d2a6cd7b0c3c442349deb251b52b4962fbf73fae3e962f3e5a798"), looks := true }, kinds := [], alts := [], laidByText := true, laidKinds := [.handle], laidTests := true, laidLooks := .later }
def Ip4TellsUptoCardSaid : Prop := Claim7.holds Tryd.pinned (.plain (OpenSpec.upto ip4TellsSpec)) ip4TellsUptoCard

/-- THE SECOND FORM's CARD OF 'stockadelaw06.Ip4Back'. -/
def ip4BackUptoCard : Claim7 := { stood := { row := ip4BackUptoRow, standIns := [], harness := (true, "c8e826a67e1d2a6cd7b0c3c442349deb251b52b4962fbf73fae3e962f3e5a798"), looks := true }, kinds := [], alts := [], laidByText := true, laidKinds := [.handle], laidTests := true, laidLooks := .later }
def Ip4BackUptoCardSaid : Prop := Claim7.holds Tryd.pinned (.plain (OpenSpec.upto ip4BackSpec)) ip4BackUptoCard

/-- THE SECOND FORM's CARD OF 'stockadelaw06.Ip4Spoilt'. -/
def ip4SpoiltUptoCard : Claim7 := { stood := { row := ip4SpoiltUptoRow, standIns := [], harness := (true, "c8e826a67e1d2a6cd7b0c3c442349deb251b52b4962fbf73fae3e962f3e5a798"), looks := true }, kinds := [], alts := [], laidByText := true, laidKinds := [.handle], laidTests := true, laidLooks := .later }
def Ip4SpoiltUptoCardSaid : Prop := Claim7.holds Tryd.pinned (.plain (OpenSpec.upto ip4SpoiltSpec)) ip4SpoiltUptoCard

/-- THE SECOND FORM's CARD OF 'stockadelaw06.Ip4Refuses'. -/
def ip4RefusesUptoCard : Claim7 := { stood := { row := ip4RefusesUptoRow, standIns := [], harness := (true, "c8e826a67e1d2a6cd7b0c3c442349deb251b52b4962fbf73fae3e962f3e5a798"), looks := true }, kinds := [], alts := [], laidByText := true, laidKinds := [.handle], laidTests := true, laidLooks := .later }
def Ip4RefusesUptoCardSaid : Prop := Claim7.holds Tryd.pinned (.plain (OpenSpec.upto ip4RefusesSpec)) ip4RefusesUptoCard
end Rows
end Go.Proofs.YtfgmhacigapbgaaDoor
