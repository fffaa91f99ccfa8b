/-
  DERIVED. GIVEN WITH THE SEED: THE CARDS: each row of YtcllkocndcfgnaaDoorRows.lean that lists a variable, with what it lists TIED to the program's text (the seventh form; the later family's looks); each row that meets fmt, with fmt's text TOLD by the authors' own Lean function (tested against real Go, not proved from fmt's source: count such statements apart). THE CARD IS WHAT COUNTS. Prove the row's statement (the work); the ties are given (YtcllkocndcfgnaaDoorTie.lean); close each card by the builder's one call (the guide's Derived/Test/ToyasCard.lean, 'card_holds'). Laid BY PROGRAM, IN A SANDBOX (cutbox-door.mjs). By AI agents, Wed Nov 11 2026. No macro, syntax, notation, axiom, sorry.
-/
import Derived.Test.YtcllkocndcfgnaaDoorRows
import GoSem.ClaimSeven
namespace Go.Proofs.YtcllkocndcfgnaaDoor
namespace Rows

/-- THE TIED CARD OF 'stockadelaw07.Ip6Tells'. -/
def ip6TellsCard : Claim7 := { stood := { row := ip6TellsRow, standIns := [], harness := (true, "5b03f4d76696e3e9a6d16979b5fbf2b47d447c16a631bc847e0f8b50283573a7"), looks := true }, kinds := [], alts := [], laidByText := true, laidKinds := [.handle], laidTests := true, laidLooks := .later }
def Ip6TellsCardSaid : Prop := Claim7.holds Tryd.pinned (.plain (OpenSpec.ofChange ip6TellsSpec)) ip6TellsCard

/-- THE TIED CARD OF 'stockadelaw07.Ip6Back'. -/
def ip6BackCard : Claim7 := { stood := { row := ip6BackRow, standIns := [], harness := (true, "5b03f4d76696e3e9a6d16979b5fbf2b47d447c16a631bc847e0f8b50283573a7"), looks := true }, kinds := [], alts := [], laidByText := true, laidKinds := [.handle], laidTests := true, laidLooks := .later }
def Ip6BackCardSaid : Prop := Claim7.holds Tryd.pinned (.plain (OpenSpec.ofChange ip6BackSpec)) ip6BackCard

/-- THE TIED CARD OF 'stockadelaw07.Ip6Heads'. -/
def ip6HeadsCard : Claim7 := { stood := { row := ip6HeadsRow, standIns := [], harness := (true, "5b03f4d76696e3e9a6d16979b5fbf2b47d447c16a631bc847e0f8b50283573a7"), looks := true }, kinds := [], alts := [], laidByText := true, laidKinds := [.handle], laidTests := true, laidLooks := .later }
def Ip6HeadsCardSaid : Prop := Claim7.holds Tryd.pinned (.plain (OpenSpec.ofChange ip6HeadsSpec)) ip6HeadsCard

/-- THE TIED CARD OF 'stockadelaw07.Ip6Refuses'. -/
def ip6RefusesCard : Claim7 := { stood := { row := ip6RefusesRow, standIns := [], harness := (true, "5b03f4d76696e3e9a6d16979b5fbf2b47d447c16a631bc847e0f8b50283573a7"), looks := true }, kinds := [], alts := [], laidByText := true, laidKinds := [.handle], laidTests := true, laidLooks := .later }
def Ip6RefusesCardSaid : Prop := Claim7.holds Tryd.pinned (.plain (OpenSpec.ofChange ip6RefusesSpec)) ip6RefusesCard

/-- THE TIED CARD OF 'stockadelaw10.IcmpTells'. -/
def icmpTellsCard : Claim7 := { stood := { row := icmpTellsRow, standIns := [], harness := (true, "5b03f4d76696e3e9a6d16979b5fbf2b47d447c16a631bc847e0f8b50283573a7"), looks := true }, kinds := [], alts := [], laidByText := true, laidKinds := [.handle], laidTests := true, laidLooks := .later }
def IcmpTellsCardSaid : Prop := Claim7.holds Tryd.pinned (.plain (OpenSpec.ofChange icmpTellsSpec)) icmpTellsCard

/-- THE TIED CARD OF 'stockadelaw10.IcmpBack'. -/
def icmpBackCard : Claim7 := { stood := { row := icmpBackRow, standIns := [], harness := (true, "5b03f4d76696e3e9a6d16979b5fbf2b47d447c16a631bc847e0f8b50283573a7"), looks := true }, kinds := [], alts := [], laidByText := true, laidKinds := [.handle], laidTests := true, laidLooks := .later }
def IcmpBackCardSaid : Prop := Claim7.holds Tryd.pinned (.plain (OpenSpec.ofChange icmpBackSpec)) icmpBackCard

/-- THE TIED CARD OF 'stockadelaw10.IcmpInner'. -/
def icmpInnerCard : Claim7 := { stood := { row := icmpInnerRow, standIns := [], harness := (true, "5b03f4d76696e3e9a6d16979b5fbf2b47d447c16a631bc847e0f8b50283573a7"), looks := true }, kinds := [], alts := [], laidByText := true, laidKinds := [.handle], laidTests := true, laidLooks := .later }
def IcmpInnerCardSaid : Prop := Claim7.holds Tryd.pinned (.plain (OpenSpec.ofChange icmpInnerSpec)) icmpInnerCard

/-- THE TIED CARD OF 'stockadelaw10.IcmpRefuses'. -/
def icmpRefusesCard : Claim7 := { stood := { row := icmpRefusesRow, standIns := [], harness := (true, "5b03f4d76696e3e9a6d16979b5fbf2b47d447c16a631bc847e0f8b50283573a7"), looks := true }, kinds := [], alts := [], laidByText := true, laidKinds := [.handle], laidTests := true, laidLooks := .later }
def IcmpRefusesCardSaid : Prop := Claim7.holds Tryd.pinned (.plain (OpenSpec.ofChange icmpRefusesSpec)) icmpRefusesCard

/-- THE SECOND FORM's CARD OF 'stockadelaw07.Ip6Tells'. -/
def ip6TellsUptoCard : Claim7 := { stood := { row := ip6TellsUptoRow, standIns := [], harness := (true, "5b03f4d76696e3e9a6d16979b5fbf2b47d447c16a631bc847e0f8b50283573a7"), looks := true }, kinds := [], alts := [], laidByText := true, laidKinds := [.handle], laidTests := true, laidLooks := .later }
def Ip6TellsUptoCardSaid : Prop := Claim7.holds Tryd.pinned (.plain (OpenSpec.upto ip6TellsSpec)) ip6TellsUptoCard

/-- THE SECOND FORM's CARD OF 'stockadelaw07.Ip6Back'. -/
def ip6BackUptoCard : Claim7 := { stood := { row := ip6BackUptoRow, standIns := [], harness := (true, "5b03f4d76696e3e9a6d16979b5fbf2b47d447c16a631bc847e0f8b50283573a7"), looks := true }, kinds := [], alts := [], laidByText := true, laidKinds := [.handle], laidTests := true, laidLooks := .later }
def Ip6BackUptoCardSaid : Prop := Claim7.holds Tryd.pinned (.plain (OpenSpec.upto ip6BackSpec)) ip6BackUptoCard

/-- THE SECOND FORM's CARD OF 'stockadelaw07.Ip6Heads'. -/
def ip6HeadsUptoCard : Claim7 := { stood := { row := ip6HeadsUptoRow, standIns := [], harness := (true, "5b03f4d76696e3e9a6d16979b5fbf2b47d447c16a631bc847e0f8b50283573a7"), looks := true }, kinds := [], alts := [], laidByText := true, laidKinds := [.handle], laidTests := true, laidLooks := .later }
def Ip6HeadsUptoCardSaid : Prop := Claim7.holds Tryd.pinned (.plain (OpenSpec.upto ip6HeadsSpec)) ip6HeadsUptoCard

/-- THE SECOND FORM's CARD OF 'stockadelaw07.Ip6Refuses'. -/
def ip6RefusesUptoCard : Claim7 := { stood := { row := ip6RefusesUptoRow, standIns := [], harness := (true, "5b03f4d76696e3e9a6d16979b5fbf2b47d447c16a631bc847e0f8b50283573a7"), looks := true }, kinds := [], alts := [], laidByText := true, laidKinds := [.handle], laidTests := true, laidLooks := .later }
def Ip6RefusesUptoCardSaid : Prop := Claim7.holds Tryd.pinned (.plain (OpenSpec.upto ip6RefusesSpec)) ip6RefusesUptoCard

/-- THE SECOND FORM's CARD OF 'stockadelaw10.IcmpTells'. -/
def icmpTellsUptoCard : Claim7 := { stood := { row := icmpTellsUptoRow, standIns := [], harness := (true, "5b03f4d76696e3e9a6d16979b5fbf2b47d447c16a631bc847e0f8b50283573a7"), looks := true }, kinds := [], alts := [], laidByText := true, laidKinds := [.handle], laidTests := true, laidLooks := .later }
def IcmpTellsUptoCardSaid : Prop := Claim7.holds Tryd.pinned (.plain (OpenSpec.upto icmpTellsSpec)) icmpTellsUptoCard

/-- THE SECOND FORM's CARD OF 'stockadelaw10.IcmpBack'. -/
def icmpBackUptoCard : Claim7 := { stood := { row := icmpBackUptoRow, standIns := [], harness := (true, "5b03f4d76696e3e9a6d16979b5fbf2b47d447c16a631bc847e0f8b50283573a7"), looks := true }, kinds := [], alts := [], laidByText := true, laidKinds := [.handle], laidTests := true, laidLooks := .later }
def IcmpBackUptoCardSaid : Prop := Claim7.holds Tryd.pinned (.plain (OpenSpec.upto icmpBackSpec)) icmpBackUptoCard

/-- THE SECOND FORM's CARD OF 'stockadelaw10.IcmpInner'. -/
def icmpInnerUptoCard : Claim7 := { stood := { row := icmpInnerUptoRow, standIns := [], harness := (true, "5b03f4d76696e3e9a6d16979b5fbf2b47d447c16a631bc847e0f8b50283573a7"), looks := true }, kinds := [], alts := [], laidByText := true, laidKinds := [.handle], laidTests := true, laidLooks := .later }
def IcmpInnerUptoCardSaid : Prop := Claim7.holds Tryd.pinned (.plain (OpenSpec.upto icmpInnerSpec)) icmpInnerUptoCard

/-- THE SECOND FORM's CARD OF 'stockadelaw10.IcmpRefuses'. -/
def icmpRefusesUptoCard : Claim7 := { stood := { row := icmpRefusesUptoRow, standIns := [], harness := (true, "5b03f4d76696e3e9a6d16979b5fbf2b47d447c16a631bc847e0f8b50283573a7"), looks := true }, kinds := [], alts := [], laidByText := true, laidKinds := [.handle], laidTests := true, laidLooks := .later }
def IcmpRefusesUptoCardSaid : Prop := Claim7.holds Tryd.pinned (.plain (OpenSpec.upto icmpRefusesSpec)) icmpRefusesUptoCard
end Rows
end Go.Proofs.YtcllkocndcfgnaaDoor
