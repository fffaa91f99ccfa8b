/-
  DERIVED. GIVEN WITH THE SEED: THE CARDS: each row of YtonhgckaaangoaaDoorRows.lean that lists a variable, with what it lists TIED to the program's text (the seventh form; the later family's looks); each row that meets fmt, with fmt's text TOLD by the authors' own Lean function (tested against real Go, not proved from fmt's source: count such statements apart). THE CARD IS WHAT COUNTS. Prove the row's statement (the work); the ties are given (YtonhgckaaangoaaDoorTie.lean); close each card by the builder's one call (the guide's Derived/Test/ToyasCard.lean, 'card_holds'). Laid BY PROGRAM, IN A SANDBOX (cutbox-door.mjs). By AI agents, Wed Nov 11 2026. No macro, syntax, notation, axiom, sorry.
-/
import Derived.Test.YtonhgckaaangoaaDoorRows
import GoSem.ClaimSeven
namespace Go.Proofs.YtonhgckaaangoaaDoor
namespace Rows

/-- THE TIED CARD OF 'stockadelaw10.IcmpTells'. -/
def icmpTellsCard : Claim7 := { stood := { row := icmpTellsRow, standIns := [], harness := (true, "ed8f0aae4c5e5e5b01b1531f2cfe32862c286a204478668ec2622bb3fa05a954"), looks := true }, kinds := [], alts := [], laidByText := true, laidKinds := [.handle], laidTests := true, laidLooks := .later }
def IcmpTellsCardSaid : Prop := Claim7.holds Tryd.pinned (.plain (OpenSpec.ofChange icmpTellsSpec)) icmpTellsCard

/-- THE SECOND FORM's CARD OF 'stockadelaw10.IcmpTells'. -/
def icmpTellsUptoCard : Claim7 := { stood := { row := icmpTellsUptoRow, standIns := [], harness := (true, "ed8f0aae4c5e5e5b01b1531f2cfe32862c286a204478668ec2622bb3fa05a954"), looks := true }, kinds := [], alts := [], laidByText := true, laidKinds := [.handle], laidTests := true, laidLooks := .later }
def IcmpTellsUptoCardSaid : Prop := Claim7.holds Tryd.pinned (.plain (OpenSpec.upto icmpTellsSpec)) icmpTellsUptoCard
end Rows
end Go.Proofs.YtonhgckaaangoaaDoor
