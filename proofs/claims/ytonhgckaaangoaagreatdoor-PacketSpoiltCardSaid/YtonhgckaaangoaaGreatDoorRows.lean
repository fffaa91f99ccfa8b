/-
  NARROWER THAN 'FOR EVERY INPUT', by the rows' own cells (each row's printed sentence says how): PacketTells: laid · PacketBack: laid · PacketSpoilt: laid · PacketPlaces: laid · PacketElse: laid · PacketTags: laid.
  DERIVED. THE GIVEN ROWS OF THIS SEAT. 6 by the template 'for every input the law returns true; each argument reads behind the call as it read before'; 0 by the template 'total and deterministic' (their statements: YtonhgckaaangoaaGreatDoorTotals.lean).
  GIVEN WITH THE SEED: the statements are not yours to turn. If you find one false, say at which input.
  Laid BY PROGRAM, IN A SANDBOX (cutbox-rows.mjs): the forced cells as the released guide's own fill.sh prints them over the translation bec4d0677d921b84… (all of the seat's roots in one cut). By AI agents, Wed Nov 11 2026. No macro, syntax, notation, axiom, sorry.
-/
import Derived.Test.YtonhgckaaangoaaGreatDoorChecked
import GoSem.Claim
import GoSem.ClaimJoined
import GoSem.ClaimMapViews
import Derived.JoinedTies
import Derived.KernelRfl
namespace Go.Proofs.YtonhgckaaangoaaGreatDoor
/- THE CELL 'sum', in the pinned program and in every row, IS THE sha256 OF THE DUMP (.gsa) THAT YtonhgckaaangoaaGreatDoorProg.lean LOADS. Nothing in Lean hashes anything: it is a label: what it is worth is what the hold of that sum in a sandbox is worth. -/
noncomputable def Tryz.pinned : Pinned := { name := "ytonhgckaaangoaagreatdoor", sum := "bec4d0677d921b8408973dd498e64c382794a4dccbf16af51a95eeda247092d2", checked := Tryz.checked }
namespace Rows
def none {H : Type} : Left H := { results := [], args := [] }

/- WHAT THE LISTED PACKAGE-LEVEL VARIABLES READ AS WHEN THE CALL BEGINS. Each datum BY PROGRAM (the guide's laid-datum.mjs) off the statement by which the dump's own 'gosem.cut.vars' lays the variable. In a bare row this is a premise. The card (YtonhgckaaangoaaGreatDoorCards.lean) ties it to the program's text. -/
def laid_errors_errorType {H : Type} : DataW H := .iface "internal/reflectlite.rtype" (.agg [.ptr (.lit (.string [101, 114, 114, 111, 114]))])

/-- 'stockadelaw11.PacketTells': WHATEVER THE INPUT: true; the input reads as it did. -/
def packetTellsSpec : ChangeSpec := { name := "packetTells", fn := fun _ => fun
  | [d1, d2] => { results := [.lit (.bool true)], args := [d1, d2] }
  | _ => none }
def packetTellsRow : OpenClaim := { program := "ytonhgckaaangoaagreatdoor", sum := "bec4d0677d921b8408973dd498e64c382794a4dccbf16af51a95eeda247092d2", func := "stockade/stockadelaw11.PacketTells", spec := "packetTells", inPlace := ["internal/reflectlite.TypeOf", "internal/reflectlite.ValueOf", "(internal/reflectlite.Value).Type", "(internal/reflectlite.Value).IsNil", "(internal/reflectlite.Value).Elem", "(internal/reflectlite.Value).Set"], unfollowed := true, recurses := true, named := ["errors.errorType"], apart := false, laid := [("errors.errorType", laid_errors_errorType)] }
def PacketTellsSaid : Prop := packetTellsRow.holds Tryz.pinned (OpenSpec.ofChange packetTellsSpec)

/-- ITS FALSE NEIGHBOUR: 'it returns false'. Refute it at one input. -/
def packetTellsWrong : ChangeSpec := { name := "packetTells", fn := fun _ => fun
  | [d1, d2] => { results := [.lit (.bool false)], args := [d1, d2] }
  | _ => none }
def PacketTellsWrongFalsely : Prop := packetTellsRow.holds Tryz.pinned (OpenSpec.ofChange packetTellsWrong)

/-- 'stockadelaw11.PacketBack': WHATEVER THE INPUT: true; the input reads as it did. -/
def packetBackSpec : ChangeSpec := { name := "packetBack", fn := fun _ => fun
  | [d1, d2, d3] => { results := [.lit (.bool true)], args := [d1, d2, d3] }
  | _ => none }
def packetBackRow : OpenClaim := { program := "ytonhgckaaangoaagreatdoor", sum := "bec4d0677d921b8408973dd498e64c382794a4dccbf16af51a95eeda247092d2", func := "stockade/stockadelaw11.PacketBack", spec := "packetBack", inPlace := ["internal/reflectlite.TypeOf", "internal/reflectlite.ValueOf", "(internal/reflectlite.Value).Type", "(internal/reflectlite.Value).IsNil", "(internal/reflectlite.Value).Elem", "(internal/reflectlite.Value).Set"], unfollowed := true, recurses := true, named := ["errors.errorType"], apart := false, laid := [("errors.errorType", laid_errors_errorType)] }
def PacketBackSaid : Prop := packetBackRow.holds Tryz.pinned (OpenSpec.ofChange packetBackSpec)

/-- ITS FALSE NEIGHBOUR: 'it returns false'. Refute it at one input. -/
def packetBackWrong : ChangeSpec := { name := "packetBack", fn := fun _ => fun
  | [d1, d2, d3] => { results := [.lit (.bool false)], args := [d1, d2, d3] }
  | _ => none }
def PacketBackWrongFalsely : Prop := packetBackRow.holds Tryz.pinned (OpenSpec.ofChange packetBackWrong)

/-- 'stockadelaw11.PacketSpoilt': WHATEVER THE INPUT: true; the input reads as it did. -/
def packetSpoiltSpec : ChangeSpec := { name := "packetSpoilt", fn := fun _ => fun
  | [d1, d2, d3, d4, d5] => { results := [.lit (.bool true)], args := [d1, d2, d3, d4, d5] }
  | _ => none }
def packetSpoiltRow : OpenClaim := { program := "ytonhgckaaangoaagreatdoor", sum := "bec4d0677d921b8408973dd498e64c382794a4dccbf16af51a95eeda247092d2", func := "stockade/stockadelaw11.PacketSpoilt", spec := "packetSpoilt", inPlace := ["internal/reflectlite.TypeOf", "internal/reflectlite.ValueOf", "(internal/reflectlite.Value).Type", "(internal/reflectlite.Value).IsNil", "(internal/reflectlite.Value).Elem", "(internal/reflectlite.Value).Set"], unfollowed := true, recurses := true, named := ["errors.errorType"], apart := false, laid := [("errors.errorType", laid_errors_errorType)] }
def PacketSpoiltSaid : Prop := packetSpoiltRow.holds Tryz.pinned (OpenSpec.ofChange packetSpoiltSpec)

/-- ITS FALSE NEIGHBOUR: 'it returns false'. Refute it at one input. -/
def packetSpoiltWrong : ChangeSpec := { name := "packetSpoilt", fn := fun _ => fun
  | [d1, d2, d3, d4, d5] => { results := [.lit (.bool false)], args := [d1, d2, d3, d4, d5] }
  | _ => none }
def PacketSpoiltWrongFalsely : Prop := packetSpoiltRow.holds Tryz.pinned (OpenSpec.ofChange packetSpoiltWrong)

/-- 'stockadelaw11.PacketPlaces': WHATEVER THE INPUT: true; the input reads as it did. -/
def packetPlacesSpec : ChangeSpec := { name := "packetPlaces", fn := fun _ => fun
  | [d1, d2, d3] => { results := [.lit (.bool true)], args := [d1, d2, d3] }
  | _ => none }
def packetPlacesRow : OpenClaim := { program := "ytonhgckaaangoaagreatdoor", sum := "bec4d0677d921b8408973dd498e64c382794a4dccbf16af51a95eeda247092d2", func := "stockade/stockadelaw11.PacketPlaces", spec := "packetPlaces", inPlace := ["internal/reflectlite.TypeOf", "internal/reflectlite.ValueOf", "(internal/reflectlite.Value).Type", "(internal/reflectlite.Value).IsNil", "(internal/reflectlite.Value).Elem", "(internal/reflectlite.Value).Set"], unfollowed := true, recurses := true, named := ["errors.errorType"], apart := false, laid := [("errors.errorType", laid_errors_errorType)] }
def PacketPlacesSaid : Prop := packetPlacesRow.holds Tryz.pinned (OpenSpec.ofChange packetPlacesSpec)

/-- ITS FALSE NEIGHBOUR: 'it returns false'. Refute it at one input. -/
def packetPlacesWrong : ChangeSpec := { name := "packetPlaces", fn := fun _ => fun
  | [d1, d2, d3] => { results := [.lit (.bool false)], args := [d1, d2, d3] }
  | _ => none }
def PacketPlacesWrongFalsely : Prop := packetPlacesRow.holds Tryz.pinned (OpenSpec.ofChange packetPlacesWrong)

/-- 'stockadelaw11.PacketElse': WHATEVER THE INPUT: true; the input reads as it did. -/
def packetElseSpec : ChangeSpec := { name := "packetElse", fn := fun _ => fun
  | [d1, d2, d3, d4] => { results := [.lit (.bool true)], args := [d1, d2, d3, d4] }
  | _ => none }
def packetElseRow : OpenClaim := { program := "ytonhgckaaangoaagreatdoor", sum := "bec4d0677d921b8408973dd498e64c382794a4dccbf16af51a95eeda247092d2", func := "stockade/stockadelaw11.PacketElse", spec := "packetElse", inPlace := ["internal/reflectlite.TypeOf", "internal/reflectlite.ValueOf", "(internal/reflectlite.Value).Type", "(internal/reflectlite.Value).IsNil", "(internal/reflectlite.Value).Elem", "(internal/reflectlite.Value).Set"], unfollowed := true, recurses := true, named := ["errors.errorType"], apart := false, laid := [("errors.errorType", laid_errors_errorType)] }
def PacketElseSaid : Prop := packetElseRow.holds Tryz.pinned (OpenSpec.ofChange packetElseSpec)

/-- ITS FALSE NEIGHBOUR: 'it returns false'. Refute it at one input. -/
def packetElseWrong : ChangeSpec := { name := "packetElse", fn := fun _ => fun
  | [d1, d2, d3, d4] => { results := [.lit (.bool false)], args := [d1, d2, d3, d4] }
  | _ => none }
def PacketElseWrongFalsely : Prop := packetElseRow.holds Tryz.pinned (OpenSpec.ofChange packetElseWrong)

/-- 'stockadelaw11.PacketTags': WHATEVER THE INPUT: true; the input reads as it did. -/
def packetTagsSpec : ChangeSpec := { name := "packetTags", fn := fun _ => fun
  | [d1, d2, d3, d4] => { results := [.lit (.bool true)], args := [d1, d2, d3, d4] }
  | _ => none }
def packetTagsRow : OpenClaim := { program := "ytonhgckaaangoaagreatdoor", sum := "bec4d0677d921b8408973dd498e64c382794a4dccbf16af51a95eeda247092d2", func := "stockade/stockadelaw11.PacketTags", spec := "packetTags", inPlace := ["internal/reflectlite.TypeOf", "internal/reflectlite.ValueOf", "(internal/reflectlite.Value).Type", "(internal/reflectlite.Value).IsNil", "(internal/reflectlite.Value).Elem", "(internal/reflectlite.Value).Set"], unfollowed := true, recurses := true, named := ["errors.errorType"], apart := false, laid := [("errors.errorType", laid_errors_errorType)] }
def PacketTagsSaid : Prop := packetTagsRow.holds Tryz.pinned (OpenSpec.ofChange packetTagsSpec)

/-- ITS FALSE NEIGHBOUR: 'it returns false'. Refute it at one input. -/
def packetTagsWrong : ChangeSpec := { name := "packetTags", fn := fun _ => fun
  | [d1, d2, d3, d4] => { results := [.lit (.bool false)], args := [d1, d2, d3, d4] }
  | _ => none }
def PacketTagsWrongFalsely : Prop := packetTagsRow.holds Tryz.pinned (OpenSpec.ofChange packetTagsWrong)

/- THE SECOND FORM. 'bulk': how many values and letters a reading holds, each counted each time it is reached (what is shared counts as often as it is met; a slice's spare places count too). A statement '..UptoSaid' is the law's where the arguments, and the package variables that the reading takes, are together of bulk at most 1048576: NARROWER than '..Said'. Prove '..Said' where nothing that the law and all that it calls make is longer than what came in: it says more and counts as full. Else prove '..UptoSaid'. A law counts once. -/
mutual
def uptoBulk {H : Type} : DataW H → Nat
  | .lit (.string bytes) => bytes.length + 1
  | .lit _ => 1
  | .nil => 1
  | .ptr d => uptoBulk d + 1
  | .slice elems spare => uptoBulkAll elems + uptoBulkAll spare + 1
  | .agg parts => uptoBulkAll parts + 1
  | .iface _ d => uptoBulk d + 1
  | .map entries => uptoBulkEntries entries + 1
  | .held _ => 1
def uptoBulkAll {H : Type} : List (DataW H) → Nat
  | [] => 0
  | d :: r => uptoBulk d + uptoBulkAll r
def uptoBulkEntries {H : Type} : List (Lit × DataW H) → Nat
  | [] => 0
  | x :: r => uptoBulkEntry x + uptoBulkEntries r
def uptoBulkEntry {H : Type} : Lit × DataW H → Nat
  | (.string bytes, d) => bytes.length + uptoBulk d + 1
  | (_, d) => uptoBulk d + 1
 end
def uptoSmall : (H : Type) → List (DataW H) → Bool := fun _ ds => decide (uptoBulkAll ds ≤ 1048576)
def OpenSpec.upto (s : _root_.Go.ChangeSpec) : _root_.Go.OpenSpec := { _root_.Go.OpenSpec.ofChange s with cond := some uptoSmall }

/-- 'stockadelaw11.PacketTells', WHERE WHAT IT READS IS OF BULK AT MOST 1048576: true; the input reads as it did. -/
def packetTellsUptoRow : OpenClaim := { program := "ytonhgckaaangoaagreatdoor", sum := "bec4d0677d921b8408973dd498e64c382794a4dccbf16af51a95eeda247092d2", func := "stockade/stockadelaw11.PacketTells", spec := "packetTells", inPlace := ["internal/reflectlite.TypeOf", "internal/reflectlite.ValueOf", "(internal/reflectlite.Value).Type", "(internal/reflectlite.Value).IsNil", "(internal/reflectlite.Value).Elem", "(internal/reflectlite.Value).Set"], unfollowed := true, recurses := true, named := ["errors.errorType"], apart := false, laid := [("errors.errorType", laid_errors_errorType)], narrowed := true }
def PacketTellsUptoSaid : Prop := packetTellsUptoRow.holds Tryz.pinned (OpenSpec.upto packetTellsSpec)

/-- 'stockadelaw11.PacketBack', WHERE WHAT IT READS IS OF BULK AT MOST 1048576: true; the input reads as it did. -/
def packetBackUptoRow : OpenClaim := { program := "ytonhgckaaangoaagreatdoor", sum := "bec4d0677d921b8408973dd498e64c382794a4dccbf16af51a95eeda247092d2", func := "stockade/stockadelaw11.PacketBack", spec := "packetBack", inPlace := ["internal/reflectlite.TypeOf", "internal/reflectlite.ValueOf", "(internal/reflectlite.Value).Type", "(internal/reflectlite.Value).IsNil", "(internal/reflectlite.Value).Elem", "(internal/reflectlite.Value).Set"], unfollowed := true, recurses := true, named := ["errors.errorType"], apart := false, laid := [("errors.errorType", laid_errors_errorType)], narrowed := true }
def PacketBackUptoSaid : Prop := packetBackUptoRow.holds Tryz.pinned (OpenSpec.upto packetBackSpec)

/-- 'stockadelaw11.PacketSpoilt', WHERE WHAT IT READS IS OF BULK AT MOST 1048576: true; the input reads as it did. -/
def packetSpoiltUptoRow : OpenClaim := { program := "ytonhgckaaangoaagreatdoor", sum := "bec4d0677d921b8408973dd498e64c382794a4dccbf16af51a95eeda247092d2", func := "stockade/stockadelaw11.PacketSpoilt", spec := "packetSpoilt", inPlace := ["internal/reflectlite.TypeOf", "internal/reflectlite.ValueOf", "(internal/reflectlite.Value).Type", "(internal/reflectlite.Value).IsNil", "(internal/reflectlite.Value).Elem", "(internal/reflectlite.Value).Set"], unfollowed := true, recurses := true, named := ["errors.errorType"], apart := false, laid := [("errors.errorType", laid_errors_errorType)], narrowed := true }
def PacketSpoiltUptoSaid : Prop := packetSpoiltUptoRow.holds Tryz.pinned (OpenSpec.upto packetSpoiltSpec)

/-- 'stockadelaw11.PacketPlaces', WHERE WHAT IT READS IS OF BULK AT MOST 1048576: true; the input reads as it did. -/
def packetPlacesUptoRow : OpenClaim := { program := "ytonhgckaaangoaagreatdoor", sum := "bec4d0677d921b8408973dd498e64c382794a4dccbf16af51a95eeda247092d2", func := "stockade/stockadelaw11.PacketPlaces", spec := "packetPlaces", inPlace := ["internal/reflectlite.TypeOf", "internal/reflectlite.ValueOf", "(internal/reflectlite.Value).Type", "(internal/reflectlite.Value).IsNil", "(internal/reflectlite.Value).Elem", "(internal/reflectlite.Value).Set"], unfollowed := true, recurses := true, named := ["errors.errorType"], apart := false, laid := [("errors.errorType", laid_errors_errorType)], narrowed := true }
def PacketPlacesUptoSaid : Prop := packetPlacesUptoRow.holds Tryz.pinned (OpenSpec.upto packetPlacesSpec)

/-- 'stockadelaw11.PacketElse', WHERE WHAT IT READS IS OF BULK AT MOST 1048576: true; the input reads as it did. -/
def packetElseUptoRow : OpenClaim := { program := "ytonhgckaaangoaagreatdoor", sum := "bec4d0677d921b8408973dd498e64c382794a4dccbf16af51a95eeda247092d2", func := "stockade/stockadelaw11.PacketElse", spec := "packetElse", inPlace := ["internal/reflectlite.TypeOf", "internal/reflectlite.ValueOf", "(internal/reflectlite.Value).Type", "(internal/reflectlite.Value).IsNil", "(internal/reflectlite.Value).Elem", "(internal/reflectlite.Value).Set"], unfollowed := true, recurses := true, named := ["errors.errorType"], apart := false, laid := [("errors.errorType", laid_errors_errorType)], narrowed := true }
def PacketElseUptoSaid : Prop := packetElseUptoRow.holds Tryz.pinned (OpenSpec.upto packetElseSpec)

/-- 'stockadelaw11.PacketTags', WHERE WHAT IT READS IS OF BULK AT MOST 1048576: true; the input reads as it did. -/
def packetTagsUptoRow : OpenClaim := { program := "ytonhgckaaangoaagreatdoor", sum := "bec4d0677d921b8408973dd498e64c382794a4dccbf16af51a95eeda247092d2", func := "stockade/stockadelaw11.PacketTags", spec := "packetTags", inPlace := ["internal/reflectlite.TypeOf", "internal/reflectlite.ValueOf", "(internal/reflectlite.Value).Type", "(internal/reflectlite.Value).IsNil", "(internal/reflectlite.Value).Elem", "(internal/reflectlite.Value).Set"], unfollowed := true, recurses := true, named := ["errors.errorType"], apart := false, laid := [("errors.errorType", laid_errors_errorType)], narrowed := true }
def PacketTagsUptoSaid : Prop := packetTagsUptoRow.holds Tryz.pinned (OpenSpec.upto packetTagsSpec)

end Rows
end Go.Proofs.YtonhgckaaangoaaGreatDoor
