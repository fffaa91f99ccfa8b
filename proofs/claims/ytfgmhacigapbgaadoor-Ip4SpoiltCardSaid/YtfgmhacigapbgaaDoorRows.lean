/-
  NARROWER THAN 'FOR EVERY INPUT', by the rows' own cells (each row's printed sentence says how): TcpTells: laid · TcpBack: laid · TcpHeads: laid · UdpTells: laid · UdpBack: laid · UdpLengths: laid · Ip4Tells: laid · Ip4Back: laid · Ip4Spoilt: laid · Ip4Refuses: laid.
  DERIVED. THE GIVEN ROWS OF THIS SEAT. 10 by the template 'for every input the law returns true; each argument reads behind the call as it read before'; 0 by the template 'total and deterministic' (their statements: YtfgmhacigapbgaaDoorTotals.lean).
  GIVEN WITH THE SEED: the statements are not yours to turn. If you find one false, say at which input.
  Laid BY PROGRAM, IN A SANDBOX (cutbox-rows.mjs): the forced cells as the released guide's own fill.sh prints them over the translation 39edf404436bceb7… (all of the seat's roots in one cut). By AI agents, Wed Nov 11 2026. No macro, syntax, notation, axiom, sorry.
-/
import Derived.Test.YtfgmhacigapbgaaDoorChecked
import GoSem.Claim
import GoSem.ClaimJoined
import GoSem.ClaimMapViews
import Derived.JoinedTies
import Derived.KernelRfl
namespace Go.Proofs.YtfgmhacigapbgaaDoor
/- THE CELL 'sum', in the pinned program and in every row, IS THE sha256 OF THE DUMP (.gsa) THAT YtfgmhacigapbgaaDoorProg.lean LOADS. Nothing in Lean hashes anything: it is a label: what it is worth is what the hold of that sum in a sandbox is worth. -/
noncomputable def Tryd.pinned : Pinned := { name := "ytfgmhacigapbgaadoor", sum := "39edf404436bceb7c558a942d824bd44e4dbfd768789788923eba33b77b3d7a9", checked := Tryd.checked }
namespace Rows
def none {H : Type} : Left H := { results := [], args := [] }

/- WHAT THE LISTED PACKAGE-LEVEL VARIABLES READ AS WHEN THE CALL BEGINS. Each datum BY PROGRAM (the guide's laid-datum.mjs) off the statement by which the dump's own 'gosem.cut.vars' lays the variable. In a bare row this is a premise. The card (YtfgmhacigapbgaaDoorCards.lean) ties it to the program's text. -/
def laid_errors_errorType {H : Type} : DataW H := .iface "internal/reflectlite.rtype" (.agg [.ptr (.lit (.string [101, 114, 114, 111, 114]))])

/-- 'stockadelaw08.TcpTells': WHATEVER THE INPUT: true; the input reads as it did. -/
def tcpTellsSpec : ChangeSpec := { name := "tcpTells", fn := fun _ => fun
  | [d1, d2, d3, d4] => { results := [.lit (.bool true)], args := [d1, d2, d3, d4] }
  | _ => none }
def tcpTellsRow : OpenClaim := { program := "ytfgmhacigapbgaadoor", sum := "39edf404436bceb7c558a942d824bd44e4dbfd768789788923eba33b77b3d7a9", func := "stockade/stockadelaw08.TcpTells", spec := "tcpTells", inPlace := ["internal/reflectlite.ValueOf", "(internal/reflectlite.Value).Type", "(internal/reflectlite.Value).IsNil", "internal/reflectlite.TypeOf", "(internal/reflectlite.Value).Elem", "(internal/reflectlite.Value).Set"], unfollowed := true, recurses := true, named := ["errors.errorType"], apart := false, laid := [("errors.errorType", laid_errors_errorType)] }
def TcpTellsSaid : Prop := tcpTellsRow.holds Tryd.pinned (OpenSpec.ofChange tcpTellsSpec)

/-- ITS FALSE NEIGHBOUR: 'it returns false'. Refute it at one input. -/
def tcpTellsWrong : ChangeSpec := { name := "tcpTells", fn := fun _ => fun
  | [d1, d2, d3, d4] => { results := [.lit (.bool false)], args := [d1, d2, d3, d4] }
  | _ => none }
def TcpTellsWrongFalsely : Prop := tcpTellsRow.holds Tryd.pinned (OpenSpec.ofChange tcpTellsWrong)

/-- 'stockadelaw08.TcpBack': WHATEVER THE INPUT: true; the input reads as it did. -/
def tcpBackSpec : ChangeSpec := { name := "tcpBack", fn := fun _ => fun
  | [d1, d2, d3, d4, d5] => { results := [.lit (.bool true)], args := [d1, d2, d3, d4, d5] }
  | _ => none }
def tcpBackRow : OpenClaim := { program := "ytfgmhacigapbgaadoor", sum := "39edf404436bceb7c558a942d824bd44e4dbfd768789788923eba33b77b3d7a9", func := "stockade/stockadelaw08.TcpBack", spec := "tcpBack", inPlace := ["internal/reflectlite.ValueOf", "(internal/reflectlite.Value).Type", "(internal/reflectlite.Value).IsNil", "internal/reflectlite.TypeOf", "(internal/reflectlite.Value).Elem", "(internal/reflectlite.Value).Set"], unfollowed := true, recurses := true, named := ["errors.errorType"], apart := false, laid := [("errors.errorType", laid_errors_errorType)] }
def TcpBackSaid : Prop := tcpBackRow.holds Tryd.pinned (OpenSpec.ofChange tcpBackSpec)

/-- ITS FALSE NEIGHBOUR: 'it returns false'. Refute it at one input. -/
def tcpBackWrong : ChangeSpec := { name := "tcpBack", fn := fun _ => fun
  | [d1, d2, d3, d4, d5] => { results := [.lit (.bool false)], args := [d1, d2, d3, d4, d5] }
  | _ => none }
def TcpBackWrongFalsely : Prop := tcpBackRow.holds Tryd.pinned (OpenSpec.ofChange tcpBackWrong)

/-- 'stockadelaw08.TcpHeads': WHATEVER THE INPUT: true; the input reads as it did. -/
def tcpHeadsSpec : ChangeSpec := { name := "tcpHeads", fn := fun _ => fun
  | [d1, d2, d3] => { results := [.lit (.bool true)], args := [d1, d2, d3] }
  | _ => none }
def tcpHeadsRow : OpenClaim := { program := "ytfgmhacigapbgaadoor", sum := "39edf404436bceb7c558a942d824bd44e4dbfd768789788923eba33b77b3d7a9", func := "stockade/stockadelaw08.TcpHeads", spec := "tcpHeads", inPlace := ["internal/reflectlite.ValueOf", "(internal/reflectlite.Value).Type", "(internal/reflectlite.Value).IsNil", "internal/reflectlite.TypeOf", "(internal/reflectlite.Value).Elem", "(internal/reflectlite.Value).Set"], unfollowed := true, recurses := true, named := ["errors.errorType"], apart := false, laid := [("errors.errorType", laid_errors_errorType)] }
def TcpHeadsSaid : Prop := tcpHeadsRow.holds Tryd.pinned (OpenSpec.ofChange tcpHeadsSpec)

/-- ITS FALSE NEIGHBOUR: 'it returns false'. Refute it at one input. -/
def tcpHeadsWrong : ChangeSpec := { name := "tcpHeads", fn := fun _ => fun
  | [d1, d2, d3] => { results := [.lit (.bool false)], args := [d1, d2, d3] }
  | _ => none }
def TcpHeadsWrongFalsely : Prop := tcpHeadsRow.holds Tryd.pinned (OpenSpec.ofChange tcpHeadsWrong)

/-- 'stockadelaw09.UdpTells': WHATEVER THE INPUT: true; the input reads as it did. -/
def udpTellsSpec : ChangeSpec := { name := "udpTells", fn := fun _ => fun
  | [d1, d2, d3, d4] => { results := [.lit (.bool true)], args := [d1, d2, d3, d4] }
  | _ => none }
def udpTellsRow : OpenClaim := { program := "ytfgmhacigapbgaadoor", sum := "39edf404436bceb7c558a942d824bd44e4dbfd768789788923eba33b77b3d7a9", func := "stockade/stockadelaw09.UdpTells", spec := "udpTells", inPlace := ["internal/reflectlite.TypeOf", "internal/reflectlite.ValueOf", "(internal/reflectlite.Value).Type", "(internal/reflectlite.Value).IsNil", "(internal/reflectlite.Value).Elem", "(internal/reflectlite.Value).Set"], unfollowed := true, recurses := true, named := ["errors.errorType"], apart := false, laid := [("errors.errorType", laid_errors_errorType)] }
def UdpTellsSaid : Prop := udpTellsRow.holds Tryd.pinned (OpenSpec.ofChange udpTellsSpec)

/-- ITS FALSE NEIGHBOUR: 'it returns false'. Refute it at one input. -/
def udpTellsWrong : ChangeSpec := { name := "udpTells", fn := fun _ => fun
  | [d1, d2, d3, d4] => { results := [.lit (.bool false)], args := [d1, d2, d3, d4] }
  | _ => none }
def UdpTellsWrongFalsely : Prop := udpTellsRow.holds Tryd.pinned (OpenSpec.ofChange udpTellsWrong)

/-- 'stockadelaw09.UdpBack': WHATEVER THE INPUT: true; the input reads as it did. -/
def udpBackSpec : ChangeSpec := { name := "udpBack", fn := fun _ => fun
  | [d1, d2, d3, d4, d5] => { results := [.lit (.bool true)], args := [d1, d2, d3, d4, d5] }
  | _ => none }
def udpBackRow : OpenClaim := { program := "ytfgmhacigapbgaadoor", sum := "39edf404436bceb7c558a942d824bd44e4dbfd768789788923eba33b77b3d7a9", func := "stockade/stockadelaw09.UdpBack", spec := "udpBack", inPlace := ["internal/reflectlite.TypeOf", "internal/reflectlite.ValueOf", "(internal/reflectlite.Value).Type", "(internal/reflectlite.Value).IsNil", "(internal/reflectlite.Value).Elem", "(internal/reflectlite.Value).Set"], unfollowed := true, recurses := true, named := ["errors.errorType"], apart := false, laid := [("errors.errorType", laid_errors_errorType)] }
def UdpBackSaid : Prop := udpBackRow.holds Tryd.pinned (OpenSpec.ofChange udpBackSpec)

/-- ITS FALSE NEIGHBOUR: 'it returns false'. Refute it at one input. -/
def udpBackWrong : ChangeSpec := { name := "udpBack", fn := fun _ => fun
  | [d1, d2, d3, d4, d5] => { results := [.lit (.bool false)], args := [d1, d2, d3, d4, d5] }
  | _ => none }
def UdpBackWrongFalsely : Prop := udpBackRow.holds Tryd.pinned (OpenSpec.ofChange udpBackWrong)

/-- 'stockadelaw09.UdpLengths': WHATEVER THE INPUT: true; the input reads as it did. -/
def udpLengthsSpec : ChangeSpec := { name := "udpLengths", fn := fun _ => fun
  | [d1, d2, d3, d4] => { results := [.lit (.bool true)], args := [d1, d2, d3, d4] }
  | _ => none }
def udpLengthsRow : OpenClaim := { program := "ytfgmhacigapbgaadoor", sum := "39edf404436bceb7c558a942d824bd44e4dbfd768789788923eba33b77b3d7a9", func := "stockade/stockadelaw09.UdpLengths", spec := "udpLengths", inPlace := ["internal/reflectlite.TypeOf", "internal/reflectlite.ValueOf", "(internal/reflectlite.Value).Type", "(internal/reflectlite.Value).IsNil", "(internal/reflectlite.Value).Elem", "(internal/reflectlite.Value).Set"], unfollowed := true, recurses := true, named := ["errors.errorType"], apart := false, laid := [("errors.errorType", laid_errors_errorType)] }
def UdpLengthsSaid : Prop := udpLengthsRow.holds Tryd.pinned (OpenSpec.ofChange udpLengthsSpec)

/-- ITS FALSE NEIGHBOUR: 'it returns false'. Refute it at one input. -/
def udpLengthsWrong : ChangeSpec := { name := "udpLengths", fn := fun _ => fun
  | [d1, d2, d3, d4] => { results := [.lit (.bool false)], args := [d1, d2, d3, d4] }
  | _ => none }
def UdpLengthsWrongFalsely : Prop := udpLengthsRow.holds Tryd.pinned (OpenSpec.ofChange udpLengthsWrong)

/-- 'stockadelaw06.Ip4Tells': WHATEVER THE INPUT: true; the input reads as it did. -/
def ip4TellsSpec : ChangeSpec := { name := "ip4Tells", fn := fun _ => fun
  | [d1, d2, d3, d4, d5] => { results := [.lit (.bool true)], args := [d1, d2, d3, d4, d5] }
  | _ => none }
def ip4TellsRow : OpenClaim := { program := "ytfgmhacigapbgaadoor", sum := "39edf404436bceb7c558a942d824bd44e4dbfd768789788923eba33b77b3d7a9", func := "stockade/stockadelaw06.Ip4Tells", spec := "ip4Tells", inPlace := ["internal/reflectlite.TypeOf", "internal/reflectlite.ValueOf", "(internal/reflectlite.Value).Type", "(internal/reflectlite.Value).IsNil", "(internal/reflectlite.Value).Elem", "(internal/reflectlite.Value).Set"], unfollowed := true, recurses := true, named := ["errors.errorType"], apart := false, laid := [("errors.errorType", laid_errors_errorType)] }
def Ip4TellsSaid : Prop := ip4TellsRow.holds Tryd.pinned (OpenSpec.ofChange ip4TellsSpec)

/-- ITS FALSE NEIGHBOUR: 'it returns false'. Refute it at one input. -/
def ip4TellsWrong : ChangeSpec := { name := "ip4Tells", fn := fun _ => fun
  | [d1, d2, d3, d4, d5] => { results := [.lit (.bool false)], args := [d1, d2, d3, d4, d5] }
  | _ => none }
def Ip4TellsWrongFalsely : Prop := ip4TellsRow.holds Tryd.pinned (OpenSpec.ofChange ip4TellsWrong)

/-- 'stockadelaw06.Ip4Back': WHATEVER THE INPUT: true; the input reads as it did. -/
def ip4BackSpec : ChangeSpec := { name := "ip4Back", fn := fun _ => fun
  | [d1, d2, d3, d4, d5, d6] => { results := [.lit (.bool true)], args := [d1, d2, d3, d4, d5, d6] }
  | _ => none }
def ip4BackRow : OpenClaim := { program := "ytfgmhacigapbgaadoor", sum := "39edf404436bceb7c558a942d824bd44e4dbfd768789788923eba33b77b3d7a9", func := "stockade/stockadelaw06.Ip4Back", spec := "ip4Back", inPlace := ["internal/reflectlite.TypeOf", "internal/reflectlite.ValueOf", "(internal/reflectlite.Value).Type", "(internal/reflectlite.Value).IsNil", "(internal/reflectlite.Value).Elem", "(internal/reflectlite.Value).Set"], unfollowed := true, recurses := true, named := ["errors.errorType"], apart := false, laid := [("errors.errorType", laid_errors_errorType)] }
def Ip4BackSaid : Prop := ip4BackRow.holds Tryd.pinned (OpenSpec.ofChange ip4BackSpec)

/-- ITS FALSE NEIGHBOUR: 'it returns false'. Refute it at one input. -/
def ip4BackWrong : ChangeSpec := { name := "ip4Back", fn := fun _ => fun
  | [d1, d2, d3, d4, d5, d6] => { results := [.lit (.bool false)], args := [d1, d2, d3, d4, d5, d6] }
  | _ => none }
def Ip4BackWrongFalsely : Prop := ip4BackRow.holds Tryd.pinned (OpenSpec.ofChange ip4BackWrong)

/-- 'stockadelaw06.Ip4Spoilt': WHATEVER THE INPUT: true; the input reads as it did. -/
def ip4SpoiltSpec : ChangeSpec := { name := "ip4Spoilt", fn := fun _ => fun
  | [d1, d2, d3, d4, d5, d6] => { results := [.lit (.bool true)], args := [d1, d2, d3, d4, d5, d6] }
  | _ => none }
def ip4SpoiltRow : OpenClaim := { program := "ytfgmhacigapbgaadoor", sum := "39edf404436bceb7c558a942d824bd44e4dbfd768789788923eba33b77b3d7a9", func := "stockade/stockadelaw06.Ip4Spoilt", spec := "ip4Spoilt", inPlace := ["internal/reflectlite.TypeOf", "internal/reflectlite.ValueOf", "(internal/reflectlite.Value).Type", "(internal/reflectlite.Value).IsNil", "(internal/reflectlite.Value).Elem", "(internal/reflectlite.Value).Set"], unfollowed := true, recurses := true, named := ["errors.errorType"], apart := false, laid := [("errors.errorType", laid_errors_errorType)] }
def Ip4SpoiltSaid : Prop := ip4SpoiltRow.holds Tryd.pinned (OpenSpec.ofChange ip4SpoiltSpec)

/-- ITS FALSE NEIGHBOUR: 'it returns false'. Refute it at one input. -/
def ip4SpoiltWrong : ChangeSpec := { name := "ip4Spoilt", fn := fun _ => fun
  | [d1, d2, d3, d4, d5, d6] => { results := [.lit (.bool false)], args := [d1, d2, d3, d4, d5, d6] }
  | _ => none }
def Ip4SpoiltWrongFalsely : Prop := ip4SpoiltRow.holds Tryd.pinned (OpenSpec.ofChange ip4SpoiltWrong)

/-- 'stockadelaw06.Ip4Refuses': WHATEVER THE INPUT: true; the input reads as it did. -/
def ip4RefusesSpec : ChangeSpec := { name := "ip4Refuses", fn := fun _ => fun
  | [d1, d2] => { results := [.lit (.bool true)], args := [d1, d2] }
  | _ => none }
def ip4RefusesRow : OpenClaim := { program := "ytfgmhacigapbgaadoor", sum := "39edf404436bceb7c558a942d824bd44e4dbfd768789788923eba33b77b3d7a9", func := "stockade/stockadelaw06.Ip4Refuses", spec := "ip4Refuses", inPlace := ["internal/reflectlite.TypeOf", "internal/reflectlite.ValueOf", "(internal/reflectlite.Value).Type", "(internal/reflectlite.Value).IsNil", "(internal/reflectlite.Value).Elem", "(internal/reflectlite.Value).Set"], unfollowed := true, recurses := true, named := ["errors.errorType"], apart := false, laid := [("errors.errorType", laid_errors_errorType)] }
def Ip4RefusesSaid : Prop := ip4RefusesRow.holds Tryd.pinned (OpenSpec.ofChange ip4RefusesSpec)

/-- ITS FALSE NEIGHBOUR: 'it returns false'. Refute it at one input. -/
def ip4RefusesWrong : ChangeSpec := { name := "ip4Refuses", fn := fun _ => fun
  | [d1, d2] => { results := [.lit (.bool false)], args := [d1, d2] }
  | _ => none }
def Ip4RefusesWrongFalsely : Prop := ip4RefusesRow.holds Tryd.pinned (OpenSpec.ofChange ip4RefusesWrong)

/- THE SECOND FORM. 'bulk': how many values and letters a reading holds, each counted each time it is reached (what is shared counts as often as it is met; a slice's spare places count too). A statement '..UptoSaid' is the law's where the arguments, and the package variables that the reading takes, are together of bulk at most 1048576: NARROWER than '..Said'. Prove '..Said' where nothing that the law and all that it calls make is longer than what came in: it says more and counts as full. Else prove '..UptoSaid'. A law counts once. -/
mutual
def uptoBulk {H : Type} : DataW H → Nat
  | .lit (.string bytes) => bytes.length + 1
  | .lit _ => 1
  | .nil => 1
  | .ptr d => uptoBulk d + 1
  | .slice elems spare => uptoBulkAll elems + uptoBulkAll spare + 1
  | .agg parts => uptoBulkAll parts + 1
  | .iface _ d => uptoBulk d + 1
  | .map entries => uptoBulkEntries entries + 1
  | .held _ => 1
def uptoBulkAll {H : Type} : List (DataW H) → Nat
  | [] => 0
  | d :: r => uptoBulk d + uptoBulkAll r
def uptoBulkEntries {H : Type} : List (Lit × DataW H) → Nat
  | [] => 0
  | x :: r => uptoBulkEntry x + uptoBulkEntries r
def uptoBulkEntry {H : Type} : Lit × DataW H → Nat
  | (.string bytes, d) => bytes.length + uptoBulk d + 1
  | (_, d) => uptoBulk d + 1
 end
def uptoSmall : (H : Type) → List (DataW H) → Bool := fun _ ds => decide (uptoBulkAll ds ≤ 1048576)
def OpenSpec.upto (s : _root_.Go.ChangeSpec) : _root_.Go.OpenSpec := { _root_.Go.OpenSpec.ofChange s with cond := some uptoSmall }

/-- 'stockadelaw08.TcpTells', WHERE WHAT IT READS IS OF BULK AT MOST 1048576: true; the input reads as it did. -/
def tcpTellsUptoRow : OpenClaim := { program := "ytfgmhacigapbgaadoor", sum := "39edf404436bceb7c558a942d824bd44e4dbfd768789788923eba33b77b3d7a9", func := "stockade/stockadelaw08.TcpTells", spec := "tcpTells", inPlace := ["internal/reflectlite.ValueOf", "(internal/reflectlite.Value).Type", "(internal/reflectlite.Value).IsNil", "internal/reflectlite.TypeOf", "(internal/reflectlite.Value).Elem", "(internal/reflectlite.Value).Set"], unfollowed := true, recurses := true, named := ["errors.errorType"], apart := false, laid := [("errors.errorType", laid_errors_errorType)], narrowed := true }
def TcpTellsUptoSaid : Prop := tcpTellsUptoRow.holds Tryd.pinned (OpenSpec.upto tcpTellsSpec)

/-- 'stockadelaw08.TcpBack', WHERE WHAT IT READS IS OF BULK AT MOST 1048576: true; the input reads as it did. -/
def tcpBackUptoRow : OpenClaim := { program := "ytfgmhacigapbgaadoor", sum := "39edf404436bceb7c558a942d824bd44e4dbfd768789788923eba33b77b3d7a9", func := "stockade/stockadelaw08.TcpBack", spec := "tcpBack", inPlace := ["internal/reflectlite.ValueOf", "(internal/reflectlite.Value).Type", "(internal/reflectlite.Value).IsNil", "internal/reflectlite.TypeOf", "(internal/reflectlite.Value).Elem", "(internal/reflectlite.Value).Set"], unfollowed := true, recurses := true, named := ["errors.errorType"], apart := false, laid := [("errors.errorType", laid_errors_errorType)], narrowed := true }
def TcpBackUptoSaid : Prop := tcpBackUptoRow.holds Tryd.pinned (OpenSpec.upto tcpBackSpec)

/-- 'stockadelaw08.TcpHeads', WHERE WHAT IT READS IS OF BULK AT MOST 1048576: true; the input reads as it did. -/
def tcpHeadsUptoRow : OpenClaim := { program := "ytfgmhacigapbgaadoor", sum := "39edf404436bceb7c558a942d824bd44e4dbfd768789788923eba33b77b3d7a9", func := "stockade/stockadelaw08.TcpHeads", spec := "tcpHeads", inPlace := ["internal/reflectlite.ValueOf", "(internal/reflectlite.Value).Type", "(internal/reflectlite.Value).IsNil", "internal/reflectlite.TypeOf", "(internal/reflectlite.Value).Elem", "(internal/reflectlite.Value).Set"], unfollowed := true, recurses := true, named := ["errors.errorType"], apart := false, laid := [("errors.errorType", laid_errors_errorType)], narrowed := true }
def TcpHeadsUptoSaid : Prop := tcpHeadsUptoRow.holds Tryd.pinned (OpenSpec.upto tcpHeadsSpec)

/-- 'stockadelaw09.UdpTells', WHERE WHAT IT READS IS OF BULK AT MOST 1048576: true; the input reads as it did. -/
def udpTellsUptoRow : OpenClaim := { program := "ytfgmhacigapbgaadoor", sum := "39edf404436bceb7c558a942d824bd44e4dbfd768789788923eba33b77b3d7a9", func := "stockade/stockadelaw09.UdpTells", spec := "udpTells", inPlace := ["internal/reflectlite.TypeOf", "internal/reflectlite.ValueOf", "(internal/reflectlite.Value).Type", "(internal/reflectlite.Value).IsNil", "(internal/reflectlite.Value).Elem", "(internal/reflectlite.Value).Set"], unfollowed := true, recurses := true, named := ["errors.errorType"], apart := false, laid := [("errors.errorType", laid_errors_errorType)], narrowed := true }
def UdpTellsUptoSaid : Prop := udpTellsUptoRow.holds Tryd.pinned (OpenSpec.upto udpTellsSpec)

/-- 'stockadelaw09.UdpBack', WHERE WHAT IT READS IS OF BULK AT MOST 1048576: true; the input reads as it did. -/
def udpBackUptoRow : OpenClaim := { program := "ytfgmhacigapbgaadoor", sum := "39edf404436bceb7c558a942d824bd44e4dbfd768789788923eba33b77b3d7a9", func := "stockade/stockadelaw09.UdpBack", spec := "udpBack", inPlace := ["internal/reflectlite.TypeOf", "internal/reflectlite.ValueOf", "(internal/reflectlite.Value).Type", "(internal/reflectlite.Value).IsNil", "(internal/reflectlite.Value).Elem", "(internal/reflectlite.Value).Set"], unfollowed := true, recurses := true, named := ["errors.errorType"], apart := false, laid := [("errors.errorType", laid_errors_errorType)], narrowed := true }
def UdpBackUptoSaid : Prop := udpBackUptoRow.holds Tryd.pinned (OpenSpec.upto udpBackSpec)

/-- 'stockadelaw09.UdpLengths', WHERE WHAT IT READS IS OF BULK AT MOST 1048576: true; the input reads as it did. -/
def udpLengthsUptoRow : OpenClaim := { program := "ytfgmhacigapbgaadoor", sum := "39edf404436bceb7c558a942d824bd44e4dbfd768789788923eba33b77b3d7a9", func := "stockade/stockadelaw09.UdpLengths", spec := "udpLengths", inPlace := ["internal/reflectlite.TypeOf", "internal/reflectlite.ValueOf", "(internal/reflectlite.Value).Type", "(internal/reflectlite.Value).IsNil", "(internal/reflectlite.Value).Elem", "(internal/reflectlite.Value).Set"], unfollowed := true, recurses := true, named := ["errors.errorType"], apart := false, laid := [("errors.errorType", laid_errors_errorType)], narrowed := true }
def UdpLengthsUptoSaid : Prop := udpLengthsUptoRow.holds Tryd.pinned (OpenSpec.upto udpLengthsSpec)

/-- 'stockadelaw06.Ip4Tells', WHERE WHAT IT READS IS OF BULK AT MOST 1048576: true; the input reads as it did. -/
def ip4TellsUptoRow : OpenClaim := { program := "ytfgmhacigapbgaadoor", sum := "39edf404436bceb7c558a942d824bd44e4dbfd768789788923eba33b77b3d7a9", func := "stockade/stockadelaw06.Ip4Tells", spec := "ip4Tells", inPlace := ["internal/reflectlite.TypeOf", "internal/reflectlite.ValueOf", "(internal/reflectlite.Value).Type", "(internal/reflectlite.Value).IsNil", "(internal/reflectlite.Value).Elem", "(internal/reflectlite.Value).Set"], unfollowed := true, recurses := true, named := ["errors.errorType"], apart := false, laid := [("errors.errorType", laid_errors_errorType)], narrowed := true }
def Ip4TellsUptoSaid : Prop := ip4TellsUptoRow.holds Tryd.pinned (OpenSpec.upto ip4TellsSpec)

/-- 'stockadelaw06.Ip4Back', WHERE WHAT IT READS IS OF BULK AT MOST 1048576: true; the input reads as it did. -/
def ip4BackUptoRow : OpenClaim := { program := "ytfgmhacigapbgaadoor", sum := "39edf404436bceb7c558a942d824bd44e4dbfd768789788923eba33b77b3d7a9", func := "stockade/stockadelaw06.Ip4Back", spec := "ip4Back", inPlace := ["internal/reflectlite.TypeOf", "internal/reflectlite.ValueOf", "(internal/reflectlite.Value).Type", "(internal/reflectlite.Value).IsNil", "(internal/reflectlite.Value).Elem", "(internal/reflectlite.Value).Set"], unfollowed := true, recurses := true, named := ["errors.errorType"], apart := false, laid := [("errors.errorType", laid_errors_errorType)], narrowed := true }
def Ip4BackUptoSaid : Prop := ip4BackUptoRow.holds Tryd.pinned (OpenSpec.upto ip4BackSpec)

/-- 'stockadelaw06.Ip4Spoilt', WHERE WHAT IT READS IS OF BULK AT MOST 1048576: true; the input reads as it did. -/
def ip4SpoiltUptoRow : OpenClaim := { program := "ytfgmhacigapbgaadoor", sum := "39edf404436bceb7c558a942d824bd44e4dbfd768789788923eba33b77b3d7a9", func := "stockade/stockadelaw06.Ip4Spoilt", spec := "ip4Spoilt", inPlace := ["internal/reflectlite.TypeOf", "internal/reflectlite.ValueOf", "(internal/reflectlite.Value).Type", "(internal/reflectlite.Value).IsNil", "(internal/reflectlite.Value).Elem", "(internal/reflectlite.Value).Set"], unfollowed := true, recurses := true, named := ["errors.errorType"], apart := false, laid := [("errors.errorType", laid_errors_errorType)], narrowed := true }
def Ip4SpoiltUptoSaid : Prop := ip4SpoiltUptoRow.holds Tryd.pinned (OpenSpec.upto ip4SpoiltSpec)

/-- 'stockadelaw06.Ip4Refuses', WHERE WHAT IT READS IS OF BULK AT MOST 1048576: true; the input reads as it did. -/
def ip4RefusesUptoRow : OpenClaim := { program := "ytfgmhacigapbgaadoor", sum := "39edf404436bceb7c558a942d824bd44e4dbfd768789788923eba33b77b3d7a9", func := "stockade/stockadelaw06.Ip4Refuses", spec := "ip4Refuses", inPlace := ["internal/reflectlite.TypeOf", "internal/reflectlite.ValueOf", "(internal/reflectlite.Value).Type", "(internal/reflectlite.Value).IsNil", "(internal/reflectlite.Value).Elem", "(internal/reflectlite.Value).Set"], unfollowed := true, recurses := true, named := ["errors.errorType"], apart := false, laid := [("errors.errorType", laid_errors_errorType)], narrowed := true }
def Ip4RefusesUptoSaid : Prop := ip4RefusesUptoRow.holds Tryd.pinned (OpenSpec.upto ip4RefusesSpec)

end Rows
end Go.Proofs.YtfgmhacigapbgaaDoor
