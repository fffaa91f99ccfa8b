/-
  NARROWER THAN 'FOR EVERY INPUT', by the rows' own cells (each row's printed sentence says how): FaultNests: laid · FaultWraps: laid · FaultDeeper: laid · FaultTexts: laid · OctetsParts: laid · OctetsEdges: laid · OctetsTell: laid · OctetsBack: laid · EtherTells: laid · EtherBack: laid · EtherShort: laid.
  DERIVED. THE GIVEN ROWS OF THIS SEAT. 11 by the template 'for every input the law returns true; each argument reads behind the call as it read before'; 0 by the template 'total and deterministic' (their statements: YtfmocbiagbpljaaDoorTotals.lean).
  GIVEN WITH THE SEED: the statements are not yours to turn. If you find one false, say at which input.
  Laid BY PROGRAM, IN A SANDBOX (cutbox-rows.mjs): the forced cells as the released guide's own fill.sh prints them over the translation 3435923ac63b8954… (all of the seat's roots in one cut). By AI agents, Wed Nov 11 2026. No macro, syntax, notation, axiom, sorry.
-/
import Derived.Test.YtfmocbiagbpljaaDoorChecked
import GoSem.Claim
import GoSem.ClaimJoined
import GoSem.ClaimMapViews
import Derived.JoinedTies
import Derived.KernelRfl
namespace Go.Proofs.YtfmocbiagbpljaaDoor
/- THE CELL 'sum', in the pinned program and in every row, IS THE sha256 OF THE DUMP (.gsa) THAT YtfmocbiagbpljaaDoorProg.lean LOADS. Nothing in Lean hashes anything: it is a label: what it is worth is what the hold of that sum in a sandbox is worth. -/
noncomputable def Tryd.pinned : Pinned := { name := "ytfmocbiagbpljaadoor", sum := "3435923ac63b89540f678dae69693223b01a8326594b1065e0a4782c480396d3", checked := Tryd.checked }
namespace Rows
def none {H : Type} : Left H := { results := [], args := [] }

/- WHAT THE LISTED PACKAGE-LEVEL VARIABLES READ AS WHEN THE CALL BEGINS. Each datum BY PROGRAM (the guide's laid-datum.mjs) off the statement by which the dump's own 'gosem.cut.vars' lays the variable. In a bare row this is a premise. The card (YtfmocbiagbpljaaDoorCards.lean) ties it to the program's text. -/
def laid_errors_errorType {H : Type} : DataW H := .iface "internal/reflectlite.rtype" (.agg [.ptr (.lit (.string [101, 114, 114, 111, 114]))])

/-- 'stockadelaw01.FaultNests': WHATEVER THE INPUT: true; the input reads as it did. -/
def faultNestsSpec : ChangeSpec := { name := "faultNests", fn := fun _ => fun
  | [d1, d2] => { results := [.lit (.bool true)], args := [d1, d2] }
  | _ => none }
def faultNestsRow : OpenClaim := { program := "ytfmocbiagbpljaadoor", sum := "3435923ac63b89540f678dae69693223b01a8326594b1065e0a4782c480396d3", func := "stockade/stockadelaw01.FaultNests", spec := "faultNests", inPlace := ["internal/reflectlite.ValueOf", "(internal/reflectlite.Value).Type", "(internal/reflectlite.Value).IsNil", "internal/reflectlite.TypeOf", "(internal/reflectlite.Value).Elem", "(internal/reflectlite.Value).Set"], unfollowed := true, recurses := true, named := ["errors.errorType"], apart := false, laid := [("errors.errorType", laid_errors_errorType)] }
def FaultNestsSaid : Prop := faultNestsRow.holds Tryd.pinned (OpenSpec.ofChange faultNestsSpec)

/-- ITS FALSE NEIGHBOUR: 'it returns false'. Refute it at one input. -/
def faultNestsWrong : ChangeSpec := { name := "faultNests", fn := fun _ => fun
  | [d1, d2] => { results := [.lit (.bool false)], args := [d1, d2] }
  | _ => none }
def FaultNestsWrongFalsely : Prop := faultNestsRow.holds Tryd.pinned (OpenSpec.ofChange faultNestsWrong)

/-- 'stockadelaw01.FaultWraps': WHATEVER THE INPUT: true; the input reads as it did. -/
def faultWrapsSpec : ChangeSpec := { name := "faultWraps", fn := fun _ => fun
  | [d1, d2] => { results := [.lit (.bool true)], args := [d1, d2] }
  | _ => none }
def faultWrapsRow : OpenClaim := { program := "ytfmocbiagbpljaadoor", sum := "3435923ac63b89540f678dae69693223b01a8326594b1065e0a4782c480396d3", func := "stockade/stockadelaw01.FaultWraps", spec := "faultWraps", inPlace := ["internal/reflectlite.ValueOf", "(internal/reflectlite.Value).Type", "(internal/reflectlite.Value).IsNil", "internal/reflectlite.TypeOf", "(internal/reflectlite.Value).Elem", "(internal/reflectlite.Value).Set"], unfollowed := true, recurses := true, named := ["errors.errorType"], apart := false, laid := [("errors.errorType", laid_errors_errorType)] }
def FaultWrapsSaid : Prop := faultWrapsRow.holds Tryd.pinned (OpenSpec.ofChange faultWrapsSpec)

/-- ITS FALSE NEIGHBOUR: 'it returns false'. Refute it at one input. -/
def faultWrapsWrong : ChangeSpec := { name := "faultWraps", fn := fun _ => fun
  | [d1, d2] => { results := [.lit (.bool false)], args := [d1, d2] }
  | _ => none }
def FaultWrapsWrongFalsely : Prop := faultWrapsRow.holds Tryd.pinned (OpenSpec.ofChange faultWrapsWrong)

/-- 'stockadelaw01.FaultDeeper': WHATEVER THE INPUT: true; the input reads as it did. -/
def faultDeeperSpec : ChangeSpec := { name := "faultDeeper", fn := fun _ => fun
  | [d1, d2, d3, d4] => { results := [.lit (.bool true)], args := [d1, d2, d3, d4] }
  | _ => none }
def faultDeeperRow : OpenClaim := { program := "ytfmocbiagbpljaadoor", sum := "3435923ac63b89540f678dae69693223b01a8326594b1065e0a4782c480396d3", func := "stockade/stockadelaw01.FaultDeeper", spec := "faultDeeper", inPlace := ["internal/reflectlite.ValueOf", "(internal/reflectlite.Value).Type", "(internal/reflectlite.Value).IsNil", "internal/reflectlite.TypeOf", "(internal/reflectlite.Value).Elem", "(internal/reflectlite.Value).Set"], unfollowed := true, recurses := true, named := ["errors.errorType"], apart := false, laid := [("errors.errorType", laid_errors_errorType)] }
def FaultDeeperSaid : Prop := faultDeeperRow.holds Tryd.pinned (OpenSpec.ofChange faultDeeperSpec)

/-- ITS FALSE NEIGHBOUR: 'it returns false'. Refute it at one input. -/
def faultDeeperWrong : ChangeSpec := { name := "faultDeeper", fn := fun _ => fun
  | [d1, d2, d3, d4] => { results := [.lit (.bool false)], args := [d1, d2, d3, d4] }
  | _ => none }
def FaultDeeperWrongFalsely : Prop := faultDeeperRow.holds Tryd.pinned (OpenSpec.ofChange faultDeeperWrong)

/-- 'stockadelaw01.FaultTexts': WHATEVER THE INPUT: true; the input reads as it did. -/
def faultTextsSpec : ChangeSpec := { name := "faultTexts", fn := fun _ => fun
  | [d1, d2, d3] => { results := [.lit (.bool true)], args := [d1, d2, d3] }
  | _ => none }
def faultTextsRow : OpenClaim := { program := "ytfmocbiagbpljaadoor", sum := "3435923ac63b89540f678dae69693223b01a8326594b1065e0a4782c480396d3", func := "stockade/stockadelaw01.FaultTexts", spec := "faultTexts", inPlace := ["internal/reflectlite.ValueOf", "(internal/reflectlite.Value).Type", "(internal/reflectlite.Value).IsNil", "internal/reflectlite.TypeOf", "(internal/reflectlite.Value).Elem", "(internal/reflectlite.Value).Set"], unfollowed := true, recurses := true, named := ["errors.errorType"], apart := false, laid := [("errors.errorType", laid_errors_errorType)] }
def FaultTextsSaid : Prop := faultTextsRow.holds Tryd.pinned (OpenSpec.ofChange faultTextsSpec)

/-- ITS FALSE NEIGHBOUR: 'it returns false'. Refute it at one input. -/
def faultTextsWrong : ChangeSpec := { name := "faultTexts", fn := fun _ => fun
  | [d1, d2, d3] => { results := [.lit (.bool false)], args := [d1, d2, d3] }
  | _ => none }
def FaultTextsWrongFalsely : Prop := faultTextsRow.holds Tryd.pinned (OpenSpec.ofChange faultTextsWrong)

/-- 'stockadelaw02.OctetsParts': WHATEVER THE INPUT: true; the input reads as it did. -/
def octetsPartsSpec : ChangeSpec := { name := "octetsParts", fn := fun _ => fun
  | [d1, d2, d3, d4, d5] => { results := [.lit (.bool true)], args := [d1, d2, d3, d4, d5] }
  | _ => none }
def octetsPartsRow : OpenClaim := { program := "ytfmocbiagbpljaadoor", sum := "3435923ac63b89540f678dae69693223b01a8326594b1065e0a4782c480396d3", func := "stockade/stockadelaw02.OctetsParts", spec := "octetsParts", inPlace := ["internal/reflectlite.TypeOf", "internal/reflectlite.ValueOf", "(internal/reflectlite.Value).Type", "(internal/reflectlite.Value).IsNil", "(internal/reflectlite.Value).Elem", "(internal/reflectlite.Value).Set"], unfollowed := true, recurses := true, named := ["errors.errorType"], apart := false, laid := [("errors.errorType", laid_errors_errorType)] }
def OctetsPartsSaid : Prop := octetsPartsRow.holds Tryd.pinned (OpenSpec.ofChange octetsPartsSpec)

/-- ITS FALSE NEIGHBOUR: 'it returns false'. Refute it at one input. -/
def octetsPartsWrong : ChangeSpec := { name := "octetsParts", fn := fun _ => fun
  | [d1, d2, d3, d4, d5] => { results := [.lit (.bool false)], args := [d1, d2, d3, d4, d5] }
  | _ => none }
def OctetsPartsWrongFalsely : Prop := octetsPartsRow.holds Tryd.pinned (OpenSpec.ofChange octetsPartsWrong)

/-- 'stockadelaw02.OctetsEdges': WHATEVER THE INPUT: true; the input reads as it did. -/
def octetsEdgesSpec : ChangeSpec := { name := "octetsEdges", fn := fun _ => fun
  | [d1, d2] => { results := [.lit (.bool true)], args := [d1, d2] }
  | _ => none }
def octetsEdgesRow : OpenClaim := { program := "ytfmocbiagbpljaadoor", sum := "3435923ac63b89540f678dae69693223b01a8326594b1065e0a4782c480396d3", func := "stockade/stockadelaw02.OctetsEdges", spec := "octetsEdges", inPlace := ["internal/reflectlite.TypeOf", "internal/reflectlite.ValueOf", "(internal/reflectlite.Value).Type", "(internal/reflectlite.Value).IsNil", "(internal/reflectlite.Value).Elem", "(internal/reflectlite.Value).Set"], unfollowed := true, recurses := true, named := ["errors.errorType"], apart := false, laid := [("errors.errorType", laid_errors_errorType)] }
def OctetsEdgesSaid : Prop := octetsEdgesRow.holds Tryd.pinned (OpenSpec.ofChange octetsEdgesSpec)

/-- ITS FALSE NEIGHBOUR: 'it returns false'. Refute it at one input. -/
def octetsEdgesWrong : ChangeSpec := { name := "octetsEdges", fn := fun _ => fun
  | [d1, d2] => { results := [.lit (.bool false)], args := [d1, d2] }
  | _ => none }
def OctetsEdgesWrongFalsely : Prop := octetsEdgesRow.holds Tryd.pinned (OpenSpec.ofChange octetsEdgesWrong)

/-- 'stockadelaw02.OctetsTell': WHATEVER THE INPUT: true; the input reads as it did. -/
def octetsTellSpec : ChangeSpec := { name := "octetsTell", fn := fun _ => fun
  | [d1, d2, d3, d4] => { results := [.lit (.bool true)], args := [d1, d2, d3, d4] }
  | _ => none }
def octetsTellRow : OpenClaim := { program := "ytfmocbiagbpljaadoor", sum := "3435923ac63b89540f678dae69693223b01a8326594b1065e0a4782c480396d3", func := "stockade/stockadelaw02.OctetsTell", spec := "octetsTell", inPlace := ["internal/reflectlite.TypeOf", "internal/reflectlite.ValueOf", "(internal/reflectlite.Value).Type", "(internal/reflectlite.Value).IsNil", "(internal/reflectlite.Value).Elem", "(internal/reflectlite.Value).Set"], unfollowed := true, recurses := true, named := ["errors.errorType"], apart := false, laid := [("errors.errorType", laid_errors_errorType)] }
def OctetsTellSaid : Prop := octetsTellRow.holds Tryd.pinned (OpenSpec.ofChange octetsTellSpec)

/-- ITS FALSE NEIGHBOUR: 'it returns false'. Refute it at one input. -/
def octetsTellWrong : ChangeSpec := { name := "octetsTell", fn := fun _ => fun
  | [d1, d2, d3, d4] => { results := [.lit (.bool false)], args := [d1, d2, d3, d4] }
  | _ => none }
def OctetsTellWrongFalsely : Prop := octetsTellRow.holds Tryd.pinned (OpenSpec.ofChange octetsTellWrong)

/-- 'stockadelaw02.OctetsBack': WHATEVER THE INPUT: true; the input reads as it did. -/
def octetsBackSpec : ChangeSpec := { name := "octetsBack", fn := fun _ => fun
  | [d1, d2, d3] => { results := [.lit (.bool true)], args := [d1, d2, d3] }
  | _ => none }
def octetsBackRow : OpenClaim := { program := "ytfmocbiagbpljaadoor", sum := "3435923ac63b89540f678dae69693223b01a8326594b1065e0a4782c480396d3", func := "stockade/stockadelaw02.OctetsBack", spec := "octetsBack", inPlace := ["internal/reflectlite.TypeOf", "internal/reflectlite.ValueOf", "(internal/reflectlite.Value).Type", "(internal/reflectlite.Value).IsNil", "(internal/reflectlite.Value).Elem", "(internal/reflectlite.Value).Set"], unfollowed := true, recurses := true, named := ["errors.errorType"], apart := false, laid := [("errors.errorType", laid_errors_errorType)] }
def OctetsBackSaid : Prop := octetsBackRow.holds Tryd.pinned (OpenSpec.ofChange octetsBackSpec)

/-- ITS FALSE NEIGHBOUR: 'it returns false'. Refute it at one input. -/
def octetsBackWrong : ChangeSpec := { name := "octetsBack", fn := fun _ => fun
  | [d1, d2, d3] => { results := [.lit (.bool false)], args := [d1, d2, d3] }
  | _ => none }
def OctetsBackWrongFalsely : Prop := octetsBackRow.holds Tryd.pinned (OpenSpec.ofChange octetsBackWrong)

/-- 'stockadelaw05.EtherTells': WHATEVER THE INPUT: true; the input reads as it did. -/
def etherTellsSpec : ChangeSpec := { name := "etherTells", fn := fun _ => fun
  | [d1, d2, d3] => { results := [.lit (.bool true)], args := [d1, d2, d3] }
  | _ => none }
def etherTellsRow : OpenClaim := { program := "ytfmocbiagbpljaadoor", sum := "3435923ac63b89540f678dae69693223b01a8326594b1065e0a4782c480396d3", func := "stockade/stockadelaw05.EtherTells", spec := "etherTells", inPlace := ["internal/reflectlite.TypeOf", "internal/reflectlite.ValueOf", "(internal/reflectlite.Value).Type", "(internal/reflectlite.Value).IsNil", "(internal/reflectlite.Value).Elem", "(internal/reflectlite.Value).Set"], unfollowed := true, recurses := true, named := ["errors.errorType"], apart := false, laid := [("errors.errorType", laid_errors_errorType)] }
def EtherTellsSaid : Prop := etherTellsRow.holds Tryd.pinned (OpenSpec.ofChange etherTellsSpec)

/-- ITS FALSE NEIGHBOUR: 'it returns false'. Refute it at one input. -/
def etherTellsWrong : ChangeSpec := { name := "etherTells", fn := fun _ => fun
  | [d1, d2, d3] => { results := [.lit (.bool false)], args := [d1, d2, d3] }
  | _ => none }
def EtherTellsWrongFalsely : Prop := etherTellsRow.holds Tryd.pinned (OpenSpec.ofChange etherTellsWrong)

/-- 'stockadelaw05.EtherBack': WHATEVER THE INPUT: true; the input reads as it did. -/
def etherBackSpec : ChangeSpec := { name := "etherBack", fn := fun _ => fun
  | [d1, d2, d3, d4, d5] => { results := [.lit (.bool true)], args := [d1, d2, d3, d4, d5] }
  | _ => none }
def etherBackRow : OpenClaim := { program := "ytfmocbiagbpljaadoor", sum := "3435923ac63b89540f678dae69693223b01a8326594b1065e0a4782c480396d3", func := "stockade/stockadelaw05.EtherBack", spec := "etherBack", inPlace := ["internal/reflectlite.TypeOf", "internal/reflectlite.ValueOf", "(internal/reflectlite.Value).Type", "(internal/reflectlite.Value).IsNil", "(internal/reflectlite.Value).Elem", "(internal/reflectlite.Value).Set"], unfollowed := true, recurses := true, named := ["errors.errorType"], apart := false, laid := [("errors.errorType", laid_errors_errorType)] }
def EtherBackSaid : Prop := etherBackRow.holds Tryd.pinned (OpenSpec.ofChange etherBackSpec)

/-- ITS FALSE NEIGHBOUR: 'it returns false'. Refute it at one input. -/
def etherBackWrong : ChangeSpec := { name := "etherBack", fn := fun _ => fun
  | [d1, d2, d3, d4, d5] => { results := [.lit (.bool false)], args := [d1, d2, d3, d4, d5] }
  | _ => none }
def EtherBackWrongFalsely : Prop := etherBackRow.holds Tryd.pinned (OpenSpec.ofChange etherBackWrong)

/-- 'stockadelaw05.EtherShort': WHATEVER THE INPUT: true; the input reads as it did. -/
def etherShortSpec : ChangeSpec := { name := "etherShort", fn := fun _ => fun
  | [d1, d2, d3] => { results := [.lit (.bool true)], args := [d1, d2, d3] }
  | _ => none }
def etherShortRow : OpenClaim := { program := "ytfmocbiagbpljaadoor", sum := "3435923ac63b89540f678dae69693223b01a8326594b1065e0a4782c480396d3", func := "stockade/stockadelaw05.EtherShort", spec := "etherShort", inPlace := ["internal/reflectlite.TypeOf", "internal/reflectlite.ValueOf", "(internal/reflectlite.Value).Type", "(internal/reflectlite.Value).IsNil", "(internal/reflectlite.Value).Elem", "(internal/reflectlite.Value).Set"], unfollowed := true, recurses := true, named := ["errors.errorType"], apart := false, laid := [("errors.errorType", laid_errors_errorType)] }
def EtherShortSaid : Prop := etherShortRow.holds Tryd.pinned (OpenSpec.ofChange etherShortSpec)

/-- ITS FALSE NEIGHBOUR: 'it returns false'. Refute it at one input. -/
def etherShortWrong : ChangeSpec := { name := "etherShort", fn := fun _ => fun
  | [d1, d2, d3] => { results := [.lit (.bool false)], args := [d1, d2, d3] }
  | _ => none }
def EtherShortWrongFalsely : Prop := etherShortRow.holds Tryd.pinned (OpenSpec.ofChange etherShortWrong)

/- THE SECOND FORM. 'bulk': how many values and letters a reading holds, each counted each time it is reached (what is shared counts as often as it is met; a slice's spare places count too). A statement '..UptoSaid' is the law's where the arguments, and the package variables that the reading takes, are together of bulk at most 1048576: NARROWER than '..Said'. Prove '..Said' where nothing that the law and all that it calls make is longer than what came in: it says more and counts as full. Else prove '..UptoSaid'. A law counts once. -/
mutual
def uptoBulk {H : Type} : DataW H → Nat
  | .lit (.string bytes) => bytes.length + 1
  | .lit _ => 1
  | .nil => 1
  | .ptr d => uptoBulk d + 1
  | .slice elems spare => uptoBulkAll elems + uptoBulkAll spare + 1
  | .agg parts => uptoBulkAll parts + 1
  | .iface _ d => uptoBulk d + 1
  | .map entries => uptoBulkEntries entries + 1
  | .held _ => 1
def uptoBulkAll {H : Type} : List (DataW H) → Nat
  | [] => 0
  | d :: r => uptoBulk d + uptoBulkAll r
def uptoBulkEntries {H : Type} : List (Lit × DataW H) → Nat
  | [] => 0
  | x :: r => uptoBulkEntry x + uptoBulkEntries r
def uptoBulkEntry {H : Type} : Lit × DataW H → Nat
  | (.string bytes, d) => bytes.length + uptoBulk d + 1
  | (_, d) => uptoBulk d + 1
 end
def uptoSmall : (H : Type) → List (DataW H) → Bool := fun _ ds => decide (uptoBulkAll ds ≤ 1048576)
def OpenSpec.upto (s : _root_.Go.ChangeSpec) : _root_.Go.OpenSpec := { _root_.Go.OpenSpec.ofChange s with cond := some uptoSmall }

/-- 'stockadelaw01.FaultNests', WHERE WHAT IT READS IS OF BULK AT MOST 1048576: true; the input reads as it did. -/
def faultNestsUptoRow : OpenClaim := { program := "ytfmocbiagbpljaadoor", sum := "3435923ac63b89540f678dae69693223b01a8326594b1065e0a4782c480396d3", func := "stockade/stockadelaw01.FaultNests", spec := "faultNests", inPlace := ["internal/reflectlite.ValueOf", "(internal/reflectlite.Value).Type", "(internal/reflectlite.Value).IsNil", "internal/reflectlite.TypeOf", "(internal/reflectlite.Value).Elem", "(internal/reflectlite.Value).Set"], unfollowed := true, recurses := true, named := ["errors.errorType"], apart := false, laid := [("errors.errorType", laid_errors_errorType)], narrowed := true }
def FaultNestsUptoSaid : Prop := faultNestsUptoRow.holds Tryd.pinned (OpenSpec.upto faultNestsSpec)

/-- 'stockadelaw01.FaultWraps', WHERE WHAT IT READS IS OF BULK AT MOST 1048576: true; the input reads as it did. -/
def faultWrapsUptoRow : OpenClaim := { program := "ytfmocbiagbpljaadoor", sum := "3435923ac63b89540f678dae69693223b01a8326594b1065e0a4782c480396d3", func := "stockade/stockadelaw01.FaultWraps", spec := "faultWraps", inPlace := ["internal/reflectlite.ValueOf", "(internal/reflectlite.Value).Type", "(internal/reflectlite.Value).IsNil", "internal/reflectlite.TypeOf", "(internal/reflectlite.Value).Elem", "(internal/reflectlite.Value).Set"], unfollowed := true, recurses := true, named := ["errors.errorType"], apart := false, laid := [("errors.errorType", laid_errors_errorType)], narrowed := true }
def FaultWrapsUptoSaid : Prop := faultWrapsUptoRow.holds Tryd.pinned (OpenSpec.upto faultWrapsSpec)

/-- 'stockadelaw01.FaultDeeper', WHERE WHAT IT READS IS OF BULK AT MOST 1048576: true; the input reads as it did. -/
def faultDeeperUptoRow : OpenClaim := { program := "ytfmocbiagbpljaadoor", sum := "3435923ac63b89540f678dae69693223b01a8326594b1065e0a4782c480396d3", func := "stockade/stockadelaw01.FaultDeeper", spec := "faultDeeper", inPlace := ["internal/reflectlite.ValueOf", "(internal/reflectlite.Value).Type", "(internal/reflectlite.Value).IsNil", "internal/reflectlite.TypeOf", "(internal/reflectlite.Value).Elem", "(internal/reflectlite.Value).Set"], unfollowed := true, recurses := true, named := ["errors.errorType"], apart := false, laid := [("errors.errorType", laid_errors_errorType)], narrowed := true }
def FaultDeeperUptoSaid : Prop := faultDeeperUptoRow.holds Tryd.pinned (OpenSpec.upto faultDeeperSpec)

/-- 'stockadelaw01.FaultTexts', WHERE WHAT IT READS IS OF BULK AT MOST 1048576: true; the input reads as it did. -/
def faultTextsUptoRow : OpenClaim := { program := "ytfmocbiagbpljaadoor", sum := "3435923ac63b89540f678dae69693223b01a8326594b1065e0a4782c480396d3", func := "stockade/stockadelaw01.FaultTexts", spec := "faultTexts", inPlace := ["internal/reflectlite.ValueOf", "(internal/reflectlite.Value).Type", "(internal/reflectlite.Value).IsNil", "internal/reflectlite.TypeOf", "(internal/reflectlite.Value).Elem", "(internal/reflectlite.Value).Set"], unfollowed := true, recurses := true, named := ["errors.errorType"], apart := false, laid := [("errors.errorType", laid_errors_errorType)], narrowed := true }
def FaultTextsUptoSaid : Prop := faultTextsUptoRow.holds Tryd.pinned (OpenSpec.upto faultTextsSpec)

/-- 'stockadelaw02.OctetsParts', WHERE WHAT IT READS IS OF BULK AT MOST 1048576: true; the input reads as it did. -/
def octetsPartsUptoRow : OpenClaim := { program := "ytfmocbiagbpljaadoor", sum := "3435923ac63b89540f678dae69693223b01a8326594b1065e0a4782c480396d3", func := "stockade/stockadelaw02.OctetsParts", spec := "octetsParts", inPlace := ["internal/reflectlite.TypeOf", "internal/reflectlite.ValueOf", "(internal/reflectlite.Value).Type", "(internal/reflectlite.Value).IsNil", "(internal/reflectlite.Value).Elem", "(internal/reflectlite.Value).Set"], unfollowed := true, recurses := true, named := ["errors.errorType"], apart := false, laid := [("errors.errorType", laid_errors_errorType)], narrowed := true }
def OctetsPartsUptoSaid : Prop := octetsPartsUptoRow.holds Tryd.pinned (OpenSpec.upto octetsPartsSpec)

/-- 'stockadelaw02.OctetsEdges', WHERE WHAT IT READS IS OF BULK AT MOST 1048576: true; the input reads as it did. -/
def octetsEdgesUptoRow : OpenClaim := { program := "ytfmocbiagbpljaadoor", sum := "3435923ac63b89540f678dae69693223b01a8326594b1065e0a4782c480396d3", func := "stockade/stockadelaw02.OctetsEdges", spec := "octetsEdges", inPlace := ["internal/reflectlite.TypeOf", "internal/reflectlite.ValueOf", "(internal/reflectlite.Value).Type", "(internal/reflectlite.Value).IsNil", "(internal/reflectlite.Value).Elem", "(internal/reflectlite.Value).Set"], unfollowed := true, recurses := true, named := ["errors.errorType"], apart := false, laid := [("errors.errorType", laid_errors_errorType)], narrowed := true }
def OctetsEdgesUptoSaid : Prop := octetsEdgesUptoRow.holds Tryd.pinned (OpenSpec.upto octetsEdgesSpec)

/-- 'stockadelaw02.OctetsTell', WHERE WHAT IT READS IS OF BULK AT MOST 1048576: true; the input reads as it did. -/
def octetsTellUptoRow : OpenClaim := { program := "ytfmocbiagbpljaadoor", sum := "3435923ac63b89540f678dae69693223b01a8326594b1065e0a4782c480396d3", func := "stockade/stockadelaw02.OctetsTell", spec := "octetsTell", inPlace := ["internal/reflectlite.TypeOf", "internal/reflectlite.ValueOf", "(internal/reflectlite.Value).Type", "(internal/reflectlite.Value).IsNil", "(internal/reflectlite.Value).Elem", "(internal/reflectlite.Value).Set"], unfollowed := true, recurses := true, named := ["errors.errorType"], apart := false, laid := [("errors.errorType", laid_errors_errorType)], narrowed := true }
def OctetsTellUptoSaid : Prop := octetsTellUptoRow.holds Tryd.pinned (OpenSpec.upto octetsTellSpec)

/-- 'stockadelaw02.OctetsBack', WHERE WHAT IT READS IS OF BULK AT MOST 1048576: true; the input reads as it did. -/
def octetsBackUptoRow : OpenClaim := { program := "ytfmocbiagbpljaadoor", sum := "3435923ac63b89540f678dae69693223b01a8326594b1065e0a4782c480396d3", func := "stockade/stockadelaw02.OctetsBack", spec := "octetsBack", inPlace := ["internal/reflectlite.TypeOf", "internal/reflectlite.ValueOf", "(internal/reflectlite.Value).Type", "(internal/reflectlite.Value).IsNil", "(internal/reflectlite.Value).Elem", "(internal/reflectlite.Value).Set"], unfollowed := true, recurses := true, named := ["errors.errorType"], apart := false, laid := [("errors.errorType", laid_errors_errorType)], narrowed := true }
def OctetsBackUptoSaid : Prop := octetsBackUptoRow.holds Tryd.pinned (OpenSpec.upto octetsBackSpec)

/-- 'stockadelaw05.EtherTells', WHERE WHAT IT READS IS OF BULK AT MOST 1048576: true; the input reads as it did. -/
def etherTellsUptoRow : OpenClaim := { program := "ytfmocbiagbpljaadoor", sum := "3435923ac63b89540f678dae69693223b01a8326594b1065e0a4782c480396d3", func := "stockade/stockadelaw05.EtherTells", spec := "etherTells", inPlace := ["internal/reflectlite.TypeOf", "internal/reflectlite.ValueOf", "(internal/reflectlite.Value).Type", "(internal/reflectlite.Value).IsNil", "(internal/reflectlite.Value).Elem", "(internal/reflectlite.Value).Set"], unfollowed := true, recurses := true, named := ["errors.errorType"], apart := false, laid := [("errors.errorType", laid_errors_errorType)], narrowed := true }
def EtherTellsUptoSaid : Prop := etherTellsUptoRow.holds Tryd.pinned (OpenSpec.upto etherTellsSpec)

/-- 'stockadelaw05.EtherBack', WHERE WHAT IT READS IS OF BULK AT MOST 1048576: true; the input reads as it did. -/
def etherBackUptoRow : OpenClaim := { program := "ytfmocbiagbpljaadoor", sum := "3435923ac63b89540f678dae69693223b01a8326594b1065e0a4782c480396d3", func := "stockade/stockadelaw05.EtherBack", spec := "etherBack", inPlace := ["internal/reflectlite.TypeOf", "internal/reflectlite.ValueOf", "(internal/reflectlite.Value).Type", "(internal/reflectlite.Value).IsNil", "(internal/reflectlite.Value).Elem", "(internal/reflectlite.Value).Set"], unfollowed := true, recurses := true, named := ["errors.errorType"], apart := false, laid := [("errors.errorType", laid_errors_errorType)], narrowed := true }
def EtherBackUptoSaid : Prop := etherBackUptoRow.holds Tryd.pinned (OpenSpec.upto etherBackSpec)

/-- 'stockadelaw05.EtherShort', WHERE WHAT IT READS IS OF BULK AT MOST 1048576: true; the input reads as it did. -/
def etherShortUptoRow : OpenClaim := { program := "ytfmocbiagbpljaadoor", sum := "3435923ac63b89540f678dae69693223b01a8326594b1065e0a4782c480396d3", func := "stockade/stockadelaw05.EtherShort", spec := "etherShort", inPlace := ["internal/reflectlite.TypeOf", "internal/reflectlite.ValueOf", "(internal/reflectlite.Value).Type", "(internal/reflectlite.Value).IsNil", "(internal/reflectlite.Value).Elem", "(internal/reflectlite.Value).Set"], unfollowed := true, recurses := true, named := ["errors.errorType"], apart := false, laid := [("errors.errorType", laid_errors_errorType)], narrowed := true }
def EtherShortUptoSaid : Prop := etherShortUptoRow.holds Tryd.pinned (OpenSpec.upto etherShortSpec)

end Rows
end Go.Proofs.YtfmocbiagbpljaaDoor
