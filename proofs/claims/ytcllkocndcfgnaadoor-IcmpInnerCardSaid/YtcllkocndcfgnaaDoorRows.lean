/-
  NARROWER THAN 'FOR EVERY INPUT', by the rows' own cells (each row's printed sentence says how): Ip6Tells: laid · Ip6Back: laid · Ip6Heads: laid · Ip6Refuses: laid · IcmpTells: laid · IcmpBack: laid · IcmpInner: laid · IcmpRefuses: laid.
  DERIVED. THE GIVEN ROWS OF THIS SEAT. 8 by the template 'for every input the law returns true; each argument reads behind the call as it read before'; 0 by the template 'total and deterministic' (their statements: YtcllkocndcfgnaaDoorTotals.lean).
  GIVEN WITH THE SEED: the statements are not yours to turn. If you find one false, say at which input.
  Laid BY PROGRAM, IN A SANDBOX (cutbox-rows.mjs): the forced cells as the released guide's own fill.sh prints them over the translation a8389aacce251479… (all of the seat's roots in one cut). By AI agents, Wed Nov 11 2026. No macro, syntax, notation, axiom, sorry.
-/
import Derived.Test.YtcllkocndcfgnaaDoorChecked
import GoSem.Claim
import GoSem.ClaimJoined
import GoSem.ClaimMapViews
import Derived.JoinedTies
import Derived.KernelRfl
namespace Go.Proofs.YtcllkocndcfgnaaDoor
/- THE CELL 'sum', in the pinned program and in every row, IS THE sha256 OF THE DUMP (.gsa) THAT YtcllkocndcfgnaaDoorProg.lean LOADS. Nothing in Lean hashes anything: it is a label: what it is worth is what the hold of that sum in a sandbox is worth. -/
noncomputable def Tryd.pinned : Pinned := { name := "ytcllkocndcfgnaadoor", sum := "a8389aacce251479fd2ad8ffad5a88f0cc7630f96a66ebb7bb26513c35e79816", checked := Tryd.checked }
namespace Rows
def none {H : Type} : Left H := { results := [], args := [] }

/- WHAT THE LISTED PACKAGE-LEVEL VARIABLES READ AS WHEN THE CALL BEGINS. Each datum BY PROGRAM (the guide's laid-datum.mjs) off the statement by which the dump's own 'gosem.cut.vars' lays the variable. In a bare row this is a premise. The card (YtcllkocndcfgnaaDoorCards.lean) ties it to the program's text. -/
def laid_errors_errorType {H : Type} : DataW H := .iface "internal/reflectlite.rtype" (.agg [.ptr (.lit (.string [101, 114, 114, 111, 114]))])

/-- 'stockadelaw07.Ip6Tells': WHATEVER THE INPUT: true; the input reads as it did. -/
def ip6TellsSpec : ChangeSpec := { name := "ip6Tells", fn := fun _ => fun
  | [d1, d2, d3, d4, d5] => { results := [.lit (.bool true)], args := [d1, d2, d3, d4, d5] }
  | _ => none }
def ip6TellsRow : OpenClaim := { program := "ytcllkocndcfgnaadoor", sum := "a8389aacce251479fd2ad8ffad5a88f0cc7630f96a66ebb7bb26513c35e79816", func := "stockade/stockadelaw07.Ip6Tells", spec := "ip6Tells", inPlace := ["internal/reflectlite.TypeOf", "internal/reflectlite.ValueOf", "(internal/reflectlite.Value).Type", "(internal/reflectlite.Value).IsNil", "(internal/reflectlite.Value).Elem", "(internal/reflectlite.Value).Set"], unfollowed := true, recurses := true, named := ["errors.errorType"], apart := false, laid := [("errors.errorType", laid_errors_errorType)] }
def Ip6TellsSaid : Prop := ip6TellsRow.holds Tryd.pinned (OpenSpec.ofChange ip6TellsSpec)

/-- ITS FALSE NEIGHBOUR: 'it returns false'. Refute it at one input. -/
def ip6TellsWrong : ChangeSpec := { name := "ip6Tells", fn := fun _ => fun
  | [d1, d2, d3, d4, d5] => { results := [.lit (.bool false)], args := [d1, d2, d3, d4, d5] }
  | _ => none }
def Ip6TellsWrongFalsely : Prop := ip6TellsRow.holds Tryd.pinned (OpenSpec.ofChange ip6TellsWrong)

/-- 'stockadelaw07.Ip6Back': WHATEVER THE INPUT: true; the input reads as it did. -/
def ip6BackSpec : ChangeSpec := { name := "ip6Back", fn := fun _ => fun
  | [d1, d2, d3, d4, d5, d6] => { results := [.lit (.bool true)], args := [d1, d2, d3, d4, d5, d6] }
  | _ => none }
def ip6BackRow : OpenClaim := { program := "ytcllkocndcfgnaadoor", sum := "a8389aacce251479fd2ad8ffad5a88f0cc7630f96a66ebb7bb26513c35e79816", func := "stockade/stockadelaw07.Ip6Back", spec := "ip6Back", inPlace := ["internal/reflectlite.TypeOf", "internal/reflectlite.ValueOf", "(internal/reflectlite.Value).Type", "(internal/reflectlite.Value).IsNil", "(internal/reflectlite.Value).Elem", "(internal/reflectlite.Value).Set"], unfollowed := true, recurses := true, named := ["errors.errorType"], apart := false, laid := [("errors.errorType", laid_errors_errorType)] }
def Ip6BackSaid : Prop := ip6BackRow.holds Tryd.pinned (OpenSpec.ofChange ip6BackSpec)

/-- ITS FALSE NEIGHBOUR: 'it returns false'. Refute it at one input. -/
def ip6BackWrong : ChangeSpec := { name := "ip6Back", fn := fun _ => fun
  | [d1, d2, d3, d4, d5, d6] => { results := [.lit (.bool false)], args := [d1, d2, d3, d4, d5, d6] }
  | _ => none }
def Ip6BackWrongFalsely : Prop := ip6BackRow.holds Tryd.pinned (OpenSpec.ofChange ip6BackWrong)

/-- 'stockadelaw07.Ip6Heads': WHATEVER THE INPUT: true; the input reads as it did. -/
def ip6HeadsSpec : ChangeSpec := { name := "ip6Heads", fn := fun _ => fun
  | [d1, d2, d3, d4] => { results := [.lit (.bool true)], args := [d1, d2, d3, d4] }
  | _ => none }
def ip6HeadsRow : OpenClaim := { program := "ytcllkocndcfgnaadoor", sum := "a8389aacce251479fd2ad8ffad5a88f0cc7630f96a66ebb7bb26513c35e79816", func := "stockade/stockadelaw07.Ip6Heads", spec := "ip6Heads", inPlace := ["internal/reflectlite.TypeOf", "internal/reflectlite.ValueOf", "(internal/reflectlite.Value).Type", "(internal/reflectlite.Value).IsNil", "(internal/reflectlite.Value).Elem", "(internal/reflectlite.Value).Set"], unfollowed := true, recurses := true, named := ["errors.errorType"], apart := false, laid := [("errors.errorType", laid_errors_errorType)] }
def Ip6HeadsSaid : Prop := ip6HeadsRow.holds Tryd.pinned (OpenSpec.ofChange ip6HeadsSpec)

/-- ITS FALSE NEIGHBOUR: 'it returns false'. Refute it at one input. -/
def ip6HeadsWrong : ChangeSpec := { name := "ip6Heads", fn := fun _ => fun
  | [d1, d2, d3, d4] => { results := [.lit (.bool false)], args := [d1, d2, d3, d4] }
  | _ => none }
def Ip6HeadsWrongFalsely : Prop := ip6HeadsRow.holds Tryd.pinned (OpenSpec.ofChange ip6HeadsWrong)

/-- 'stockadelaw07.Ip6Refuses': WHATEVER THE INPUT: true; the input reads as it did. -/
def ip6RefusesSpec : ChangeSpec := { name := "ip6Refuses", fn := fun _ => fun
  | [d1, d2] => { results := [.lit (.bool true)], args := [d1, d2] }
  | _ => none }
def ip6RefusesRow : OpenClaim := { program := "ytcllkocndcfgnaadoor", sum := "a8389aacce251479fd2ad8ffad5a88f0cc7630f96a66ebb7bb26513c35e79816", func := "stockade/stockadelaw07.Ip6Refuses", spec := "ip6Refuses", inPlace := ["internal/reflectlite.TypeOf", "internal/reflectlite.ValueOf", "(internal/reflectlite.Value).Type", "(internal/reflectlite.Value).IsNil", "(internal/reflectlite.Value).Elem", "(internal/reflectlite.Value).Set"], unfollowed := true, recurses := true, named := ["errors.errorType"], apart := false, laid := [("errors.errorType", laid_errors_errorType)] }
def Ip6RefusesSaid : Prop := ip6RefusesRow.holds Tryd.pinned (OpenSpec.ofChange ip6RefusesSpec)

/-- ITS FALSE NEIGHBOUR: 'it returns false'. Refute it at one input. -/
def ip6RefusesWrong : ChangeSpec := { name := "ip6Refuses", fn := fun _ => fun
  | [d1, d2] => { results := [.lit (.bool false)], args := [d1, d2] }
  | _ => none }
def Ip6RefusesWrongFalsely : Prop := ip6RefusesRow.holds Tryd.pinned (OpenSpec.ofChange ip6RefusesWrong)

/-- 'stockadelaw10.IcmpTells': WHATEVER THE INPUT: true; the input reads as it did. -/
def icmpTellsSpec : ChangeSpec := { name := "icmpTells", fn := fun _ => fun
  | [d1, d2, d3, d4, d5] => { results := [.lit (.bool true)], args := [d1, d2, d3, d4, d5] }
  | _ => none }
def icmpTellsRow : OpenClaim := { program := "ytcllkocndcfgnaadoor", sum := "a8389aacce251479fd2ad8ffad5a88f0cc7630f96a66ebb7bb26513c35e79816", func := "stockade/stockadelaw10.IcmpTells", spec := "icmpTells", inPlace := ["internal/reflectlite.TypeOf", "internal/reflectlite.ValueOf", "(internal/reflectlite.Value).Type", "(internal/reflectlite.Value).IsNil", "(internal/reflectlite.Value).Elem", "(internal/reflectlite.Value).Set"], unfollowed := true, recurses := true, named := ["errors.errorType"], apart := false, laid := [("errors.errorType", laid_errors_errorType)] }
def IcmpTellsSaid : Prop := icmpTellsRow.holds Tryd.pinned (OpenSpec.ofChange icmpTellsSpec)

/-- ITS FALSE NEIGHBOUR: 'it returns false'. Refute it at one input. -/
def icmpTellsWrong : ChangeSpec := { name := "icmpTells", fn := fun _ => fun
  | [d1, d2, d3, d4, d5] => { results := [.lit (.bool false)], args := [d1, d2, d3, d4, d5] }
  | _ => none }
def IcmpTellsWrongFalsely : Prop := icmpTellsRow.holds Tryd.pinned (OpenSpec.ofChange icmpTellsWrong)

/-- 'stockadelaw10.IcmpBack': WHATEVER THE INPUT: true; the input reads as it did. -/
def icmpBackSpec : ChangeSpec := { name := "icmpBack", fn := fun _ => fun
  | [d1, d2, d3, d4, d5] => { results := [.lit (.bool true)], args := [d1, d2, d3, d4, d5] }
  | _ => none }
def icmpBackRow : OpenClaim := { program := "ytcllkocndcfgnaadoor", sum := "a8389aacce251479fd2ad8ffad5a88f0cc7630f96a66ebb7bb26513c35e79816", func := "stockade/stockadelaw10.IcmpBack", spec := "icmpBack", inPlace := ["internal/reflectlite.TypeOf", "internal/reflectlite.ValueOf", "(internal/reflectlite.Value).Type", "(internal/reflectlite.Value).IsNil", "(internal/reflectlite.Value).Elem", "(internal/reflectlite.Value).Set"], unfollowed := true, recurses := true, named := ["errors.errorType"], apart := false, laid := [("errors.errorType", laid_errors_errorType)] }
def IcmpBackSaid : Prop := icmpBackRow.holds Tryd.pinned (OpenSpec.ofChange icmpBackSpec)

/-- ITS FALSE NEIGHBOUR: 'it returns false'. Refute it at one input. -/
def icmpBackWrong : ChangeSpec := { name := "icmpBack", fn := fun _ => fun
  | [d1, d2, d3, d4, d5] => { results := [.lit (.bool false)], args := [d1, d2, d3, d4, d5] }
  | _ => none }
def IcmpBackWrongFalsely : Prop := icmpBackRow.holds Tryd.pinned (OpenSpec.ofChange icmpBackWrong)

/-- 'stockadelaw10.IcmpInner': WHATEVER THE INPUT: true; the input reads as it did. -/
def icmpInnerSpec : ChangeSpec := { name := "icmpInner", fn := fun _ => fun
  | [d1, d2, d3, d4, d5, d6] => { results := [.lit (.bool true)], args := [d1, d2, d3, d4, d5, d6] }
  | _ => none }
def icmpInnerRow : OpenClaim := { program := "ytcllkocndcfgnaadoor", sum := "a8389aacce251479fd2ad8ffad5a88f0cc7630f96a66ebb7bb26513c35e79816", func := "stockade/stockadelaw10.IcmpInner", spec := "icmpInner", inPlace := ["internal/reflectlite.TypeOf", "internal/reflectlite.ValueOf", "(internal/reflectlite.Value).Type", "(internal/reflectlite.Value).IsNil", "(internal/reflectlite.Value).Elem", "(internal/reflectlite.Value).Set"], unfollowed := true, recurses := true, named := ["errors.errorType"], apart := false, laid := [("errors.errorType", laid_errors_errorType)] }
def IcmpInnerSaid : Prop := icmpInnerRow.holds Tryd.pinned (OpenSpec.ofChange icmpInnerSpec)

/-- ITS FALSE NEIGHBOUR: 'it returns false'. Refute it at one input. -/
def icmpInnerWrong : ChangeSpec := { name := "icmpInner", fn := fun _ => fun
  | [d1, d2, d3, d4, d5, d6] => { results := [.lit (.bool false)], args := [d1, d2, d3, d4, d5, d6] }
  | _ => none }
def IcmpInnerWrongFalsely : Prop := icmpInnerRow.holds Tryd.pinned (OpenSpec.ofChange icmpInnerWrong)

/-- 'stockadelaw10.IcmpRefuses': WHATEVER THE INPUT: true; the input reads as it did. -/
def icmpRefusesSpec : ChangeSpec := { name := "icmpRefuses", fn := fun _ => fun
  | [d1, d2] => { results := [.lit (.bool true)], args := [d1, d2] }
  | _ => none }
def icmpRefusesRow : OpenClaim := { program := "ytcllkocndcfgnaadoor", sum := "a8389aacce251479fd2ad8ffad5a88f0cc7630f96a66ebb7bb26513c35e79816", func := "stockade/stockadelaw10.IcmpRefuses", spec := "icmpRefuses", inPlace := ["internal/reflectlite.TypeOf", "internal/reflectlite.ValueOf", "(internal/reflectlite.Value).Type", "(internal/reflectlite.Value).IsNil", "(internal/reflectlite.Value).Elem", "(internal/reflectlite.Value).Set"], unfollowed := true, recurses := true, named := ["errors.errorType"], apart := false, laid := [("errors.errorType", laid_errors_errorType)] }
def IcmpRefusesSaid : Prop := icmpRefusesRow.holds Tryd.pinned (OpenSpec.ofChange icmpRefusesSpec)

/-- ITS FALSE NEIGHBOUR: 'it returns false'. Refute it at one input. -/
def icmpRefusesWrong : ChangeSpec := { name := "icmpRefuses", fn := fun _ => fun
  | [d1, d2] => { results := [.lit (.bool false)], args := [d1, d2] }
  | _ => none }
def IcmpRefusesWrongFalsely : Prop := icmpRefusesRow.holds Tryd.pinned (OpenSpec.ofChange icmpRefusesWrong)

/- THE SECOND FORM. 'bulk': how many values and letters a reading holds, each counted each time it is reached (what is shared counts as often as it is met; a slice's spare places count too). A statement '..UptoSaid' is the law's where the arguments, and the package variables that the reading takes, are together of bulk at most 1048576: NARROWER than '..Said'. Prove '..Said' where nothing that the law and all that it calls make is longer than what came in: it says more and counts as full. Else prove '..UptoSaid'. A law counts once. -/
mutual
def uptoBulk {H : Type} : DataW H → Nat
  | .lit (.string bytes) => bytes.length + 1
  | .lit _ => 1
  | .nil => 1
  | .ptr d => uptoBulk d + 1
  | .slice elems spare => uptoBulkAll elems + uptoBulkAll spare + 1
  | .agg parts => uptoBulkAll parts + 1
  | .iface _ d => uptoBulk d + 1
  | .map entries => uptoBulkEntries entries + 1
  | .held _ => 1
def uptoBulkAll {H : Type} : List (DataW H) → Nat
  | [] => 0
  | d :: r => uptoBulk d + uptoBulkAll r
def uptoBulkEntries {H : Type} : List (Lit × DataW H) → Nat
  | [] => 0
  | x :: r => uptoBulkEntry x + uptoBulkEntries r
def uptoBulkEntry {H : Type} : Lit × DataW H → Nat
  | (.string bytes, d) => bytes.length + uptoBulk d + 1
  | (_, d) => uptoBulk d + 1
 end
def uptoSmall : (H : Type) → List (DataW H) → Bool := fun _ ds => decide (uptoBulkAll ds ≤ 1048576)
def OpenSpec.upto (s : _root_.Go.ChangeSpec) : _root_.Go.OpenSpec := { _root_.Go.OpenSpec.ofChange s with cond := some uptoSmall }

/-- 'stockadelaw07.Ip6Tells', WHERE WHAT IT READS IS OF BULK AT MOST 1048576: true; the input reads as it did. -/
def ip6TellsUptoRow : OpenClaim := { program := "ytcllkocndcfgnaadoor", sum := "a8389aacce251479fd2ad8ffad5a88f0cc7630f96a66ebb7bb26513c35e79816", func := "stockade/stockadelaw07.Ip6Tells", spec := "ip6Tells", inPlace := ["internal/reflectlite.TypeOf", "internal/reflectlite.ValueOf", "(internal/reflectlite.Value).Type", "(internal/reflectlite.Value).IsNil", "(internal/reflectlite.Value).Elem", "(internal/reflectlite.Value).Set"], unfollowed := true, recurses := true, named := ["errors.errorType"], apart := false, laid := [("errors.errorType", laid_errors_errorType)], narrowed := true }
def Ip6TellsUptoSaid : Prop := ip6TellsUptoRow.holds Tryd.pinned (OpenSpec.upto ip6TellsSpec)

/-- 'stockadelaw07.Ip6Back', WHERE WHAT IT READS IS OF BULK AT MOST 1048576: true; the input reads as it did. -/
def ip6BackUptoRow : OpenClaim := { program := "ytcllkocndcfgnaadoor", sum := "a8389aacce251479fd2ad8ffad5a88f0cc7630f96a66ebb7bb26513c35e79816", func := "stockade/stockadelaw07.Ip6Back", spec := "ip6Back", inPlace := ["internal/reflectlite.TypeOf", "internal/reflectlite.ValueOf", "(internal/reflectlite.Value).Type", "(internal/reflectlite.Value).IsNil", "(internal/reflectlite.Value).Elem", "(internal/reflectlite.Value).Set"], unfollowed := true, recurses := true, named := ["errors.errorType"], apart := false, laid := [("errors.errorType", laid_errors_errorType)], narrowed := true }
def Ip6BackUptoSaid : Prop := ip6BackUptoRow.holds Tryd.pinned (OpenSpec.upto ip6BackSpec)

/-- 'stockadelaw07.Ip6Heads', WHERE WHAT IT READS IS OF BULK AT MOST 1048576: true; the input reads as it did. -/
def ip6HeadsUptoRow : OpenClaim := { program := "ytcllkocndcfgnaadoor", sum := "a8389aacce251479fd2ad8ffad5a88f0cc7630f96a66ebb7bb26513c35e79816", func := "stockade/stockadelaw07.Ip6Heads", spec := "ip6Heads", inPlace := ["internal/reflectlite.TypeOf", "internal/reflectlite.ValueOf", "(internal/reflectlite.Value).Type", "(internal/reflectlite.Value).IsNil", "(internal/reflectlite.Value).Elem", "(internal/reflectlite.Value).Set"], unfollowed := true, recurses := true, named := ["errors.errorType"], apart := false, laid := [("errors.errorType", laid_errors_errorType)], narrowed := true }
def Ip6HeadsUptoSaid : Prop := ip6HeadsUptoRow.holds Tryd.pinned (OpenSpec.upto ip6HeadsSpec)

/-- 'stockadelaw07.Ip6Refuses', WHERE WHAT IT READS IS OF BULK AT MOST 1048576: true; the input reads as it did. -/
def ip6RefusesUptoRow : OpenClaim := { program := "ytcllkocndcfgnaadoor", sum := "a8389aacce251479fd2ad8ffad5a88f0cc7630f96a66ebb7bb26513c35e79816", func := "stockade/stockadelaw07.Ip6Refuses", spec := "ip6Refuses", inPlace := ["internal/reflectlite.TypeOf", "internal/reflectlite.ValueOf", "(internal/reflectlite.Value).Type", "(internal/reflectlite.Value).IsNil", "(internal/reflectlite.Value).Elem", "(internal/reflectlite.Value).Set"], unfollowed := true, recurses := true, named := ["errors.errorType"], apart := false, laid := [("errors.errorType", laid_errors_errorType)], narrowed := true }
def Ip6RefusesUptoSaid : Prop := ip6RefusesUptoRow.holds Tryd.pinned (OpenSpec.upto ip6RefusesSpec)

/-- 'stockadelaw10.IcmpTells', WHERE WHAT IT READS IS OF BULK AT MOST 1048576: true; the input reads as it did. -/
def icmpTellsUptoRow : OpenClaim := { program := "ytcllkocndcfgnaadoor", sum := "a8389aacce251479fd2ad8ffad5a88f0cc7630f96a66ebb7bb26513c35e79816", func := "stockade/stockadelaw10.IcmpTells", spec := "icmpTells", inPlace := ["internal/reflectlite.TypeOf", "internal/reflectlite.ValueOf", "(internal/reflectlite.Value).Type", "(internal/reflectlite.Value).IsNil", "(internal/reflectlite.Value).Elem", "(internal/reflectlite.Value).Set"], unfollowed := true, recurses := true, named := ["errors.errorType"], apart := false, laid := [("errors.errorType", laid_errors_errorType)], narrowed := true }
def IcmpTellsUptoSaid : Prop := icmpTellsUptoRow.holds Tryd.pinned (OpenSpec.upto icmpTellsSpec)

/-- 'stockadelaw10.IcmpBack', WHERE WHAT IT READS IS OF BULK AT MOST 1048576: true; the input reads as it did. -/
def icmpBackUptoRow : OpenClaim := { program := "ytcllkocndcfgnaadoor", sum := "a8389aacce251479fd2ad8ffad5a88f0cc7630f96a66ebb7bb26513c35e79816", func := "stockade/stockadelaw10.IcmpBack", spec := "icmpBack", inPlace := ["internal/reflectlite.TypeOf", "internal/reflectlite.ValueOf", "(internal/reflectlite.Value).Type", "(internal/reflectlite.Value).IsNil", "(internal/reflectlite.Value).Elem", "(internal/reflectlite.Value).Set"], unfollowed := true, recurses := true, named := ["errors.errorType"], apart := false, laid := [("errors.errorType", laid_errors_errorType)], narrowed := true }
def IcmpBackUptoSaid : Prop := icmpBackUptoRow.holds Tryd.pinned (OpenSpec.upto icmpBackSpec)

/-- 'stockadelaw10.IcmpInner', WHERE WHAT IT READS IS OF BULK AT MOST 1048576: true; the input reads as it did. -/
def icmpInnerUptoRow : OpenClaim := { program := "ytcllkocndcfgnaadoor", sum := "a8389aacce251479fd2ad8ffad5a88f0cc7630f96a66ebb7bb26513c35e79816", func := "stockade/stockadelaw10.IcmpInner", spec := "icmpInner", inPlace := ["internal/reflectlite.TypeOf", "internal/reflectlite.ValueOf", "(internal/reflectlite.Value).Type", "(internal/reflectlite.Value).IsNil", "(internal/reflectlite.Value).Elem", "(internal/reflectlite.Value).Set"], unfollowed := true, recurses := true, named := ["errors.errorType"], apart := false, laid := [("errors.errorType", laid_errors_errorType)], narrowed := true }
def IcmpInnerUptoSaid : Prop := icmpInnerUptoRow.holds Tryd.pinned (OpenSpec.upto icmpInnerSpec)

/-- 'stockadelaw10.IcmpRefuses', WHERE WHAT IT READS IS OF BULK AT MOST 1048576: true; the input reads as it did. -/
def icmpRefusesUptoRow : OpenClaim := { program := "ytcllkocndcfgnaadoor", sum := "a8389aacce251479fd2ad8ffad5a88f0cc7630f96a66ebb7bb26513c35e79816", func := "stockade/stockadelaw10.IcmpRefuses", spec := "icmpRefuses", inPlace := ["internal/reflectlite.TypeOf", "internal/reflectlite.ValueOf", "(internal/reflectlite.Value).Type", "(internal/reflectlite.Value).IsNil", "(internal/reflectlite.Value).Elem", "(internal/reflectlite.Value).Set"], unfollowed := true, recurses := true, named := ["errors.errorType"], apart := false, laid := [("errors.errorType", laid_errors_errorType)], narrowed := true }
def IcmpRefusesUptoSaid : Prop := icmpRefusesUptoRow.holds Tryd.pinned (OpenSpec.upto icmpRefusesSpec)

end Rows
end Go.Proofs.YtcllkocndcfgnaaDoor
