/-
  NARROWER THAN 'FOR EVERY INPUT', by the rows' own cells (each row's printed sentence says how): BundlesSpec: laid · BundlesClashSpec: laid · BundlesOfSpec: laid · BundlesAll: laid · BundlesApart: laid · BundlesBack: laid · BundlesOthers: laid.
  DERIVED. THE GIVEN ROWS OF THIS SEAT. 7 by the template 'for every input the law returns true; each argument reads behind the call as it read before'; 0 by the template 'total and deterministic' (their statements: YtbpgoddohhiohaaDoorTotals.lean).
  GIVEN WITH THE SEED: the statements are not yours to turn. If you find one false, say at which input.
  Laid BY PROGRAM, IN A SANDBOX (cutbox-rows.mjs): the forced cells as the released guide's own fill.sh prints them over the translation 9399551293697e95… (all of the seat's roots in one cut). By AI agents, Wed Nov 11 2026. No macro, syntax, notation, axiom, sorry.
-/
import Derived.Test.YtbpgoddohhiohaaDoorChecked
import GoSem.Claim
import GoSem.ClaimJoined
import GoSem.ClaimMapViews
import Derived.JoinedTies
import Derived.KernelRfl
namespace Go.Proofs.YtbpgoddohhiohaaDoor
/- THE CELL 'sum', in the pinned program and in every row, IS THE sha256 OF THE DUMP (.gsa) THAT YtbpgoddohhiohaaDoorProg.lean LOADS. Nothing in Lean hashes anything: it is a label: what it is worth is what the hold of that sum in a sandbox is worth. -/
noncomputable def Tryd.pinned : Pinned := { name := "ytbpgoddohhiohaadoor", sum := "9399551293697e953f0f3bcd5ccaa7977a78644e1ba2c4d7f1096e9c48d6080e", checked := Tryd.checked }
namespace Rows
def none {H : Type} : Left H := { results := [], args := [] }

/- WHAT THE LISTED PACKAGE-LEVEL VARIABLES READ AS WHEN THE CALL BEGINS. Each datum BY PROGRAM (the guide's laid-datum.mjs) off the statement by which the dump's own 'gosem.cut.vars' lays the variable. In a bare row this is a premise. The card (YtbpgoddohhiohaaDoorCards.lean) ties it to the program's text. -/
def laid_errors_errorType {H : Type} : DataW H := .iface "internal/reflectlite.rtype" (.agg [.ptr (.lit (.string [101, 114, 114, 111, 114]))])

/-- 'sizarlaw24.BundlesSpec': WHATEVER THE INPUT: true; the input reads as it did. -/
def bundlesSpecSpec : ChangeSpec := { name := "bundlesSpec", fn := fun _ => fun
  | [d1, d2, d3] => { results := [.lit (.bool true)], args := [d1, d2, d3] }
  | _ => none }
def bundlesSpecRow : OpenClaim := { program := "ytbpgoddohhiohaadoor", sum := "9399551293697e953f0f3bcd5ccaa7977a78644e1ba2c4d7f1096e9c48d6080e", func := "sizar/sizarlaw24.BundlesSpec", spec := "bundlesSpec", inPlace := ["internal/reflectlite.ValueOf", "(internal/reflectlite.Value).Type", "(internal/reflectlite.Value).IsNil", "internal/reflectlite.TypeOf", "(internal/reflectlite.Value).Elem", "(internal/reflectlite.Value).Set"], unfollowed := true, recurses := true, named := ["errors.errorType"], apart := false, laid := [("errors.errorType", laid_errors_errorType)] }
def BundlesSpecSaid : Prop := bundlesSpecRow.holds Tryd.pinned (OpenSpec.ofChange bundlesSpecSpec)

/-- ITS FALSE NEIGHBOUR: 'it returns false'. Refute it at one input. -/
def bundlesSpecWrong : ChangeSpec := { name := "bundlesSpec", fn := fun _ => fun
  | [d1, d2, d3] => { results := [.lit (.bool false)], args := [d1, d2, d3] }
  | _ => none }
def BundlesSpecWrongFalsely : Prop := bundlesSpecRow.holds Tryd.pinned (OpenSpec.ofChange bundlesSpecWrong)

/-- 'sizarlaw24.BundlesClashSpec': WHATEVER THE INPUT: true; the input reads as it did. -/
def bundlesClashSpecSpec : ChangeSpec := { name := "bundlesClashSpec", fn := fun _ => fun
  | [d1, d2, d3] => { results := [.lit (.bool true)], args := [d1, d2, d3] }
  | _ => none }
def bundlesClashSpecRow : OpenClaim := { program := "ytbpgoddohhiohaadoor", sum := "9399551293697e953f0f3bcd5ccaa7977a78644e1ba2c4d7f1096e9c48d6080e", func := "sizar/sizarlaw24.BundlesClashSpec", spec := "bundlesClashSpec", inPlace := ["internal/reflectlite.ValueOf", "(internal/reflectlite.Value).Type", "(internal/reflectlite.Value).IsNil", "internal/reflectlite.TypeOf", "(internal/reflectlite.Value).Elem", "(internal/reflectlite.Value).Set"], unfollowed := true, recurses := true, named := ["errors.errorType"], apart := false, laid := [("errors.errorType", laid_errors_errorType)] }
def BundlesClashSpecSaid : Prop := bundlesClashSpecRow.holds Tryd.pinned (OpenSpec.ofChange bundlesClashSpecSpec)

/-- ITS FALSE NEIGHBOUR: 'it returns false'. Refute it at one input. -/
def bundlesClashSpecWrong : ChangeSpec := { name := "bundlesClashSpec", fn := fun _ => fun
  | [d1, d2, d3] => { results := [.lit (.bool false)], args := [d1, d2, d3] }
  | _ => none }
def BundlesClashSpecWrongFalsely : Prop := bundlesClashSpecRow.holds Tryd.pinned (OpenSpec.ofChange bundlesClashSpecWrong)

/-- 'sizarlaw24.BundlesOfSpec': WHATEVER THE INPUT: true; the input reads as it did. -/
def bundlesOfSpecSpec : ChangeSpec := { name := "bundlesOfSpec", fn := fun _ => fun
  | [d1, d2, d3, d4] => { results := [.lit (.bool true)], args := [d1, d2, d3, d4] }
  | _ => none }
def bundlesOfSpecRow : OpenClaim := { program := "ytbpgoddohhiohaadoor", sum := "9399551293697e953f0f3bcd5ccaa7977a78644e1ba2c4d7f1096e9c48d6080e", func := "sizar/sizarlaw24.BundlesOfSpec", spec := "bundlesOfSpec", inPlace := ["internal/reflectlite.ValueOf", "(internal/reflectlite.Value).Type", "(internal/reflectlite.Value).IsNil", "internal/reflectlite.TypeOf", "(internal/reflectlite.Value).Elem", "(internal/reflectlite.Value).Set"], unfollowed := true, recurses := true, named := ["errors.errorType"], apart := false, laid := [("errors.errorType", laid_errors_errorType)] }
def BundlesOfSpecSaid : Prop := bundlesOfSpecRow.holds Tryd.pinned (OpenSpec.ofChange bundlesOfSpecSpec)

/-- ITS FALSE NEIGHBOUR: 'it returns false'. Refute it at one input. -/
def bundlesOfSpecWrong : ChangeSpec := { name := "bundlesOfSpec", fn := fun _ => fun
  | [d1, d2, d3, d4] => { results := [.lit (.bool false)], args := [d1, d2, d3, d4] }
  | _ => none }
def BundlesOfSpecWrongFalsely : Prop := bundlesOfSpecRow.holds Tryd.pinned (OpenSpec.ofChange bundlesOfSpecWrong)

/-- 'sizarlaw24.BundlesAll': WHATEVER THE INPUT: true; the input reads as it did. -/
def bundlesAllSpec : ChangeSpec := { name := "bundlesAll", fn := fun _ => fun
  | [d1, d2] => { results := [.lit (.bool true)], args := [d1, d2] }
  | _ => none }
def bundlesAllRow : OpenClaim := { program := "ytbpgoddohhiohaadoor", sum := "9399551293697e953f0f3bcd5ccaa7977a78644e1ba2c4d7f1096e9c48d6080e", func := "sizar/sizarlaw24.BundlesAll", spec := "bundlesAll", inPlace := ["internal/reflectlite.ValueOf", "(internal/reflectlite.Value).Type", "(internal/reflectlite.Value).IsNil", "internal/reflectlite.TypeOf", "(internal/reflectlite.Value).Elem", "(internal/reflectlite.Value).Set"], unfollowed := true, recurses := true, named := ["errors.errorType"], apart := false, laid := [("errors.errorType", laid_errors_errorType)] }
def BundlesAllSaid : Prop := bundlesAllRow.holds Tryd.pinned (OpenSpec.ofChange bundlesAllSpec)

/-- ITS FALSE NEIGHBOUR: 'it returns false'. Refute it at one input. -/
def bundlesAllWrong : ChangeSpec := { name := "bundlesAll", fn := fun _ => fun
  | [d1, d2] => { results := [.lit (.bool false)], args := [d1, d2] }
  | _ => none }
def BundlesAllWrongFalsely : Prop := bundlesAllRow.holds Tryd.pinned (OpenSpec.ofChange bundlesAllWrong)

/-- 'sizarlaw24.BundlesApart': WHATEVER THE INPUT: true; the input reads as it did. -/
def bundlesApartSpec : ChangeSpec := { name := "bundlesApart", fn := fun _ => fun
  | [d1, d2, d3] => { results := [.lit (.bool true)], args := [d1, d2, d3] }
  | _ => none }
def bundlesApartRow : OpenClaim := { program := "ytbpgoddohhiohaadoor", sum := "9399551293697e953f0f3bcd5ccaa7977a78644e1ba2c4d7f1096e9c48d6080e", func := "sizar/sizarlaw24.BundlesApart", spec := "bundlesApart", inPlace := ["internal/reflectlite.ValueOf", "(internal/reflectlite.Value).Type", "(internal/reflectlite.Value).IsNil", "internal/reflectlite.TypeOf", "(internal/reflectlite.Value).Elem", "(internal/reflectlite.Value).Set"], unfollowed := true, recurses := true, named := ["errors.errorType"], apart := false, laid := [("errors.errorType", laid_errors_errorType)] }
def BundlesApartSaid : Prop := bundlesApartRow.holds Tryd.pinned (OpenSpec.ofChange bundlesApartSpec)

/-- ITS FALSE NEIGHBOUR: 'it returns false'. Refute it at one input. -/
def bundlesApartWrong : ChangeSpec := { name := "bundlesApart", fn := fun _ => fun
  | [d1, d2, d3] => { results := [.lit (.bool false)], args := [d1, d2, d3] }
  | _ => none }
def BundlesApartWrongFalsely : Prop := bundlesApartRow.holds Tryd.pinned (OpenSpec.ofChange bundlesApartWrong)

/-- 'sizarlaw24.BundlesBack': WHATEVER THE INPUT: true; the input reads as it did. -/
def bundlesBackSpec : ChangeSpec := { name := "bundlesBack", fn := fun _ => fun
  | [d1, d2, d3] => { results := [.lit (.bool true)], args := [d1, d2, d3] }
  | _ => none }
def bundlesBackRow : OpenClaim := { program := "ytbpgoddohhiohaadoor", sum := "9399551293697e953f0f3bcd5ccaa7977a78644e1ba2c4d7f1096e9c48d6080e", func := "sizar/sizarlaw24.BundlesBack", spec := "bundlesBack", inPlace := ["internal/reflectlite.ValueOf", "(internal/reflectlite.Value).Type", "(internal/reflectlite.Value).IsNil", "internal/reflectlite.TypeOf", "(internal/reflectlite.Value).Elem", "(internal/reflectlite.Value).Set"], unfollowed := true, recurses := true, named := ["errors.errorType"], apart := false, laid := [("errors.errorType", laid_errors_errorType)] }
def BundlesBackSaid : Prop := bundlesBackRow.holds Tryd.pinned (OpenSpec.ofChange bundlesBackSpec)

/-- ITS FALSE NEIGHBOUR: 'it returns false'. Refute it at one input. -/
def bundlesBackWrong : ChangeSpec := { name := "bundlesBack", fn := fun _ => fun
  | [d1, d2, d3] => { results := [.lit (.bool false)], args := [d1, d2, d3] }
  | _ => none }
def BundlesBackWrongFalsely : Prop := bundlesBackRow.holds Tryd.pinned (OpenSpec.ofChange bundlesBackWrong)

/-- 'sizarlaw24.BundlesOthers': WHATEVER THE INPUT: true; the input reads as it did. -/
def bundlesOthersSpec : ChangeSpec := { name := "bundlesOthers", fn := fun _ => fun
  | [d1, d2, d3, d4, d5, d6] => { results := [.lit (.bool true)], args := [d1, d2, d3, d4, d5, d6] }
  | _ => none }
def bundlesOthersRow : OpenClaim := { program := "ytbpgoddohhiohaadoor", sum := "9399551293697e953f0f3bcd5ccaa7977a78644e1ba2c4d7f1096e9c48d6080e", func := "sizar/sizarlaw24.BundlesOthers", spec := "bundlesOthers", inPlace := ["internal/reflectlite.ValueOf", "(internal/reflectlite.Value).Type", "(internal/reflectlite.Value).IsNil", "internal/reflectlite.TypeOf", "(internal/reflectlite.Value).Elem", "(internal/reflectlite.Value).Set"], unfollowed := true, recurses := true, named := ["errors.errorType"], apart := false, laid := [("errors.errorType", laid_errors_errorType)] }
def BundlesOthersSaid : Prop := bundlesOthersRow.holds Tryd.pinned (OpenSpec.ofChange bundlesOthersSpec)

/-- ITS FALSE NEIGHBOUR: 'it returns false'. Refute it at one input. -/
def bundlesOthersWrong : ChangeSpec := { name := "bundlesOthers", fn := fun _ => fun
  | [d1, d2, d3, d4, d5, d6] => { results := [.lit (.bool false)], args := [d1, d2, d3, d4, d5, d6] }
  | _ => none }
def BundlesOthersWrongFalsely : Prop := bundlesOthersRow.holds Tryd.pinned (OpenSpec.ofChange bundlesOthersWrong)

/- THE SECOND FORM. 'bulk': how many values and letters a reading holds, each counted each time it is reached (what is shared counts as often as it is met; a slice's spare places count too). A statement '..UptoSaid' is the law's where the arguments, and the package variables that the reading takes, are together of bulk at most 1048576: NARROWER than '..Said'. Prove '..Said' where nothing that the law and all that it calls make is longer than what came in: it says more and counts as full. Else prove '..UptoSaid'. A law counts once. -/
mutual
def uptoBulk {H : Type} : DataW H → Nat
  | .lit (.string bytes) => bytes.length + 1
  | .lit _ => 1
  | .nil => 1
  | .ptr d => uptoBulk d + 1
  | .slice elems spare => uptoBulkAll elems + uptoBulkAll spare + 1
  | .agg parts => uptoBulkAll parts + 1
  | .iface _ d => uptoBulk d + 1
  | .map entries => uptoBulkEntries entries + 1
  | .held _ => 1
def uptoBulkAll {H : Type} : List (DataW H) → Nat
  | [] => 0
  | d :: r => uptoBulk d + uptoBulkAll r
def uptoBulkEntries {H : Type} : List (Lit × DataW H) → Nat
  | [] => 0
  | x :: r => uptoBulkEntry x + uptoBulkEntries r
def uptoBulkEntry {H : Type} : Lit × DataW H → Nat
  | (.string bytes, d) => bytes.length + uptoBulk d + 1
  | (_, d) => uptoBulk d + 1
 end
def uptoSmall : (H : Type) → List (DataW H) → Bool := fun _ ds => decide (uptoBulkAll ds ≤ 1048576)
def OpenSpec.upto (s : _root_.Go.ChangeSpec) : _root_.Go.OpenSpec := { _root_.Go.OpenSpec.ofChange s with cond := some uptoSmall }

/-- 'sizarlaw24.BundlesSpec', WHERE WHAT IT READS IS OF BULK AT MOST 1048576: true; the input reads as it did. -/
def bundlesSpecUptoRow : OpenClaim := { program := "ytbpgoddohhiohaadoor", sum := "9399551293697e953f0f3bcd5ccaa7977a78644e1ba2c4d7f1096e9c48d6080e", func := "sizar/sizarlaw24.BundlesSpec", spec := "bundlesSpec", inPlace := ["internal/reflectlite.ValueOf", "(internal/reflectlite.Value).Type", "(internal/reflectlite.Value).IsNil", "internal/reflectlite.TypeOf", "(internal/reflectlite.Value).Elem", "(internal/reflectlite.Value).Set"], unfollowed := true, recurses := true, named := ["errors.errorType"], apart := false, laid := [("errors.errorType", laid_errors_errorType)], narrowed := true }
def BundlesSpecUptoSaid : Prop := bundlesSpecUptoRow.holds Tryd.pinned (OpenSpec.upto bundlesSpecSpec)

/-- 'sizarlaw24.BundlesClashSpec', WHERE WHAT IT READS IS OF BULK AT MOST 1048576: true; the input reads as it did. -/
def bundlesClashSpecUptoRow : OpenClaim := { program := "ytbpgoddohhiohaadoor", sum := "9399551293697e953f0f3bcd5ccaa7977a78644e1ba2c4d7f1096e9c48d6080e", func := "sizar/sizarlaw24.BundlesClashSpec", spec := "bundlesClashSpec", inPlace := ["internal/reflectlite.ValueOf", "(internal/reflectlite.Value).Type", "(internal/reflectlite.Value).IsNil", "internal/reflectlite.TypeOf", "(internal/reflectlite.Value).Elem", "(internal/reflectlite.Value).Set"], unfollowed := true, recurses := true, named := ["errors.errorType"], apart := false, laid := [("errors.errorType", laid_errors_errorType)], narrowed := true }
def BundlesClashSpecUptoSaid : Prop := bundlesClashSpecUptoRow.holds Tryd.pinned (OpenSpec.upto bundlesClashSpecSpec)

/-- 'sizarlaw24.BundlesOfSpec', WHERE WHAT IT READS IS OF BULK AT MOST 1048576: true; the input reads as it did. -/
def bundlesOfSpecUptoRow : OpenClaim := { program := "ytbpgoddohhiohaadoor", sum := "9399551293697e953f0f3bcd5ccaa7977a78644e1ba2c4d7f1096e9c48d6080e", func := "sizar/sizarlaw24.BundlesOfSpec", spec := "bundlesOfSpec", inPlace := ["internal/reflectlite.ValueOf", "(internal/reflectlite.Value).Type", "(internal/reflectlite.Value).IsNil", "internal/reflectlite.TypeOf", "(internal/reflectlite.Value).Elem", "(internal/reflectlite.Value).Set"], unfollowed := true, recurses := true, named := ["errors.errorType"], apart := false, laid := [("errors.errorType", laid_errors_errorType)], narrowed := true }
def BundlesOfSpecUptoSaid : Prop := bundlesOfSpecUptoRow.holds Tryd.pinned (OpenSpec.upto bundlesOfSpecSpec)

/-- 'sizarlaw24.BundlesAll', WHERE WHAT IT READS IS OF BULK AT MOST 1048576: true; the input reads as it did. -/
def bundlesAllUptoRow : OpenClaim := { program := "ytbpgoddohhiohaadoor", sum := "9399551293697e953f0f3bcd5ccaa7977a78644e1ba2c4d7f1096e9c48d6080e", func := "sizar/sizarlaw24.BundlesAll", spec := "bundlesAll", inPlace := ["internal/reflectlite.ValueOf", "(internal/reflectlite.Value).Type", "(internal/reflectlite.Value).IsNil", "internal/reflectlite.TypeOf", "(internal/reflectlite.Value).Elem", "(internal/reflectlite.Value).Set"], unfollowed := true, recurses := true, named := ["errors.errorType"], apart := false, laid := [("errors.errorType", laid_errors_errorType)], narrowed := true }
def BundlesAllUptoSaid : Prop := bundlesAllUptoRow.holds Tryd.pinned (OpenSpec.upto bundlesAllSpec)

/-- 'sizarlaw24.BundlesApart', WHERE WHAT IT READS IS OF BULK AT MOST 1048576: true; the input reads as it did. -/
def bundlesApartUptoRow : OpenClaim := { program := "ytbpgoddohhiohaadoor", sum := "9399551293697e953f0f3bcd5ccaa7977a78644e1ba2c4d7f1096e9c48d6080e", func := "sizar/sizarlaw24.BundlesApart", spec := "bundlesApart", inPlace := ["internal/reflectlite.ValueOf", "(internal/reflectlite.Value).Type", "(internal/reflectlite.Value).IsNil", "internal/reflectlite.TypeOf", "(internal/reflectlite.Value).Elem", "(internal/reflectlite.Value).Set"], unfollowed := true, recurses := true, named := ["errors.errorType"], apart := false, laid := [("errors.errorType", laid_errors_errorType)], narrowed := true }
def BundlesApartUptoSaid : Prop := bundlesApartUptoRow.holds Tryd.pinned (OpenSpec.upto bundlesApartSpec)

/-- 'sizarlaw24.BundlesBack', WHERE WHAT IT READS IS OF BULK AT MOST 1048576: true; the input reads as it did. -/
def bundlesBackUptoRow : OpenClaim := { program := "ytbpgoddohhiohaadoor", sum := "9399551293697e953f0f3bcd5ccaa7977a78644e1ba2c4d7f1096e9c48d6080e", func := "sizar/sizarlaw24.BundlesBack", spec := "bundlesBack", inPlace := ["internal/reflectlite.ValueOf", "(internal/reflectlite.Value).Type", "(internal/reflectlite.Value).IsNil", "internal/reflectlite.TypeOf", "(internal/reflectlite.Value).Elem", "(internal/reflectlite.Value).Set"], unfollowed := true, recurses := true, named := ["errors.errorType"], apart := false, laid := [("errors.errorType", laid_errors_errorType)], narrowed := true }
def BundlesBackUptoSaid : Prop := bundlesBackUptoRow.holds Tryd.pinned (OpenSpec.upto bundlesBackSpec)

/-- 'sizarlaw24.BundlesOthers', WHERE WHAT IT READS IS OF BULK AT MOST 1048576: true; the input reads as it did. -/
def bundlesOthersUptoRow : OpenClaim := { program := "ytbpgoddohhiohaadoor", sum := "9399551293697e953f0f3bcd5ccaa7977a78644e1ba2c4d7f1096e9c48d6080e", func := "sizar/sizarlaw24.BundlesOthers", spec := "bundlesOthers", inPlace := ["internal/reflectlite.ValueOf", "(internal/reflectlite.Value).Type", "(internal/reflectlite.Value).IsNil", "internal/reflectlite.TypeOf", "(internal/reflectlite.Value).Elem", "(internal/reflectlite.Value).Set"], unfollowed := true, recurses := true, named := ["errors.errorType"], apart := false, laid := [("errors.errorType", laid_errors_errorType)], narrowed := true }
def BundlesOthersUptoSaid : Prop := bundlesOthersUptoRow.holds Tryd.pinned (OpenSpec.upto bundlesOthersSpec)

end Rows
end Go.Proofs.YtbpgoddohhiohaaDoor
